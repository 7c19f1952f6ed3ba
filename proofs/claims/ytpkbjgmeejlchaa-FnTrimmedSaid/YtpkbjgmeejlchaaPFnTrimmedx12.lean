-- Made by a program of this session (wip/tools), which leans on the kit's print: checked by Lean alone.
import Derived.Test.YtpkbjgmeejlchaaPFnTrimmedx0
import Derived.Test.YtpkbjgmeejlchaaPFnTrimmedx5
import Derived.Test.YtpkbjgmeejlchaaPFnTrimmedx6
import Derived.Test.YtpkbjgmeejlchaaPFnTrimmedx11
namespace Go.Proofs.Ytpkbjgmeejlchaa.PFnTrimmed
open Go.RowKit Go.Proofs.YtpkbjgmeejlchaaW.PrintWords Go.Proofs.YtpkbjgmeejlchaaW.PrintLast Go.Proofs.YtpkbjgmeejlchaaW.PrintMore
attribute [local go_sem] max2_int min2_int max_two min_two max_three min_three max_four min_four   -- for this text's walks alone
set_option linter.unusedVariables false
set_option linter.unusedSimpArgs false
mutual
def spec_DrawFollowsFrom.j0 : Nat → Int → List (List Int) → List Int → Bool → Option (Int × (List (List Int)) × List Int)
 | 0, _, _, _, _ => none
 | k + 1, x5, x6, x7, x28 => if x28 = true then (if 0 < (x6.length : Int) then (spec_DrawFollowsFrom.l0 k x5 x6 (rd_L1 x6 0) ((rd_L1 x6 0).length : Int) 0) else (none)) else (some (x5, x6, x7))
def spec_DrawFollowsFrom.l0 : Nat → Int → List (List Int) → List Int → Int → Int → Option (Int × (List (List Int)) × List Int)
 | 0, _, _, _, _, _ => none
 | k + 1, x5, x6, x31, x32, x33 => if x33 < x32 then (if 0 ≤ x33 then (if x33 < (x31.length : Int) then (if 0 < (x6.length : Int) then (if 1 < (x6.length : Int) then ((spec_l4Abs.f (rd x31 x33)).bind fun t483 => ((spec_Resolve.f k (rd_L1 x6 0) (rd_L1 x6 1) t483).bind fun bt484 => (if bt484.2 = true then (some (x5, x6, bt484.1)) else (spec_DrawFollowsFrom.l0 k x5 x6 x31 x32 (wrap64 (x33 + 1)))))) else (none)) else (none)) else (none)) else (none)) else (if 0 < (x6.length : Int) then (some (x5, x6, rd_L1 x6 0)) else (none))
end
def spec_DrawFollowsFrom.f (k : Nat) (l0 : List Int) : Option (Int × (List (List Int)) × List Int) := (spec_DrawPropagate.f k l0).bind fun bt467 => (if (bt467.2.1.length : Int) > 1 then ((spec_l1Cur_one.f l0 0 0 2).bind fun bt475 => (spec_DrawFollowsFrom.j0 k bt467.1 bt467.2.1 bt467.2.2 bt475.1)) else (spec_DrawFollowsFrom.j0 k bt467.1 bt467.2.1 bt467.2.2 false))
theorem spec_DrawFollowsFrom.mono_l : ∀ k, (∀ y0 y1 y2 y3, LeO (spec_DrawFollowsFrom.j0 k y0 y1 y2 y3) (spec_DrawFollowsFrom.j0 (k + 1) y0 y1 y2 y3)) ∧ (∀ y0 y1 y2 y3 y4, LeO (spec_DrawFollowsFrom.l0 k y0 y1 y2 y3 y4) (spec_DrawFollowsFrom.l0 (k + 1) y0 y1 y2 y3 y4))
 | 0 => ⟨fun _ _ _ _ r h => by simp [spec_DrawFollowsFrom.j0] at h, fun _ _ _ _ _ r h => by simp [spec_DrawFollowsFrom.l0] at h⟩
 | k + 1 => by
  obtain ⟨ih0, ih1⟩ := spec_DrawFollowsFrom.mono_l k
  refine ⟨?_, ?_⟩
  ·intro y0 y1 y2 y3
   unfold spec_DrawFollowsFrom.j0
   repeat' first
   | (with_reducible exact ih0 _ _ _ _)
   | (with_reducible exact ih1 _ _ _ _ _)
   | (with_reducible exact spec_DrawPropagate.mono _ _)
   | (with_reducible exact spec_Resolve.mono _ _ _ _)
   | (with_reducible exact LeO.refl _)
   | (with_reducible exact LeO.none _)
   | (with_reducible refine LeO.ite ?_ ?_)
   | (with_reducible refine LeO.bind ?_ (fun _ => ?_))
   | exact ih0 _ _ _ _
   | exact ih1 _ _ _ _ _
   | exact spec_DrawPropagate.mono _ _
   | exact spec_Resolve.mono _ _ _ _
   | exact LeO.none _
   | refine LeO.ite ?_ ?_
   | refine LeO.bind ?_ (fun _ => ?_)
  ·intro y0 y1 y2 y3 y4
   unfold spec_DrawFollowsFrom.l0
   repeat' first
   | (with_reducible exact ih0 _ _ _ _)
   | (with_reducible exact ih1 _ _ _ _ _)
   | (with_reducible exact spec_DrawPropagate.mono _ _)
   | (with_reducible exact spec_Resolve.mono _ _ _ _)
   | (with_reducible exact LeO.refl _)
   | (with_reducible exact LeO.none _)
   | (with_reducible refine LeO.ite ?_ ?_)
   | (with_reducible refine LeO.bind ?_ (fun _ => ?_))
   | exact ih0 _ _ _ _
   | exact ih1 _ _ _ _ _
   | exact spec_DrawPropagate.mono _ _
   | exact spec_Resolve.mono _ _ _ _
   | exact LeO.none _
   | refine LeO.ite ?_ ?_
   | refine LeO.bind ?_ (fun _ => ?_)
theorem spec_DrawFollowsFrom.mono : ∀ a0 k, LeO (spec_DrawFollowsFrom.f k a0) (spec_DrawFollowsFrom.f (k + 1) a0) := by
 intro a0 k
 obtain ⟨ih0, ih1⟩ := spec_DrawFollowsFrom.mono_l k
 unfold spec_DrawFollowsFrom.f
 repeat' first
   | (with_reducible exact ih0 _ _ _ _)
   | (with_reducible exact ih1 _ _ _ _ _)
   | (with_reducible exact spec_DrawPropagate.mono _ _)
   | (with_reducible exact spec_Resolve.mono _ _ _ _)
   | (with_reducible exact LeO.refl _)
   | (with_reducible exact LeO.none _)
   | (with_reducible refine LeO.ite ?_ ?_)
   | (with_reducible refine LeO.bind ?_ (fun _ => ?_))
   | exact ih0 _ _ _ _
   | exact ih1 _ _ _ _ _
   | exact spec_DrawPropagate.mono _ _
   | exact spec_Resolve.mono _ _ _ _
   | exact LeO.none _
   | refine LeO.ite ?_ ?_
   | refine LeO.bind ?_ (fun _ => ?_)
def spec_DrawFollowsFrom.T7 : Bool × List (List Nat × List Nat) := (true, [([], []), ([0], [0]), ([1], [1]), ([], []), ([3], [3]), ([4], [4]), ([], []), ([6], [6]), ([2, 5, 7, 7], [2, 5, 7]), ([8], [8]), ([9], [9]), ([9], [9]), ([10, 8, 0, 1, 2, 3, 4, 5, 6, 7, 8, 9, 10], [10]), ([11, 12, 0, 1, 2, 3, 4, 5, 6, 7, 8, 9, 10, 11, 12], [11])])
def spec_DrawFollowsFrom.B7 : List Nat := [0, 1, 3, 0, 8, 24, 0, 64, 255, 511, 1023, 1023, 2047, 8191]
theorem spec_DrawFollowsFrom.tab7 : rtab .any (opsOf Try.f101 7) = spec_DrawFollowsFrom.T7 := by kernel_rfl
theorem spec_DrawFollowsFrom.bits7 : waitsOk spec_DrawFollowsFrom.T7.2 spec_DrawFollowsFrom.B7 = true := by kernel_rfl
def spec_DrawFollowsFrom.T11 : Bool × List (List Nat × List Nat) := (true, [([], []), ([], []), ([], []), ([2], [2]), ([3], [3]), ([0, 0], [0]), ([1, 5, 0, 1, 5], [1]), ([4, 6, 0, 1, 2, 3, 4, 5, 6], [4])])
def spec_DrawFollowsFrom.B11 : List Nat := [0, 0, 0, 4, 12, 1, 35, 127]
theorem spec_DrawFollowsFrom.tab11 : rtab .any (opsOf Try.f101 11) = spec_DrawFollowsFrom.T11 := by kernel_rfl
theorem spec_DrawFollowsFrom.bits11 : waitsOk spec_DrawFollowsFrom.T11.2 spec_DrawFollowsFrom.B11 = true := by kernel_rfl
set_option maxHeartbeats 8000000 in
set_option maxRecDepth 100000 in
theorem spec_DrawFollowsFrom.calls (k : Nat) (A0 : Option Addr) (c0 : Nat) (l0 : List Int) (r1 : Int) (r2 : List (List Int)) (r3 : List Int) (w : World) (hr0 : Kd.C (Kd.int .u8) w A0 l0.length l0) (hc0 : l0.length ≤ c0) (h : spec_DrawFollowsFrom.f k l0 = some (r1, r2, r3)) :
  Calls Try.prog 101 #[.slice A0 l0.length c0] w fun e w' => ∃ v1_ v2_ : Value, e = .returned (.tuple #[.int .i64 r1, v1_, v2_]) ∧ Kd.S (Kd.slice 3 (Kd.int .i64)) 42 w' w.heap.size (fun _ => True) v1_ r2 ∧ Kd.R (Kd.int .i64) 3 w' w.heap.size (fun _ => True) v2_ r3 ∧ Below w.heap.size w w' := by
 have hu72 := Try.underlying72
 have HR0 := Aside0.mk hr0
 have HC0 := Aside0.mk hc0
 clear hr0 hc0
 have HB := Aside0.mk (Below.refl w.heap.size w)
 have H : ((spec_DrawPropagate.f k l0).bind fun bt467 => (if (bt467.2.1.length : Int) > 1 then ((spec_l1Cur_one.f l0 0 0 2).bind fun bt475 => (spec_DrawFollowsFrom.j0 k bt467.1 bt467.2.1 bt467.2.2 bt475.1)) else (spec_DrawFollowsFrom.j0 k bt467.1 bt467.2.1 bt467.2.2 false))) = some (r1, r2, r3) := h
 clear h
 replace H := Option.bind_eq_some_iff.mp H
 obtain ⟨⟨t467, t468, t469⟩, A20, H⟩ := H
 (try dsimp only at H)
 have A2 := Aside0.mk A20
 clear A20
 have HC3 := Aside0.mk H
 clear H
 go_enter Try.func101, Try.ntmps101
 go_upto_region 3 with (first | ((with_reducible refine gate_callee (f := 127) rfl ?_); refine goesL_ (some 15) rfl rfl Try.func127 (by kernel_rfl) rfl #[.slice A0 l0.length c0] rfl (by simp only [zA_, zB_, zD_] <;> rfl) ?_; (with_reducible refine (spec_DrawPropagate.calls k _ _ l0 t467 t468 t469 _ ?side1 ?side2 A2.out).mono ?_); (case side1 => exact zC_ HR0.out); (case side2 => exact HC0.out); rintro e w4 ⟨v470, v472, rfl, ho0, ho1, hb⟩; refine ⟨_, rfl, ?_⟩; have n0_ := Aside0.mk (Kd.S_lower ho0 (below_size (zb_ HB.out))); have n1_ := Aside0.mk (Kd.R_lower ho1 (below_size (zb_ HB.out))); have n2_ := Aside0.mk (below_step (zb_ HB.out) hb); clear HB; have HO471 := n0_; have HO473 := n1_; have HB := n2_; clear n0_ n1_ n2_; (try clear hb); (try clear hb2); (try clear hk); (try clear hi); (try clear ho0); (try clear ho1)) | ((with_reducible refine gate_dst (N := 21) rfl ?_); refine box_event ?hg (N := 21) ?hd (cs := #[.slice A0 l0.length c0, .int .i64 0, .int .u64 0]) (t := 72) ?hr ?_; (case hd => rfl); (case hg => rfl); (case hr => first | (go_simp; done) | (go_simp; rfl)); intro gb474 hg w5 hbox hb; have n0_ := Aside0.mk (Kd.S_below (zS_ HO471.out) hb); have n1_ := Aside0.mk (Kd.R_below (zR_ HO473.out) hb); have n2_ := Aside0.mk (below_step (zb_ HB.out) hb); have n3_ := Aside0.mk ((show IsS72 w w5 gb474 l0 0 0 from ⟨_, _,  hbox, (by rw [hg]; exact (below_size (zb_ HB.out)) : w.heap.size ≤ gb474), HR0.out⟩)); clear HO471; clear HO473; clear HB; have HO471 := n0_; have HO473 := n1_; have HB := n2_; have HI474 := n3_; clear n0_ n1_ n2_ n3_; clear hb hbox hg))
 (try simp only [Act.put, List.setIfInBounds_toArray, List.set_cons_zero, List.set_cons_succ])
 go_cut [28] (fun v28 wc => ∃ (kq : Nat) (x28_2 : Bool), v28 = .bool x28_2 ∧ Aside0 (spec_DrawFollowsFrom.j0 kq t467 t468 t469 x28_2 = some (r1, r2, r3)) ∧ Aside0 (kq ≤ k) ∧ Aside0 (Kd.S (Kd.slice 3 (Kd.int .i64)) 42 wc w.heap.size (fun _ => True) v470 t468) ∧ Aside0 (Kd.R (Kd.int .i64) 3 wc w.heap.size (fun _ => True) v472 t469) ∧ Aside0 (Below w.heap.size w wc))
 case first =>
  have H := HC3.out
  clear HC3
  by_cases c6 : (t468.length : Int) > 1
  ·rw [if_pos c6] at H
   have c6b0 : decide (1 < (t468.length : Int)) = true := decide_eq_true c6
   have c6b1 : decide (1 < t468.length) = true := decide_eq_true (by omega)
   clear c6
   (first | rw [c6b0] | (simp only [i64_w, i32_w]; rw [c6b0]) | skip)
   replace H := Option.bind_eq_some_iff.mp H
   obtain ⟨⟨t475, t476, t477⟩, A70, H⟩ := H
   (try dsimp only at H)
   have A7 := Aside0.mk A70
   clear A70
   have H' := Aside0.mk H
   clear H
   obtain ⟨Ao8, co8, eo8⟩ := Kd.S_slice HO471.out
   subst eo8
   go_wp2_with (first | (go_at_call 85; (with_reducible refine (spec_l1Cur_one.calls gb474 l0 0 0 2 t475 t476 t477 w _ ?side1 ?side2 A7.out).mono ?_); (case side1 => exact IsS72.g HI474.out); (case side2 => exact zb_ HB.out); rintro e w9 ⟨rfl, hi, hb, hk⟩; have n0_ := Aside0.mk (Kd.S_mono (Kd.S_keep (IsS72.apartS (show IsS72 w _ gb474 l0 0 0 from IsS72.g HI474.out) (zS_ HO471.out) (by decide)) hk (fun _ h => h.2)) (fun _ h => h.1)); have n1_ := Aside0.mk (Kd.R_mono (Kd.R_keep (IsS72.apart (show IsS72 w _ gb474 l0 0 0 from IsS72.g HI474.out) (zR_ HO473.out) (by decide)) hk (fun _ h => h.2)) (fun _ h => h.1)); have n2_ := Aside0.mk (hb); have n3_ := Aside0.mk (hi); clear HO471; clear HO473; clear HB; clear HI474; have HO471 := n0_; have HO473 := n1_; have HB := n2_; have HI474 := n3_; clear n0_ n1_ n2_ n3_; (try clear hb); (try clear hb2); (try clear hk); (try clear hi)))
   go_meet
   case rel => exact ⟨_, (t475), (by first | rfl | (simp; done) | (simp [*]; done)), H', ⟨by first | omega | exact Nat.le_refl _⟩, ⟨zS_ HO471.out⟩, ⟨zR_ HO473.out⟩, ⟨zb_ HB.out⟩⟩
  ·rw [if_neg c6] at H
   have c6b0 : decide (1 < (t468.length : Int)) = false := decide_eq_false c6
   have c6b1 : decide (1 < t468.length) = false := decide_eq_false (by omega)
   clear c6
   (first | rw [c6b0] | (simp only [i64_w, i32_w]; rw [c6b0]) | skip)
   have H' := Aside0.mk H
   clear H
   obtain ⟨Ao10, co10, eo10⟩ := Kd.S_slice HO471.out
   subst eo10
   go_wp2
   go_meet
   case rel => exact ⟨_, (false), (by first | rfl | (simp; done) | (simp [*]; done)), H', ⟨by first | omega | exact Nat.le_refl _⟩, ⟨zS_ HO471.out⟩, ⟨zR_ HO473.out⟩, ⟨zb_ HB.out⟩⟩
 case rest =>
  clear HC3
  try clear c1
  try clear p2
  try clear c6
  try clear c6b0
  try clear c6b1
  try clear c10
  obtain ⟨kq, x28_2, rfl, HA, HJ2, HO_6, HO_7, HB⟩ := hcut
  cases kq with
  | zero => exact absurd HA.out (by simp [spec_DrawFollowsFrom.j0])
  | succ kj2 =>
   have H := HA.out
   clear HA
   simp only [spec_DrawFollowsFrom.j0] at H
   by_cases c11 : x28_2 = true
   ·subst c11
    have H1 : (if 0 < (t468.length : Int) then (spec_DrawFollowsFrom.l0 kj2 t467 t468 (rd_L1 t468 0) ((rd_L1 t468 0).length : Int) 0) else (none)) = some (r1, r2, r3) := by rw [if_pos rfl] at H; exact H
    clear H
    have H := H1
    clear H1
    by_cases c12 : 0 < (t468.length : Int)
    ·rw [if_pos c12] at H
     have c12b0 : decide (0 < (t468.length : Int)) = true := decide_eq_true c12
     have c12b1 : decide (0 < t468.length) = true := decide_eq_true (by omega)
     clear c12
     have H' := Aside0.mk H
     clear H
     obtain ⟨Ao13, co13, eo13⟩ := Kd.S_slice HO_6.out
     subst eo13
     have p478 : 0 ≤ (0 : Int) := (by omega)
     have q478 : 0 < (t468.length : Int) := of_decide_eq_true (by assumption)
     obtain ⟨ad478, A478_0, c478_0, e478, hx478_0, hl478_0, hi478_0⟩ := at_L1 (Kd.S_reads' HO_6.out).2.2 0 p478 q478
     cases e478
     obtain ⟨ce478, hce478, hMe478, hcc478⟩ := Kd.S_get HO_6.out [] 0 p478 (by first | exact q478 | exact of_decide_eq_true (by assumption) | (have e_ := (Kd.S_reads' HO_6.out).1; omega))
     obtain ⟨ve478_0, rfl, ge478_0⟩ := hMe478
     have hv478_0 := hcc478 0 _ rfl
     rw [Nat.add_zero, show ((Kd.slice 3 (Kd.int .i64))).sz = 1 from rfl, Nat.mul_one] at hv478_0
     replace hv478_0 := Option.some.inj (hv478_0.symm.trans hx478_0)
     rw [hv478_0] at ge478_0
     have HL478_0 := Aside0.mk (show Kd.R (Kd.int .i64) 3 _ _ _ _ (rd_L1 t468 0) from ge478_0)
     clear hv478_0 ge478_0
     clear hcc478 hce478
     have qi478 : (0 < t468.length) = True := eq_true (by omega)
     (try rw [show ((0 : Int)).toNat = 0 from rfl] at hx478_0)
     (try rw [Addr.add_zero'] at hx478_0)
     have HR478_0 := Aside0.mk hi478_0
     have HC478_0 := Aside0.mk hl478_0
     clear hi478_0 hl478_0
     replace p478 := eq_true p478
     replace q478 := eq_true q478
     go_wp2
     go_loopg [33] kj2 (fun kq v33 w' => ∃ (x33_2 : Int), v33 = .int .i64 x33_2 ∧ Aside0 (spec_DrawFollowsFrom.l0 kq t467 t468 (rd_L1 t468 0) ((rd_L1 t468 0).length : Int) x33_2 = some (r1, r2, r3)) ∧ Aside0 (kq ≤ kj2) ∧ Aside0 (Kd.S (Kd.slice 3 (Kd.int .i64)) 42 w' w.heap.size (fun _ => True) (.slice (some ad478) t468.length co13) t468) ∧ Aside0 (Kd.C (Kd.int .i64) w' A478_0 (rd_L1 t468 0).length (rd_L1 t468 0)) ∧ Aside0 (Below w.heap.size w w'))
     case atStart => exact ⟨(0), (by first | rfl | (simp; done) | (simp [*]; done)), H', ⟨Nat.le_refl _⟩, ⟨zS_ HO_6.out⟩, ⟨by repeat (first | (with_reducible exact HR478_0.out) | (with_reducible refine Kd.C_alloc ?_ _) | (with_reducible refine Kd.C_drewN ?_ _) | (with_reducible refine Kd.C_drew ?_) | exact HR478_0.out)⟩, ⟨zb_ HB.out⟩⟩
     case round =>
      clear H'
      try clear c1
      try clear p2
      try clear c4
      try clear p4
      try clear q4
      try clear hx4
      try clear qi4
      try clear c6
      try clear c6b0
      try clear c6b1
      try clear c10
      try clear c11
      try clear c12
      try clear c12b0
      try clear c12b1
      try clear hx478_0
      try clear p2
      try clear p478
      try clear q478
      obtain ⟨x33_2, rfl, HA, HK2, HO_6, HR478_0, HB⟩ := hrel
      cases gk with
      | zero => exact absurd HA.out (by simp [spec_DrawFollowsFrom.l0])
      | succ k2 =>
       have H := HA.out
       clear HA
       simp only [spec_DrawFollowsFrom.l0] at H
       by_cases c14 : x33_2 < ((rd_L1 t468 0).length : Int)
       ·rw [if_pos c14] at H
        have c14b0 : decide (x33_2 < ((rd_L1 t468 0).length : Int)) = true := decide_eq_true c14
        clear c14
        by_cases c15 : 0 ≤ x33_2
        ·rw [if_pos c15] at H
         have c15b0 : decide (0 ≤ x33_2) = true := decide_eq_true c15
         clear c15
         by_cases c16 : x33_2 < ((rd_L1 t468 0).length : Int)
         ·rw [if_pos c16] at H
          have c16b0 : decide (x33_2 < ((rd_L1 t468 0).length : Int)) = true := decide_eq_true c16
          clear c16
          by_cases c17 : 0 < (t468.length : Int)
          ·rw [if_pos c17] at H
           have c17b0 : decide (0 < (t468.length : Int)) = true := decide_eq_true c17
           have c17b1 : decide (0 < t468.length) = true := decide_eq_true (by omega)
           clear c17
           by_cases c18 : 1 < (t468.length : Int)
           ·rw [if_pos c18] at H
            have c18b0 : decide (1 < (t468.length : Int)) = true := decide_eq_true c18
            have c18b1 : decide (1 < t468.length) = true := decide_eq_true (by omega)
            clear c18
            replace H := Option.bind_eq_some_iff.mp H
            obtain ⟨t483, A190, H⟩ := H
            (try dsimp only at H)
            have A19 := Aside0.mk A190
            clear A190
            replace H := Option.bind_eq_some_iff.mp H
            obtain ⟨⟨t484, t485⟩, A200, H⟩ := H
            (try dsimp only at H)
            have A20 := Aside0.mk A200
            clear A200
            by_cases c21 : t485 = true
            ·subst c21
             have H1 : (some (t467, t468, t484)) = some (r1, r2, r3) := by rw [if_pos rfl] at H; exact H
             clear H
             have H := H1
             clear H1
             simp only [Option.some.injEq, Prod.mk.injEq] at H
             obtain ⟨rfl, rfl, rfl⟩ := H
             have p480 : 0 ≤ (x33_2 : Int) := of_decide_eq_true (by assumption)
             have q480 : x33_2 < ((rd_L1 t468 0).length : Int) := of_decide_eq_true (by assumption)
             obtain ⟨ad480, e480, hx480_0⟩ := Kd.at_int HR478_0.out x33_2 p480 q480
             cases e480
             (try replace hx480_0 := (HB.out.cell (World.block_lt_of_cell? w _ hx480_0)).trans hx480_0)
             replace p480 := eq_true p480
             replace q480 := eq_true q480
             try go_wp2
             have n0_ := Aside0.mk (Kd.S_drew HO_6.out)
             have n1_ := Aside0.mk (Kd.C_drew HR478_0.out)
             have n2_ := Aside0.mk (below_drew1 HB.out)
             clear HO_6
             clear HR478_0
             clear HB
             have HO_6 := n0_
             have HR478_0 := n1_
             have HB := n2_
             clear n0_ n1_ n2_
             have p481 : 0 ≤ (0 : Int) := (by omega)
             have q481 : 0 < (t468.length : Int) := of_decide_eq_true (by assumption)
             obtain ⟨ad481, A481_0, c481_0, e481, hx481_0, hl481_0, hi481_0⟩ := at_L1 (Kd.S_reads' HO_6.out).2.2 0 p481 q481
             obtain rfl : ad478 = ad481 := (by injection e481)
             obtain ⟨ce481, hce481, hMe481, hcc481⟩ := Kd.S_get HO_6.out [] 0 p481 (by first | exact q481 | exact of_decide_eq_true (by assumption) | (have e_ := (Kd.S_reads' HO_6.out).1; omega))
             obtain ⟨ve481_0, rfl, ge481_0⟩ := hMe481
             have hv481_0 := hcc481 0 _ rfl
             rw [Nat.add_zero, show ((Kd.slice 3 (Kd.int .i64))).sz = 1 from rfl, Nat.mul_one] at hv481_0
             replace hv481_0 := Option.some.inj (hv481_0.symm.trans hx481_0)
             rw [hv481_0] at ge481_0
             have HL481_0 := Aside0.mk (show Kd.R (Kd.int .i64) 3 _ _ _ _ (rd_L1 t468 0) from ge481_0)
             clear hv481_0 ge481_0
             clear hcc481 hce481
             have qi481 : (0 < t468.length) = True := eq_true (by omega)
             (try rw [show ((0 : Int)).toNat = 0 from rfl] at hx481_0)
             (try rw [Addr.add_zero'] at hx481_0)
             have HR481_0 := Aside0.mk hi481_0
             have HC481_0 := Aside0.mk hl481_0
             clear hi481_0 hl481_0
             replace p481 := eq_true p481
             replace q481 := eq_true q481
             have p482 : 0 ≤ (1 : Int) := (by omega)
             have q482 : 1 < (t468.length : Int) := of_decide_eq_true (by assumption)
             obtain ⟨ad482, A482_0, c482_0, e482, hx482_0, hl482_0, hi482_0⟩ := at_L1 (Kd.S_reads' HO_6.out).2.2 1 p482 q482
             obtain rfl : ad478 = ad482 := (by injection e482)
             obtain ⟨ce482, hce482, hMe482, hcc482⟩ := Kd.S_get HO_6.out [] 1 p482 (by first | exact q482 | exact of_decide_eq_true (by assumption) | (have e_ := (Kd.S_reads' HO_6.out).1; omega))
             obtain ⟨ve482_0, rfl, ge482_0⟩ := hMe482
             have hv482_0 := hcc482 0 _ rfl
             rw [Nat.add_zero, show ((Kd.slice 3 (Kd.int .i64))).sz = 1 from rfl, Nat.mul_one] at hv482_0
             replace hv482_0 := Option.some.inj (hv482_0.symm.trans hx482_0)
             rw [hv482_0] at ge482_0
             have HL482_0 := Aside0.mk (show Kd.R (Kd.int .i64) 3 _ _ _ _ (rd_L1 t468 1) from ge482_0)
             clear hv482_0 ge482_0
             clear hcc482 hce482
             (try simp only [show (1 : Int).toNat = 1 from rfl, Nat.reduceMul, Nat.reduceEqDiff, Go.Addr.add, ↓reduceIte] at hx482_0)
             have qi482 : (1 < t468.length) = True := eq_true (by omega)
             (try rw [show ((1 : Int)).toNat = 1 from rfl] at hx482_0)
             have HR482_0 := Aside0.mk hi482_0
             have HC482_0 := Aside0.mk hl482_0
             clear hi482_0 hl482_0
             replace p482 := eq_true p482
             replace q482 := eq_true q482
             refine start_ (n := 14) (S := fun w' => w'.cell? ad478 = some (.slice A481_0 (rd_L1 t468 0).length c481_0) ∧ w'.cell? ⟨ad478.block, ad478.off + 1, none⟩ = some (.slice A482_0 (rd_L1 t468 1).length c482_0)) (ds := []) #[false, false, false, false, false, false, false, false, false, false, false, false, false, false] (by kernel_rfl) rfl rfl ⟨hx481_0, hx482_0⟩ (fun hHeld => ?_); refine with_tabW spec_DrawFollowsFrom.tab7 spec_DrawFollowsFrom.bits7 (fun HT_ HW_ => ?_)
             generalize wr.drew = w22 at HO_6 HR478_0 HB HL481_0 HL482_0 HR481_0 HR482_0 hx481_0 hx482_0 hHeld ⊢
             refine pure_ (i := 0) (N := some 38) (v := ?_) (a' := ?_) #[true, false, false, false, false, false, false, false, false, false, false, false, false, false] rfl rfl (any_of HT_.out (by kernel_rfl)) (fun _ _ _ h => h) (Or.inl ⟨by rfl, ?_⟩) ?_ ?_
             rotate_left
             ·intro w'
              go_simp
              with_reducible rfl
             rotate_left
             ·simp only [Act.put, List.setIfInBounds_toArray, List.set_cons_zero, List.set_cons_succ, i64_w, i32_w]
              rfl
             refine pure_ (i := 1) (N := some 39) (v := ?_) (a' := ?_) #[true, true, false, false, false, false, false, false, false, false, false, false, false, false] rfl rfl (any_of HT_.out (by kernel_rfl)) (fun _ _ _ h => h) (Or.inl ⟨by rfl, ?_⟩) ?_ ?_
             rotate_left
             ·intro w'
              go_simp
              with_reducible rfl
             rotate_left
             ·simp only [Act.put, List.setIfInBounds_toArray, List.set_cons_zero, List.set_cons_succ, i64_w, i32_w]
              rfl
             refine pure_ (i := 3) (N := some 41) (v := ?_) (a' := ?_) #[true, true, false, true, false, false, false, false, false, false, false, false, false, false] rfl rfl (any_of HT_.out (by kernel_rfl)) (fun _ _ _ h => h) (Or.inl ⟨by rfl, ?_⟩) ?_ ?_
             rotate_left
             ·intro w'
              go_simp
              with_reducible rfl
             rotate_left
             ·simp only [Act.put, List.setIfInBounds_toArray, List.set_cons_zero, List.set_cons_succ, i64_w, i32_w]
              rfl
             refine pure_ (i := 4) (N := some 42) (v := ?_) (a' := ?_) #[true, true, false, true, true, false, false, false, false, false, false, false, false, false] rfl rfl (any_of HT_.out (by kernel_rfl)) (fun _ _ _ h => h) (Or.inl ⟨by rfl, ?_⟩) ?_ ?_
             rotate_left
             ·intro w'
              go_simp
              with_reducible rfl
             rotate_left
             ·simp only [Act.put, List.setIfInBounds_toArray, List.set_cons_zero, List.set_cons_succ, i64_w, i32_w]
              rfl
             refine pure_ (i := 6) (N := some 44) (v := ?_) (a' := ?_) #[true, true, false, true, true, false, true, false, false, false, false, false, false, false] rfl rfl (any_of HT_.out (by kernel_rfl)) (fun _ _ _ h => h) (Or.inl ⟨by rfl, ?_⟩) ?_ ?_
             rotate_left
             ·intro w'
              go_simp
              with_reducible rfl
             rotate_left
             ·simp only [Act.put, List.setIfInBounds_toArray, List.set_cons_zero, List.set_cons_succ, i64_w, i32_w]
              rfl
             refine take_ (i := 2) (N := some 40) (v := ?_) (a' := ?_) #[true, true, true, true, true, false, true, false, false, false, false, false, false, false] rfl rfl (take_ofW HT_.out HW_.out (by kernel_rfl)) (fun _ _ _ h => h) (Or.inl ⟨by rfl, ?_⟩) hHeld ?_ ?_
             rotate_left
             ·rintro w' ⟨s0, s1⟩
              go_simp
              with_reducible rfl
             rotate_left
             ·simp only [Act.put, List.setIfInBounds_toArray, List.set_cons_zero, List.set_cons_succ, i64_w, i32_w]
              rfl
             refine take_ (i := 5) (N := some 43) (v := ?_) (a' := ?_) #[true, true, true, true, true, true, true, false, false, false, false, false, false, false] rfl rfl (take_ofW HT_.out HW_.out (by kernel_rfl)) (fun _ _ _ h => h) (Or.inl ⟨by rfl, ?_⟩) hHeld ?_ ?_
             rotate_left
             ·rintro w' ⟨s0, s1⟩
              go_simp
              with_reducible rfl
             rotate_left
             ·simp only [Act.put, List.setIfInBounds_toArray, List.set_cons_zero, List.set_cons_succ, i64_w, i32_w]
              rfl
             refine one_ (i := 7) (N := some 45) #[true, true, true, true, true, true, true, true, false, false, false, false, false, false] rfl rfl (one_of HT_.out (by kernel_rfl)) (by decide) (fun K hK => ?_)
             refine goes_ Try.func129 (by kernel_rfl) rfl #[.int .i64 (rd (rd_L1 t468 0) x33_2)] (by rfl) rfl rfl (by simp only [zA_, zB_, zD_] <;> rfl) ?_
             with_reducible refine (spec_l4Abs.calls (rd (rd_L1 t468 0) x33_2) t483 _ A19.out).mono ?_
             rintro e w' ⟨rfl, ⟨nd, rfl⟩⟩
             refine ⟨_, rfl, ?_⟩
             refine hK.out _ _ ⟨hHeld.1, hHeld.2⟩ (fun hHeld => ?_)
             clear hK K
             refine norm_ (a' := ?_) ?_ ?_
             rotate_left
             ·show Act.put _ (some 45) _ = _
              simp only [Act.put, List.setIfInBounds_toArray, List.set_cons_zero, List.set_cons_succ, i64_w, i32_w]
              rfl
             refine one_ (i := 8) (N := some 46) #[true, true, true, true, true, true, true, true, true, false, false, false, false, false] rfl rfl (one_of HT_.out (by kernel_rfl)) (by decide) (fun K hK => ?_)
             refine goes_ Try.func128 (by kernel_rfl) rfl #[.slice A481_0 (rd_L1 t468 0).length c481_0, .slice A482_0 (rd_L1 t468 1).length c482_0, .int .i64 t483] (by rfl) rfl rfl (by simp only [zA_, zB_, zD_] <;> rfl) ?_
             with_reducible refine (spec_Resolve.calls k2 _ _ (rd_L1 t468 0) _ _ (rd_L1 t468 1) t483 t484 true _ ?side1 ?side2 ?side3 ?side4 A20.out).mono ?_
             (case side1 => repeat (first | exact (by repeat (first | (with_reducible exact HR481_0.out) | (with_reducible refine Kd.C_alloc ?_ _) | (with_reducible refine Kd.C_drewN ?_ _) | (with_reducible refine Kd.C_drew ?_) | exact HR481_0.out)) | (with_reducible refine Kd.C_alloc ?_ _) | (with_reducible refine Kd.C_drewN ?_ _) | (with_reducible refine Kd.C_drew ?_)))
             (case side2 => exact HC481_0.out)
             (case side3 => repeat (first | exact (by repeat (first | (with_reducible exact HR482_0.out) | (with_reducible refine Kd.C_alloc ?_ _) | (with_reducible refine Kd.C_drewN ?_ _) | (with_reducible refine Kd.C_drew ?_) | exact HR482_0.out)) | (with_reducible refine Kd.C_alloc ?_ _) | (with_reducible refine Kd.C_drewN ?_ _) | (with_reducible refine Kd.C_drew ?_)))
             (case side4 => exact HC482_0.out)
             rintro e w23 ⟨v486, rfl, ho0, hb⟩
             have HS0_ := (hb.cell (World.block_lt_of_cell? _ _ (hHeld.1))).trans (hHeld.1)
             have HS1_ := (hb.cell (World.block_lt_of_cell? _ _ (hHeld.2))).trans (hHeld.2)
             refine ⟨_, rfl, ?_⟩
             have n0_ := Aside0.mk (Kd.S_elder' (zS_ HO_6.out) (Kd.R_base ho0) hb)
             have n1_ := Aside0.mk (Kd.R_elder' (zR_ HL481_0.out) (Kd.R_base ho0) hb)
             have n2_ := Aside0.mk (Kd.R_elder' (zR_ HL482_0.out) (Kd.R_base ho0) hb)
             have n3_ := Aside0.mk (Kd.R_lower (Kd.R_new' (Kd.R_new' ho0 (Kd.R_lt (zR_ HL481_0.out))) (Kd.R_lt (zR_ HL482_0.out))) (below_size (zb_ HB.out)))
             have n4_ := Aside0.mk (Kd.C_below (by repeat (first | (with_reducible exact HR478_0.out) | (with_reducible refine Kd.C_alloc ?_ _) | (with_reducible refine Kd.C_drewN ?_ _) | (with_reducible refine Kd.C_drew ?_) | exact HR478_0.out)) hb)
             have n5_ := Aside0.mk (Kd.C_below (by repeat (first | (with_reducible exact HR481_0.out) | (with_reducible refine Kd.C_alloc ?_ _) | (with_reducible refine Kd.C_drewN ?_ _) | (with_reducible refine Kd.C_drew ?_) | exact HR481_0.out)) hb)
             have n6_ := Aside0.mk (Kd.C_below (by repeat (first | (with_reducible exact HR482_0.out) | (with_reducible refine Kd.C_alloc ?_ _) | (with_reducible refine Kd.C_drewN ?_ _) | (with_reducible refine Kd.C_drew ?_) | exact HR482_0.out)) hb)
             have n7_ := Aside0.mk (below_step (zb_ HB.out) hb)
             clear HO_6
             clear HL481_0
             clear HL482_0
             clear HR478_0
             clear HR481_0
             clear HR482_0
             clear HB
             have HO_6 := n0_
             have HL481_0 := n1_
             have HL482_0 := n2_
             have HO487 := n3_
             have HR478_0 := n4_
             have HR481_0 := n5_
             have HR482_0 := n6_
             have HB := n7_
             clear n0_ n1_ n2_ n3_ n4_ n5_ n6_ n7_
             (try clear hb)
             (try clear hb2)
             (try clear hk)
             (try clear hi)
             (try clear ho0)
             refine hK.out _ _ ⟨HS0_, HS1_⟩ (fun hHeld => ?_)
             clear hK K
             refine norm_ (a' := ?_) ?_ ?_
             rotate_left
             ·show Act.put _ (some 46) _ = _
              simp only [Act.put, List.setIfInBounds_toArray, List.set_cons_zero, List.set_cons_succ, i64_w, i32_w]
              rfl
             refine pure_ (i := 9) (N := some 37) (v := ?_) (a' := ?_) #[true, true, true, true, true, true, true, true, true, true, false, false, false, false] rfl rfl (any_of HT_.out (by kernel_rfl)) (fun _ _ _ h => h) (Or.inl ⟨by rfl, ?_⟩) ?_ ?_
             rotate_left
             ·intro w'
              go_simp
              with_reducible rfl
             rotate_left
             ·simp only [Act.put, List.setIfInBounds_toArray, List.set_cons_zero, List.set_cons_succ, i64_w, i32_w]
              rfl
             refine pure_ (i := 10) (N := some 47) (v := ?_) (a' := ?_) #[true, true, true, true, true, true, true, true, true, true, true, false, false, false] rfl rfl (any_of HT_.out (by kernel_rfl)) (fun _ _ _ h => h) (Or.inl ⟨by rfl, ?_⟩) ?_ ?_
             rotate_left
             ·intro w'
              go_simp
              with_reducible rfl
             rotate_left
             ·simp only [Act.put, List.setIfInBounds_toArray, List.set_cons_zero, List.set_cons_succ, i64_w, i32_w]
              rfl
             refine pure_ (i := 11) (N := some 48) (v := ?_) (a' := ?_) #[true, true, true, true, true, true, true, true, true, true, true, true, false, false] rfl rfl (any_of HT_.out (by kernel_rfl)) (fun _ _ _ h => h) (Or.inl ⟨by rfl, ?_⟩) ?_ ?_
             rotate_left
             ·intro w'
              go_simp
              with_reducible rfl
             rotate_left
             ·simp only [Act.put, List.setIfInBounds_toArray, List.set_cons_zero, List.set_cons_succ, i64_w, i32_w]
              rfl
             refine pure_ (i := 12) (N := some 11) (v := ?_) (a' := ?_) #[true, true, true, true, true, true, true, true, true, true, true, true, true, false] rfl rfl (any_of HT_.out (by kernel_rfl)) (fun _ _ _ h => h) (Or.inl ⟨by rfl, ?_⟩) ?_ ?_
             rotate_left
             ·intro w'
              go_simp
              with_reducible rfl
             rotate_left
             ·simp only [Act.put, List.setIfInBounds_toArray, List.set_cons_zero, List.set_cons_succ, i64_w, i32_w]
              rfl
             refine pure_ (i := 13) (N := some 12) (v := ?_) (a' := ?_) #[true, true, true, true, true, true, true, true, true, true, true, true, true, true] rfl rfl (any_of HT_.out (by kernel_rfl)) (fun _ _ _ h => h) (Or.inl ⟨by rfl, ?_⟩) ?_ ?_
             rotate_left
             ·intro w'
              go_simp
              with_reducible rfl
             rotate_left
             ·simp only [Act.put, List.setIfInBounds_toArray, List.set_cons_zero, List.set_cons_succ, i64_w, i32_w]
              rfl
             refine done_ (done_of HT_.out (by kernel_rfl)) ?_
             try go_wp2
             go_ret3
             exact ⟨_, _, by first | rfl | (simp [errW_none, errW_some] <;> rfl) | (simp [*, errW_none, errW_some] <;> rfl), by (with_reducible repeat (first | apply Kd.S_alloc | apply Kd.S_drewN | apply Kd.S_drew)); exact Kd.S_mono HO_6.out (fun _ hk => trivial), by (with_reducible repeat (first | apply Kd.R_alloc | apply Kd.R_drewN | apply Kd.R_drew)); exact Kd.R_mono HO487.out (fun _ hk => trivial), zb_ HB.out⟩
            ·replace c21 := Bool.eq_false_iff.mpr c21
             subst c21
             have H1 : (spec_DrawFollowsFrom.l0 k2 t467 t468 (rd_L1 t468 0) ((rd_L1 t468 0).length : Int) (wrap64 (x33_2 + 1))) = some (r1, r2, r3) := by rw [if_neg (show ¬ (false = true) by decide)] at H; exact H
             clear H
             have H := H1
             clear H1
             have H' := Aside0.mk H
             clear H
             have p480 : 0 ≤ (x33_2 : Int) := of_decide_eq_true (by assumption)
             have q480 : x33_2 < ((rd_L1 t468 0).length : Int) := of_decide_eq_true (by assumption)
             obtain ⟨ad480, e480, hx480_0⟩ := Kd.at_int HR478_0.out x33_2 p480 q480
             cases e480
             (try replace hx480_0 := (HB.out.cell (World.block_lt_of_cell? w _ hx480_0)).trans hx480_0)
             replace p480 := eq_true p480
             replace q480 := eq_true q480
             try go_wp2
             have n0_ := Aside0.mk (Kd.S_drew HO_6.out)
             have n1_ := Aside0.mk (Kd.C_drew HR478_0.out)
             have n2_ := Aside0.mk (below_drew1 HB.out)
             clear HO_6
             clear HR478_0
             clear HB
             have HO_6 := n0_
             have HR478_0 := n1_
             have HB := n2_
             clear n0_ n1_ n2_
             have p481 : 0 ≤ (0 : Int) := (by omega)
             have q481 : 0 < (t468.length : Int) := of_decide_eq_true (by assumption)
             obtain ⟨ad481, A481_0, c481_0, e481, hx481_0, hl481_0, hi481_0⟩ := at_L1 (Kd.S_reads' HO_6.out).2.2 0 p481 q481
             obtain rfl : ad478 = ad481 := (by injection e481)
             obtain ⟨ce481, hce481, hMe481, hcc481⟩ := Kd.S_get HO_6.out [] 0 p481 (by first | exact q481 | exact of_decide_eq_true (by assumption) | (have e_ := (Kd.S_reads' HO_6.out).1; omega))
             obtain ⟨ve481_0, rfl, ge481_0⟩ := hMe481
             have hv481_0 := hcc481 0 _ rfl
             rw [Nat.add_zero, show ((Kd.slice 3 (Kd.int .i64))).sz = 1 from rfl, Nat.mul_one] at hv481_0
             replace hv481_0 := Option.some.inj (hv481_0.symm.trans hx481_0)
             rw [hv481_0] at ge481_0
             have HL481_0 := Aside0.mk (show Kd.R (Kd.int .i64) 3 _ _ _ _ (rd_L1 t468 0) from ge481_0)
             clear hv481_0 ge481_0
             clear hcc481 hce481
             have qi481 : (0 < t468.length) = True := eq_true (by omega)
             (try rw [show ((0 : Int)).toNat = 0 from rfl] at hx481_0)
             (try rw [Addr.add_zero'] at hx481_0)
             have HR481_0 := Aside0.mk hi481_0
             have HC481_0 := Aside0.mk hl481_0
             clear hi481_0 hl481_0
             replace p481 := eq_true p481
             replace q481 := eq_true q481
             have p482 : 0 ≤ (1 : Int) := (by omega)
             have q482 : 1 < (t468.length : Int) := of_decide_eq_true (by assumption)
             obtain ⟨ad482, A482_0, c482_0, e482, hx482_0, hl482_0, hi482_0⟩ := at_L1 (Kd.S_reads' HO_6.out).2.2 1 p482 q482
             obtain rfl : ad478 = ad482 := (by injection e482)
             obtain ⟨ce482, hce482, hMe482, hcc482⟩ := Kd.S_get HO_6.out [] 1 p482 (by first | exact q482 | exact of_decide_eq_true (by assumption) | (have e_ := (Kd.S_reads' HO_6.out).1; omega))
             obtain ⟨ve482_0, rfl, ge482_0⟩ := hMe482
             have hv482_0 := hcc482 0 _ rfl
             rw [Nat.add_zero, show ((Kd.slice 3 (Kd.int .i64))).sz = 1 from rfl, Nat.mul_one] at hv482_0
             replace hv482_0 := Option.some.inj (hv482_0.symm.trans hx482_0)
             rw [hv482_0] at ge482_0
             have HL482_0 := Aside0.mk (show Kd.R (Kd.int .i64) 3 _ _ _ _ (rd_L1 t468 1) from ge482_0)
             clear hv482_0 ge482_0
             clear hcc482 hce482
             (try simp only [show (1 : Int).toNat = 1 from rfl, Nat.reduceMul, Nat.reduceEqDiff, Go.Addr.add, ↓reduceIte] at hx482_0)
             have qi482 : (1 < t468.length) = True := eq_true (by omega)
             (try rw [show ((1 : Int)).toNat = 1 from rfl] at hx482_0)
             have HR482_0 := Aside0.mk hi482_0
             have HC482_0 := Aside0.mk hl482_0
             clear hi482_0 hl482_0
             replace p482 := eq_true p482
             replace q482 := eq_true q482
             refine start_ (n := 14) (S := fun w' => w'.cell? ad478 = some (.slice A481_0 (rd_L1 t468 0).length c481_0) ∧ w'.cell? ⟨ad478.block, ad478.off + 1, none⟩ = some (.slice A482_0 (rd_L1 t468 1).length c482_0)) (ds := []) #[false, false, false, false, false, false, false, false, false, false, false, false, false, false] (by kernel_rfl) rfl rfl ⟨hx481_0, hx482_0⟩ (fun hHeld => ?_); refine with_tabW spec_DrawFollowsFrom.tab7 spec_DrawFollowsFrom.bits7 (fun HT_ HW_ => ?_)
             generalize wr.drew = w24 at HO_6 HR478_0 HB HL481_0 HL482_0 HR481_0 HR482_0 hx481_0 hx482_0 hHeld ⊢
             refine pure_ (i := 0) (N := some 38) (v := ?_) (a' := ?_) #[true, false, false, false, false, false, false, false, false, false, false, false, false, false] rfl rfl (any_of HT_.out (by kernel_rfl)) (fun _ _ _ h => h) (Or.inl ⟨by rfl, ?_⟩) ?_ ?_
             rotate_left
             ·intro w'
              go_simp
              with_reducible rfl
             rotate_left
             ·simp only [Act.put, List.setIfInBounds_toArray, List.set_cons_zero, List.set_cons_succ, i64_w, i32_w]
              rfl
             refine pure_ (i := 1) (N := some 39) (v := ?_) (a' := ?_) #[true, true, false, false, false, false, false, false, false, false, false, false, false, false] rfl rfl (any_of HT_.out (by kernel_rfl)) (fun _ _ _ h => h) (Or.inl ⟨by rfl, ?_⟩) ?_ ?_
             rotate_left
             ·intro w'
              go_simp
              with_reducible rfl
             rotate_left
             ·simp only [Act.put, List.setIfInBounds_toArray, List.set_cons_zero, List.set_cons_succ, i64_w, i32_w]
              rfl
             refine pure_ (i := 3) (N := some 41) (v := ?_) (a' := ?_) #[true, true, false, true, false, false, false, false, false, false, false, false, false, false] rfl rfl (any_of HT_.out (by kernel_rfl)) (fun _ _ _ h => h) (Or.inl ⟨by rfl, ?_⟩) ?_ ?_
             rotate_left
             ·intro w'
              go_simp
              with_reducible rfl
             rotate_left
             ·simp only [Act.put, List.setIfInBounds_toArray, List.set_cons_zero, List.set_cons_succ, i64_w, i32_w]
              rfl
             refine pure_ (i := 4) (N := some 42) (v := ?_) (a' := ?_) #[true, true, false, true, true, false, false, false, false, false, false, false, false, false] rfl rfl (any_of HT_.out (by kernel_rfl)) (fun _ _ _ h => h) (Or.inl ⟨by rfl, ?_⟩) ?_ ?_
             rotate_left
             ·intro w'
              go_simp
              with_reducible rfl
             rotate_left
             ·simp only [Act.put, List.setIfInBounds_toArray, List.set_cons_zero, List.set_cons_succ, i64_w, i32_w]
              rfl
             refine pure_ (i := 6) (N := some 44) (v := ?_) (a' := ?_) #[true, true, false, true, true, false, true, false, false, false, false, false, false, false] rfl rfl (any_of HT_.out (by kernel_rfl)) (fun _ _ _ h => h) (Or.inl ⟨by rfl, ?_⟩) ?_ ?_
             rotate_left
             ·intro w'
              go_simp
              with_reducible rfl
             rotate_left
             ·simp only [Act.put, List.setIfInBounds_toArray, List.set_cons_zero, List.set_cons_succ, i64_w, i32_w]
              rfl
             refine take_ (i := 2) (N := some 40) (v := ?_) (a' := ?_) #[true, true, true, true, true, false, true, false, false, false, false, false, false, false] rfl rfl (take_ofW HT_.out HW_.out (by kernel_rfl)) (fun _ _ _ h => h) (Or.inl ⟨by rfl, ?_⟩) hHeld ?_ ?_
             rotate_left
             ·rintro w' ⟨s0, s1⟩
              go_simp
              with_reducible rfl
             rotate_left
             ·simp only [Act.put, List.setIfInBounds_toArray, List.set_cons_zero, List.set_cons_succ, i64_w, i32_w]
              rfl
             refine take_ (i := 5) (N := some 43) (v := ?_) (a' := ?_) #[true, true, true, true, true, true, true, false, false, false, false, false, false, false] rfl rfl (take_ofW HT_.out HW_.out (by kernel_rfl)) (fun _ _ _ h => h) (Or.inl ⟨by rfl, ?_⟩) hHeld ?_ ?_
             rotate_left
             ·rintro w' ⟨s0, s1⟩
              go_simp
              with_reducible rfl
             rotate_left
             ·simp only [Act.put, List.setIfInBounds_toArray, List.set_cons_zero, List.set_cons_succ, i64_w, i32_w]
              rfl
             refine one_ (i := 7) (N := some 45) #[true, true, true, true, true, true, true, true, false, false, false, false, false, false] rfl rfl (one_of HT_.out (by kernel_rfl)) (by decide) (fun K hK => ?_)
             refine goes_ Try.func129 (by kernel_rfl) rfl #[.int .i64 (rd (rd_L1 t468 0) x33_2)] (by rfl) rfl rfl (by simp only [zA_, zB_, zD_] <;> rfl) ?_
             with_reducible refine (spec_l4Abs.calls (rd (rd_L1 t468 0) x33_2) t483 _ A19.out).mono ?_
             rintro e w' ⟨rfl, ⟨nd, rfl⟩⟩
             refine ⟨_, rfl, ?_⟩
             refine hK.out _ _ ⟨hHeld.1, hHeld.2⟩ (fun hHeld => ?_)
             clear hK K
             refine norm_ (a' := ?_) ?_ ?_
             rotate_left
             ·show Act.put _ (some 45) _ = _
              simp only [Act.put, List.setIfInBounds_toArray, List.set_cons_zero, List.set_cons_succ, i64_w, i32_w]
              rfl
             refine one_ (i := 8) (N := some 46) #[true, true, true, true, true, true, true, true, true, false, false, false, false, false] rfl rfl (one_of HT_.out (by kernel_rfl)) (by decide) (fun K hK => ?_)
             refine goes_ Try.func128 (by kernel_rfl) rfl #[.slice A481_0 (rd_L1 t468 0).length c481_0, .slice A482_0 (rd_L1 t468 1).length c482_0, .int .i64 t483] (by rfl) rfl rfl (by simp only [zA_, zB_, zD_] <;> rfl) ?_
             with_reducible refine (spec_Resolve.calls k2 _ _ (rd_L1 t468 0) _ _ (rd_L1 t468 1) t483 t484 false _ ?side1 ?side2 ?side3 ?side4 A20.out).mono ?_
             (case side1 => repeat (first | exact (by repeat (first | (with_reducible exact HR481_0.out) | (with_reducible refine Kd.C_alloc ?_ _) | (with_reducible refine Kd.C_drewN ?_ _) | (with_reducible refine Kd.C_drew ?_) | exact HR481_0.out)) | (with_reducible refine Kd.C_alloc ?_ _) | (with_reducible refine Kd.C_drewN ?_ _) | (with_reducible refine Kd.C_drew ?_)))
             (case side2 => exact HC481_0.out)
             (case side3 => repeat (first | exact (by repeat (first | (with_reducible exact HR482_0.out) | (with_reducible refine Kd.C_alloc ?_ _) | (with_reducible refine Kd.C_drewN ?_ _) | (with_reducible refine Kd.C_drew ?_) | exact HR482_0.out)) | (with_reducible refine Kd.C_alloc ?_ _) | (with_reducible refine Kd.C_drewN ?_ _) | (with_reducible refine Kd.C_drew ?_)))
             (case side4 => exact HC482_0.out)
             rintro e w25 ⟨v486, rfl, ho0, hb⟩
             have HS0_ := (hb.cell (World.block_lt_of_cell? _ _ (hHeld.1))).trans (hHeld.1)
             have HS1_ := (hb.cell (World.block_lt_of_cell? _ _ (hHeld.2))).trans (hHeld.2)
             refine ⟨_, rfl, ?_⟩
             have n0_ := Aside0.mk (Kd.S_elder' (zS_ HO_6.out) (Kd.R_base ho0) hb)
             have n1_ := Aside0.mk (Kd.R_elder' (zR_ HL481_0.out) (Kd.R_base ho0) hb)
             have n2_ := Aside0.mk (Kd.R_elder' (zR_ HL482_0.out) (Kd.R_base ho0) hb)
             have n3_ := Aside0.mk (Kd.R_lower (Kd.R_new' (Kd.R_new' ho0 (Kd.R_lt (zR_ HL481_0.out))) (Kd.R_lt (zR_ HL482_0.out))) (below_size (zb_ HB.out)))
             have n4_ := Aside0.mk (Kd.C_below (by repeat (first | (with_reducible exact HR478_0.out) | (with_reducible refine Kd.C_alloc ?_ _) | (with_reducible refine Kd.C_drewN ?_ _) | (with_reducible refine Kd.C_drew ?_) | exact HR478_0.out)) hb)
             have n5_ := Aside0.mk (Kd.C_below (by repeat (first | (with_reducible exact HR481_0.out) | (with_reducible refine Kd.C_alloc ?_ _) | (with_reducible refine Kd.C_drewN ?_ _) | (with_reducible refine Kd.C_drew ?_) | exact HR481_0.out)) hb)
             have n6_ := Aside0.mk (Kd.C_below (by repeat (first | (with_reducible exact HR482_0.out) | (with_reducible refine Kd.C_alloc ?_ _) | (with_reducible refine Kd.C_drewN ?_ _) | (with_reducible refine Kd.C_drew ?_) | exact HR482_0.out)) hb)
             have n7_ := Aside0.mk (below_step (zb_ HB.out) hb)
             clear HO_6
             clear HL481_0
             clear HL482_0
             clear HR478_0
             clear HR481_0
             clear HR482_0
             clear HB
             have HO_6 := n0_
             have HL481_0 := n1_
             have HL482_0 := n2_
             have HO487 := n3_
             have HR478_0 := n4_
             have HR481_0 := n5_
             have HR482_0 := n6_
             have HB := n7_
             clear n0_ n1_ n2_ n3_ n4_ n5_ n6_ n7_
             (try clear hb)
             (try clear hb2)
             (try clear hk)
             (try clear hi)
             (try clear ho0)
             refine hK.out _ _ ⟨HS0_, HS1_⟩ (fun hHeld => ?_)
             clear hK K
             refine norm_ (a' := ?_) ?_ ?_
             rotate_left
             ·show Act.put _ (some 46) _ = _
              simp only [Act.put, List.setIfInBounds_toArray, List.set_cons_zero, List.set_cons_succ, i64_w, i32_w]
              rfl
             refine pure_ (i := 9) (N := some 37) (v := ?_) (a' := ?_) #[true, true, true, true, true, true, true, true, true, true, false, false, false, false] rfl rfl (any_of HT_.out (by kernel_rfl)) (fun _ _ _ h => h) (Or.inl ⟨by rfl, ?_⟩) ?_ ?_
             rotate_left
             ·intro w'
              go_simp
              with_reducible rfl
             rotate_left
             ·simp only [Act.put, List.setIfInBounds_toArray, List.set_cons_zero, List.set_cons_succ, i64_w, i32_w]
              rfl
             refine pure_ (i := 10) (N := some 47) (v := ?_) (a' := ?_) #[true, true, true, true, true, true, true, true, true, true, true, false, false, false] rfl rfl (any_of HT_.out (by kernel_rfl)) (fun _ _ _ h => h) (Or.inl ⟨by rfl, ?_⟩) ?_ ?_
             rotate_left
             ·intro w'
              go_simp
              with_reducible rfl
             rotate_left
             ·simp only [Act.put, List.setIfInBounds_toArray, List.set_cons_zero, List.set_cons_succ, i64_w, i32_w]
              rfl
             refine pure_ (i := 11) (N := some 48) (v := ?_) (a' := ?_) #[true, true, true, true, true, true, true, true, true, true, true, true, false, false] rfl rfl (any_of HT_.out (by kernel_rfl)) (fun _ _ _ h => h) (Or.inl ⟨by rfl, ?_⟩) ?_ ?_
             rotate_left
             ·intro w'
              go_simp
              with_reducible rfl
             rotate_left
             ·simp only [Act.put, List.setIfInBounds_toArray, List.set_cons_zero, List.set_cons_succ, i64_w, i32_w]
              rfl
             refine pure_ (i := 12) (N := some 11) (v := ?_) (a' := ?_) #[true, true, true, true, true, true, true, true, true, true, true, true, true, false] rfl rfl (any_of HT_.out (by kernel_rfl)) (fun _ _ _ h => h) (Or.inl ⟨by rfl, ?_⟩) ?_ ?_
             rotate_left
             ·intro w'
              go_simp
              with_reducible rfl
             rotate_left
             ·simp only [Act.put, List.setIfInBounds_toArray, List.set_cons_zero, List.set_cons_succ, i64_w, i32_w]
              rfl
             refine pure_ (i := 13) (N := some 12) (v := ?_) (a' := ?_) #[true, true, true, true, true, true, true, true, true, true, true, true, true, true] rfl rfl (any_of HT_.out (by kernel_rfl)) (fun _ _ _ h => h) (Or.inl ⟨by rfl, ?_⟩) ?_ ?_
             rotate_left
             ·intro w'
              go_simp
              with_reducible rfl
             rotate_left
             ·simp only [Act.put, List.setIfInBounds_toArray, List.set_cons_zero, List.set_cons_succ, i64_w, i32_w]
              rfl
             refine done_ (done_of HT_.out (by kernel_rfl)) ?_
             try go_wp2
             go_roundg k2
             case measure => have := HJ2.out; have := HK2.out; omega
             case rel => exact ⟨(wrap64 (x33_2 + 1)), (by first | rfl | (simp; done) | (simp [*]; done)), H', ⟨by have := HJ2.out; have := HK2.out; omega⟩, ⟨by (with_reducible repeat (first | apply Kd.S_alloc | apply Kd.S_drewN | apply Kd.S_drew)); exact Kd.S_mono HO_6.out (fun _ hk => trivial)⟩, ⟨by repeat (first | (with_reducible exact HR478_0.out) | (with_reducible refine Kd.C_alloc ?_ _) | (with_reducible refine Kd.C_drewN ?_ _) | (with_reducible refine Kd.C_drew ?_) | exact HR478_0.out)⟩, ⟨zb_ HB.out⟩⟩
           ·rw [if_neg c18] at H
            exact absurd H (by simp)
          ·rw [if_neg c17] at H
           exact absurd H (by simp)
         ·rw [if_neg c16] at H
          exact absurd H (by simp)
        ·rw [if_neg c15] at H
         exact absurd H (by simp)
       ·rw [if_neg c14] at H
        have c14b0 : decide (x33_2 < ((rd_L1 t468 0).length : Int)) = false := decide_eq_false c14
        clear c14
        by_cases c26 : 0 < (t468.length : Int)
        ·rw [if_pos c26] at H
         have c26b0 : decide (0 < (t468.length : Int)) = true := decide_eq_true c26
         have c26b1 : decide (0 < t468.length) = true := decide_eq_true (by omega)
         clear c26
         simp only [Option.some.injEq, Prod.mk.injEq] at H
         obtain ⟨rfl, rfl, rfl⟩ := H
         try go_wp2
         have n0_ := Aside0.mk (Kd.S_drew HO_6.out)
         have n1_ := Aside0.mk (Kd.C_drew HR478_0.out)
         have n2_ := Aside0.mk (below_drew1 HB.out)
         clear HO_6
         clear HR478_0
         clear HB
         have HO_6 := n0_
         have HR478_0 := n1_
         have HB := n2_
         clear n0_ n1_ n2_
         have p479 : 0 ≤ (0 : Int) := (by omega)
         have q479 : 0 < (t468.length : Int) := of_decide_eq_true (by assumption)
         obtain ⟨ad479, A479_0, c479_0, e479, hx479_0, hl479_0, hi479_0⟩ := at_L1 (Kd.S_reads' HO_6.out).2.2 0 p479 q479
         obtain rfl : ad478 = ad479 := (by injection e479)
         obtain ⟨ce479, hce479, hMe479, hcc479⟩ := Kd.S_get HO_6.out [] 0 p479 (by first | exact q479 | exact of_decide_eq_true (by assumption) | (have e_ := (Kd.S_reads' HO_6.out).1; omega))
         obtain ⟨ve479_0, rfl, ge479_0⟩ := hMe479
         have hv479_0 := hcc479 0 _ rfl
         rw [Nat.add_zero, show ((Kd.slice 3 (Kd.int .i64))).sz = 1 from rfl, Nat.mul_one] at hv479_0
         replace hv479_0 := Option.some.inj (hv479_0.symm.trans hx479_0)
         rw [hv479_0] at ge479_0
         have HL479_0 := Aside0.mk (show Kd.R (Kd.int .i64) 3 _ _ _ _ (rd_L1 t468 0) from ge479_0)
         clear hv479_0 ge479_0
         clear hcc479 hce479
         have qi479 : (0 < t468.length) = True := eq_true (by omega)
         (try rw [show ((0 : Int)).toNat = 0 from rfl] at hx479_0)
         (try rw [Addr.add_zero'] at hx479_0)
         have HR479_0 := Aside0.mk hi479_0
         have HC479_0 := Aside0.mk hl479_0
         clear hi479_0 hl479_0
         replace p479 := eq_true p479
         replace q479 := eq_true q479
         refine start_ (n := 8) (S := fun w' => w'.cell? ad478 = some (.slice A479_0 (rd_L1 t468 0).length c479_0)) (ds := []) #[false, false, false, false, false, false, false, false] (by kernel_rfl) rfl rfl (hx479_0) (fun hHeld => ?_); refine with_tabW spec_DrawFollowsFrom.tab11 spec_DrawFollowsFrom.bits11 (fun HT_ HW_ => ?_)
         generalize wr.drew = w27 at HO_6 HR478_0 HB HL479_0 HR479_0 hx479_0 hHeld ⊢
         refine pure_ (i := 0) (N := some 54) (v := ?_) (a' := ?_) #[true, false, false, false, false, false, false, false] rfl rfl (any_of HT_.out (by kernel_rfl)) (fun _ _ _ h => h) (Or.inl ⟨by rfl, ?_⟩) ?_ ?_
         rotate_left
         ·intro w'
          go_simp
          with_reducible rfl
         rotate_left
         ·simp only [Act.put, List.setIfInBounds_toArray, List.set_cons_zero, List.set_cons_succ, i64_w, i32_w]
          rfl
         refine pure_ (i := 1) (N := some 55) (v := ?_) (a' := ?_) #[true, true, false, false, false, false, false, false] rfl rfl (any_of HT_.out (by kernel_rfl)) (fun _ _ _ h => h) (Or.inl ⟨by rfl, ?_⟩) ?_ ?_
         rotate_left
         ·intro w'
          go_simp
          with_reducible rfl
         rotate_left
         ·simp only [Act.put, List.setIfInBounds_toArray, List.set_cons_zero, List.set_cons_succ, i64_w, i32_w]
          rfl
         refine pure_ (i := 2) (N := some 56) (v := ?_) (a' := ?_) #[true, true, true, false, false, false, false, false] rfl rfl (any_of HT_.out (by kernel_rfl)) (fun _ _ _ h => h) (Or.inl ⟨by rfl, ?_⟩) ?_ ?_
         rotate_left
         ·intro w'
          go_simp
          with_reducible rfl
         rotate_left
         ·simp only [Act.put, List.setIfInBounds_toArray, List.set_cons_zero, List.set_cons_succ, i64_w, i32_w]
          rfl
         refine pure_ (i := 3) (N := some 57) (v := ?_) (a' := ?_) #[true, true, true, true, false, false, false, false] rfl rfl (any_of HT_.out (by kernel_rfl)) (fun _ _ _ h => h) (Or.inl ⟨by rfl, ?_⟩) ?_ ?_
         rotate_left
         ·intro w'
          go_simp
          with_reducible rfl
         rotate_left
         ·simp only [Act.put, List.setIfInBounds_toArray, List.set_cons_zero, List.set_cons_succ, i64_w, i32_w]
          rfl
         refine pure_ (i := 5) (N := some 2) (v := ?_) (a' := ?_) #[true, true, true, true, false, true, false, false] rfl rfl (any_of HT_.out (by kernel_rfl)) (fun _ _ _ h => h) (Or.inl ⟨by rfl, ?_⟩) ?_ ?_
         rotate_left
         ·intro w'
          go_simp
          with_reducible rfl
         rotate_left
         ·simp only [Act.put, List.setIfInBounds_toArray, List.set_cons_zero, List.set_cons_succ, i64_w, i32_w]
          rfl
         refine pure_ (i := 6) (N := some 3) (v := ?_) (a' := ?_) #[true, true, true, true, false, true, true, false] rfl rfl (any_of HT_.out (by kernel_rfl)) (fun _ _ _ h => h) (Or.inl ⟨by rfl, ?_⟩) ?_ ?_
         rotate_left
         ·intro w'
          go_simp
          with_reducible rfl
         rotate_left
         ·simp only [Act.put, List.setIfInBounds_toArray, List.set_cons_zero, List.set_cons_succ, i64_w, i32_w]
          rfl
         refine take_ (i := 4) (N := some 58) (v := ?_) (a' := ?_) #[true, true, true, true, true, true, true, false] rfl rfl (take_ofW HT_.out HW_.out (by kernel_rfl)) (fun _ _ _ h => h) (Or.inl ⟨by rfl, ?_⟩) hHeld ?_ ?_
         rotate_left
         ·intro w' s0
          go_simp
          with_reducible rfl
         rotate_left
         ·simp only [Act.put, List.setIfInBounds_toArray, List.set_cons_zero, List.set_cons_succ, i64_w, i32_w]
          rfl
         refine pure_ (i := 7) (N := some 4) (v := ?_) (a' := ?_) #[true, true, true, true, true, true, true, true] rfl rfl (any_of HT_.out (by kernel_rfl)) (fun _ _ _ h => h) (Or.inl ⟨by rfl, ?_⟩) ?_ ?_
         rotate_left
         ·intro w'
          go_simp
          with_reducible rfl
         rotate_left
         ·simp only [Act.put, List.setIfInBounds_toArray, List.set_cons_zero, List.set_cons_succ, i64_w, i32_w]
          rfl
         refine done_ (done_of HT_.out (by kernel_rfl)) ?_
         try go_wp2
         go_ret3
         exact ⟨_, _, by first | rfl | (simp [errW_none, errW_some] <;> rfl) | (simp [*, errW_none, errW_some] <;> rfl), zS_ HO_6.out, by (with_reducible repeat (first | apply Kd.R_alloc | apply Kd.R_drewN | apply Kd.R_drew)); exact Kd.R_mono HL479_0.out (fun _ hk => trivial), zb_ HB.out⟩
        ·rw [if_neg c26] at H
         exact absurd H (by simp)
    ·rw [if_neg c12] at H
     exact absurd H (by simp)
   ·replace c11 := Bool.eq_false_iff.mpr c11
    subst c11
    have H1 : (some (t467, t468, t469)) = some (r1, r2, r3) := by rw [if_neg (show ¬ (false = true) by decide)] at H; exact H
    clear H
    have H := H1
    clear H1
    simp only [Option.some.injEq, Prod.mk.injEq] at H
    obtain ⟨rfl, rfl, rfl⟩ := H
    go_wp2
    go_ret3
    exact ⟨_, _, by first | rfl | (simp [errW_none, errW_some] <;> rfl) | (simp [*, errW_none, errW_some] <;> rfl), zS_ HO_6.out, zR_ HO_7.out, zb_ HB.out⟩
def spec_DrawIsAtOnce.f (k : Nat) (l0 : List Int) : Option (Int × (List (List Int)) × List Int) := (spec_DrawFollowsFrom.f k l0).bind fun bt488 => (some (bt488.1, bt488.2.1, bt488.2.2))
theorem spec_DrawIsAtOnce.mono : ∀ a0 k, LeO (spec_DrawIsAtOnce.f k a0) (spec_DrawIsAtOnce.f (k + 1) a0) := by
 intro a0 k
 unfold spec_DrawIsAtOnce.f
 repeat' first
   | (with_reducible exact spec_DrawFollowsFrom.mono _ _)
   | (with_reducible exact LeO.refl _)
   | (with_reducible exact LeO.none _)
   | (with_reducible refine LeO.ite ?_ ?_)
   | (with_reducible refine LeO.bind ?_ (fun _ => ?_))
   | exact spec_DrawFollowsFrom.mono _ _
   | exact LeO.none _
   | refine LeO.ite ?_ ?_
   | refine LeO.bind ?_ (fun _ => ?_)
set_option maxHeartbeats 8000000 in
set_option maxRecDepth 100000 in
theorem spec_DrawIsAtOnce.calls (k : Nat) (A0 : Option Addr) (c0 : Nat) (l0 : List Int) (r1 : Int) (r2 : List (List Int)) (r3 : List Int) (w : World) (hr0 : Kd.C (Kd.int .u8) w A0 l0.length l0) (hc0 : l0.length ≤ c0) (h : spec_DrawIsAtOnce.f k l0 = some (r1, r2, r3)) :
  Calls Try.prog 58 #[.slice A0 l0.length c0] w fun e w' => ∃ v1_ v2_ : Value, e = .returned (.tuple #[.int .i64 r1, v1_, v2_]) ∧ Kd.S (Kd.slice 3 (Kd.int .i64)) 42 w' w.heap.size (fun _ => True) v1_ r2 ∧ Kd.R (Kd.int .i64) 3 w' w.heap.size (fun _ => True) v2_ r3 ∧ Below w.heap.size w w' := by
 have HR0 := Aside0.mk hr0
 have HC0 := Aside0.mk hc0
 clear hr0 hc0
 have HB := Aside0.mk (Below.refl w.heap.size w)
 have H : ((spec_DrawFollowsFrom.f k l0).bind fun bt488 => (some (bt488.1, bt488.2.1, bt488.2.2))) = some (r1, r2, r3) := h
 clear h
 replace H := Option.bind_eq_some_iff.mp H
 obtain ⟨⟨t488, t489, t490⟩, A20, H⟩ := H
 (try dsimp only at H)
 have A2 := Aside0.mk A20
 clear A20
 simp only [Option.some.injEq, Prod.mk.injEq] at H
 obtain ⟨rfl, rfl, rfl⟩ := H
 go_enter Try.func58, Try.ntmps58
 go_wp2_with (first | ((with_reducible refine gate_callee (f := 101) rfl ?_); refine goesL_ (some 6) rfl rfl Try.func101 (by kernel_rfl) rfl #[.slice A0 l0.length c0] rfl (by simp only [zA_, zB_, zD_] <;> rfl) ?_; (with_reducible refine (spec_DrawFollowsFrom.calls k _ _ l0 t488 t489 t490 _ ?side1 ?side2 A2.out).mono ?_); (case side1 => exact zC_ HR0.out); (case side2 => exact HC0.out); rintro e w3 ⟨v491, v493, rfl, ho0, ho1, hb⟩; refine ⟨_, rfl, ?_⟩; have n0_ := Aside0.mk (Kd.S_lower ho0 (below_size (zb_ HB.out))); have n1_ := Aside0.mk (Kd.R_lower ho1 (below_size (zb_ HB.out))); have n2_ := Aside0.mk (below_step (zb_ HB.out) hb); clear HB; have HO492 := n0_; have HO494 := n1_; have HB := n2_; clear n0_ n1_ n2_; (try clear hb); (try clear hb2); (try clear hk); (try clear hi); (try clear ho0); (try clear ho1)))
 go_ret3
 exact ⟨_, _, by first | rfl | (simp [errW_none, errW_some] <;> rfl) | (simp [*, errW_none, errW_some] <;> rfl), zS_ HO492.out, zR_ HO494.out, zb_ HB.out⟩
end Go.Proofs.Ytpkbjgmeejlchaa.PFnTrimmed
-- squeezed
