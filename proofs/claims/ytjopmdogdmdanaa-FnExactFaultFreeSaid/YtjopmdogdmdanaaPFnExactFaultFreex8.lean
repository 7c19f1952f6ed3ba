-- Made by a program of this session (wip/tools), which leans on the kit's print: checked by Lean alone.
import Derived.Test.YtjopmdogdmdanaaPFnExactFaultFreex0
import Derived.Test.YtjopmdogdmdanaaPFnExactFaultFreex7
namespace Go.Proofs.Ytjopmdogdmdanaa.PFnExactFaultFree
open Go.RowKit Go.Proofs.YtjopmdogdmdanaaW.PrintWords Go.Proofs.YtjopmdogdmdanaaW.PrintLast Go.Proofs.YtjopmdogdmdanaaW.PrintMore
attribute [local go_sem] max2_int min2_int max_two min_two max_three min_three max_four min_four   -- for this text's walks alone
set_option linter.unusedVariables false
set_option linter.unusedSimpArgs false
def impl_Step_ranges.j0 : Nat → Int → Bool → Int → Int → Int → Int → Int → Int → Option (Int × Int)
 | 0, _, _, _, _, _, _, _, _ => none
 | k + 1, x1, x9, x227000, x227001, x227002, x227003, x227004, x227005 => if x9 = true then (some (0, 5)) else (if x1 = 116 then (some (1, 19)) else (if x227000 = 4 then (some (256, 65535)) else (if x227000 = 5 then (some (0, 7)) else (some (0, 255)))))
def impl_Step_ranges.f (k : Nat) (a0_0 : Int) (a0_1 : Int) (a0_2 : Int) (a0_3 : Int) (a0_4 : Int) (a0_5 : Int) (a1 : Int) : Option (Int × Int) := if a1 = 111 then (some (1, 10)) else (if a1 = 100 then (impl_Step_ranges.j0 k a1 true a0_0 a0_1 a0_2 a0_3 a0_4 a0_5) else (impl_Step_ranges.j0 k a1 (a1 == 115) a0_0 a0_1 a0_2 a0_3 a0_4 a0_5))
theorem impl_Step_ranges.mono_l : ∀ k, (∀ y0 y1 y2 y3 y4 y5 y6 y7, LeO (impl_Step_ranges.j0 k y0 y1 y2 y3 y4 y5 y6 y7) (impl_Step_ranges.j0 (k + 1) y0 y1 y2 y3 y4 y5 y6 y7))
 | 0 => fun _ _ _ _ _ _ _ _ r h => by simp [impl_Step_ranges.j0] at h
 | k + 1 => by
  have ih0 := impl_Step_ranges.mono_l k
  ·intro y0 y1 y2 y3 y4 y5 y6 y7
   unfold impl_Step_ranges.j0
   repeat' first
   | (with_reducible exact ih0 _ _ _ _ _ _ _ _)
   | (with_reducible exact LeO.refl _)
   | (with_reducible exact LeO.none _)
   | (with_reducible refine LeO.ite ?_ ?_)
   | (with_reducible refine LeO.bind ?_ (fun _ => ?_))
   | exact ih0 _ _ _ _ _ _ _ _
   | exact LeO.none _
   | refine LeO.ite ?_ ?_
   | refine LeO.bind ?_ (fun _ => ?_)
theorem impl_Step_ranges.mono : ∀ a0 a1 a2 a3 a4 a5 a6 k, LeO (impl_Step_ranges.f k a0 a1 a2 a3 a4 a5 a6) (impl_Step_ranges.f (k + 1) a0 a1 a2 a3 a4 a5 a6) := by
 intro a0 a1 a2 a3 a4 a5 a6 k
 have ih0 := impl_Step_ranges.mono_l k
 unfold impl_Step_ranges.f
 repeat' first
   | (with_reducible exact ih0 _ _ _ _ _ _ _ _)
   | (with_reducible exact LeO.refl _)
   | (with_reducible exact LeO.none _)
   | (with_reducible refine LeO.ite ?_ ?_)
   | (with_reducible refine LeO.bind ?_ (fun _ => ?_))
   | exact ih0 _ _ _ _ _ _ _ _
   | exact LeO.none _
   | refine LeO.ite ?_ ?_
   | refine LeO.bind ?_ (fun _ => ?_)
set_option maxHeartbeats 8000000 in
set_option maxRecDepth 100000 in
theorem impl_Step_ranges.calls (k : Nat) (a0_0 : Int) (a0_1 : Int) (a0_2 : Int) (a0_3 : Int) (a0_4 : Int) (a0_5 : Int) (a1 : Int) (r1 : Int) (r2 : Int) (w : World) (h : impl_Step_ranges.f k a0_0 a0_1 a0_2 a0_3 a0_4 a0_5 a1 = some (r1, r2)) :
  Calls Try.prog 81 #[.agg #[.int .i64 a0_0, .int .i64 a0_1, .int .i64 a0_2, .int .i64 a0_3, .int .i64 a0_4, .int .i64 a0_5], .int .u8 a1] w fun e w' => e = .returned (.tuple #[.int .i64 r1, .int .i64 r2]) ∧ Below w.heap.size w w' := by
 have hu26 := Try.underlying26
 have HB := Aside0.mk (Below.refl w.heap.size w)
 have H : (if a1 = 111 then (some (1, 10)) else (if a1 = 100 then (impl_Step_ranges.j0 k a1 true a0_0 a0_1 a0_2 a0_3 a0_4 a0_5) else (impl_Step_ranges.j0 k a1 (a1 == 115) a0_0 a0_1 a0_2 a0_3 a0_4 a0_5))) = some (r1, r2) := h
 clear h
 by_cases c3 : a1 = 111
 ·rw [if_pos c3] at H
  have c3b0 : (a1 == 111) = true := beq_iff_eq.mpr c3
  have c3b1 : (a1 != 111) = false := bne_eq_false_iff_eq.mpr c3
  clear c3
  simp only [Option.some.injEq, Prod.mk.injEq] at H
  obtain ⟨rfl, rfl⟩ := H
  go_enter Try.func81, Try.ntmps81
  go_wp2_with (first | ((with_reducible refine gate_dst (N := 2) rfl ?_); refine box_event ?hg (N := 2) ?hd (cs := #[.int .i64 a0_0, .int .i64 a0_1, .int .i64 a0_2, .int .i64 a0_3, .int .i64 a0_4, .int .i64 a0_5]) (t := 26) ?hr ?_; (case hd => rfl); (case hg => rfl); (case hr => first | (go_simp; done) | (go_simp; rfl)); intro gb226 hg w4 hbox hb; have n0_ := Aside0.mk (below_step (zb_ HB.out) hb); have n1_ := Aside0.mk (hbox); have n2_ := Aside0.mk ((by rw [hg]; exact (below_size (zb_ HB.out)) : w.heap.size ≤ gb226)); have n3_ := Aside0.mk ((by rw [hg]; exact (below_size (zb_ HB.out)) : w.heap.size ≤ gb226)); clear HB; have HB := n0_; have BK226 := n1_; have GW226 := n2_; have GE226 := n3_; clear n0_ n1_ n2_ n3_; clear hb hbox hg))
  go_ret2
  exact ⟨by first | rfl | (simp [errW_none, errW_some] <;> rfl) | (simp [*, errW_none, errW_some] <;> rfl), by repeat (first | (with_reducible first | exact HB.out | apply below_alloc | apply pw_below_drewN | apply below_drew1 | refine below_set ?_ GE226.out) | exact HB.out)⟩
 rw [if_neg c3] at H
 have c3b0 : (a1 == 111) = false := beq_eq_false_iff_ne.mpr c3
 have c3b1 : (a1 != 111) = true := bne_iff_ne.mpr c3
 have HC5 := Aside0.mk H
 clear H
 go_enter Try.func81, Try.ntmps81
 go_upto_region 3 with (first | ((with_reducible refine gate_dst (N := 2) rfl ?_); refine box_event ?hg (N := 2) ?hd (cs := #[.int .i64 a0_0, .int .i64 a0_1, .int .i64 a0_2, .int .i64 a0_3, .int .i64 a0_4, .int .i64 a0_5]) (t := 26) ?hr ?_; (case hd => rfl); (case hg => rfl); (case hr => first | (go_simp; done) | (go_simp; rfl)); intro gb226 hg w6 hbox hb; have n0_ := Aside0.mk (below_step (zb_ HB.out) hb); have n1_ := Aside0.mk (hbox); have n2_ := Aside0.mk ((by rw [hg]; exact (below_size (zb_ HB.out)) : w.heap.size ≤ gb226)); have n3_ := Aside0.mk ((by rw [hg]; exact (below_size (zb_ HB.out)) : w.heap.size ≤ gb226)); clear HB; have HB := n0_; have BK226 := n1_; have GW226 := n2_; have GE226 := n3_; clear n0_ n1_ n2_ n3_; clear hb hbox hg))
 (try simp only [Act.put, List.setIfInBounds_toArray, List.set_cons_zero, List.set_cons_succ])
 go_cut [9] (fun v9 wc => ∃ (kq : Nat) (x9_4 : Bool), v9 = .bool x9_4 ∧ Aside0 (impl_Step_ranges.j0 kq a1 x9_4 a0_0 a0_1 a0_2 a0_3 a0_4 a0_5 = some (r1, r2)) ∧ Aside0 (kq ≤ k) ∧ Aside0 (wc.heap[gb226]? = some (.cells #[.int .i64 a0_0, .int .i64 a0_1, .int .i64 a0_2, .int .i64 a0_3, .int .i64 a0_4, .int .i64 a0_5] 26 (0, 0))) ∧ Aside0 (Below w.heap.size w wc))
 case first =>
  have H := HC5.out
  clear HC5
  by_cases c7 : a1 = 100
  ·rw [if_pos c7] at H
   have c7b0 : (a1 == 100) = true := beq_iff_eq.mpr c7
   have c7b1 : (a1 != 100) = false := bne_eq_false_iff_eq.mpr c7
   clear c7
   (first | rw [c7b0] | (simp only [i64_w, i32_w]; rw [c7b0]) | skip)
   have H' := Aside0.mk H
   clear H
   go_wp2
   go_meet
   case rel => exact ⟨_, (true), (by first | rfl | (simp; done) | (simp [*]; done)), H', ⟨by first | omega | exact Nat.le_refl _⟩, ⟨zO_ BK226.out⟩, ⟨by repeat (first | (with_reducible first | exact HB.out | apply below_alloc | apply pw_below_drewN | apply below_drew1 | refine below_set ?_ GE226.out) | exact HB.out)⟩⟩
  rw [if_neg c7] at H
  have c7b0 : (a1 == 100) = false := beq_eq_false_iff_ne.mpr c7
  have c7b1 : (a1 != 100) = true := bne_iff_ne.mpr c7
  (first | rw [c7b0] | (simp only [i64_w, i32_w]; rw [c7b0]) | skip)
  have H' := Aside0.mk H
  clear H
  go_wp2
  go_meet
  case rel => exact ⟨_, ((a1 == 115)), (by first | rfl | (simp; done) | (simp [*]; done)), H', ⟨by first | omega | exact Nat.le_refl _⟩, ⟨zO_ BK226.out⟩, ⟨by repeat (first | (with_reducible first | exact HB.out | apply below_alloc | apply pw_below_drewN | apply below_drew1 | refine below_set ?_ GE226.out) | exact HB.out)⟩⟩
 case rest =>
  clear HC5
  try clear p2
  try clear c3
  try clear c3b0
  try clear c3b1
  try clear c7
  try clear c7b0
  try clear c7b1
  obtain ⟨kq, x9_4, rfl, HA, HJ4, BK226, HB⟩ := hcut
  cases kq with
  | zero => exact absurd HA.out (by simp [impl_Step_ranges.j0])
  | succ kj4 =>
   have H := HA.out
   clear HA
   simp only [impl_Step_ranges.j0] at H
   by_cases c8 : x9_4 = true
   ·subst c8
    have H1 : (some (0, 5)) = some (r1, r2) := by rw [if_pos rfl] at H; exact H
    clear H
    have H := H1
    clear H1
    simp only [Option.some.injEq, Prod.mk.injEq] at H
    obtain ⟨rfl, rfl⟩ := H
    go_wp2
    go_ret2
    exact ⟨by first | rfl | (simp [errW_none, errW_some] <;> rfl) | (simp [*, errW_none, errW_some] <;> rfl), by repeat (first | (with_reducible first | exact HB.out | apply below_alloc | apply pw_below_drewN | apply below_drew1 | refine below_set ?_ GE226.out) | exact HB.out)⟩
   ·replace c8 := Bool.eq_false_iff.mpr c8
    subst c8
    have H1 : (if a1 = 116 then (some (1, 19)) else (if a0_0 = 4 then (some (256, 65535)) else (if a0_0 = 5 then (some (0, 7)) else (some (0, 255))))) = some (r1, r2) := by rw [if_neg (show ¬ (false = true) by decide)] at H; exact H
    clear H
    have H := H1
    clear H1
    by_cases c9 : a1 = 116
    ·rw [if_pos c9] at H
     have c9b0 : (a1 == 116) = true := beq_iff_eq.mpr c9
     have c9b1 : (a1 != 116) = false := bne_eq_false_iff_eq.mpr c9
     clear c9
     simp only [Option.some.injEq, Prod.mk.injEq] at H
     obtain ⟨rfl, rfl⟩ := H
     go_wp2
     go_ret2
     exact ⟨by first | rfl | (simp [errW_none, errW_some] <;> rfl) | (simp [*, errW_none, errW_some] <;> rfl), by repeat (first | (with_reducible first | exact HB.out | apply below_alloc | apply pw_below_drewN | apply below_drew1 | refine below_set ?_ GE226.out) | exact HB.out)⟩
    rw [if_neg c9] at H
    have c9b0 : (a1 == 116) = false := beq_eq_false_iff_ne.mpr c9
    have c9b1 : (a1 != 116) = true := bne_iff_ne.mpr c9
    by_cases c10 : a0_0 = 4
    ·rw [if_pos c10] at H
     have c10b0 : (a0_0 == 4) = true := beq_iff_eq.mpr c10
     have c10b1 : (a0_0 != 4) = false := bne_eq_false_iff_eq.mpr c10
     clear c10
     simp only [Option.some.injEq, Prod.mk.injEq] at H
     obtain ⟨rfl, rfl⟩ := H
     have hcz11_0 : wc.cell? ⟨gb226, 0, none⟩ = some (.int .i64 a0_0) := (blk_cell BK226.out 0).trans rfl
     have hcz11_1 : wc.cell? ⟨gb226, 1, none⟩ = some (.int .i64 a0_1) := (blk_cell BK226.out 1).trans rfl
     have hcz11_2 : wc.cell? ⟨gb226, 2, none⟩ = some (.int .i64 a0_2) := (blk_cell BK226.out 2).trans rfl
     have hcz11_3 : wc.cell? ⟨gb226, 3, none⟩ = some (.int .i64 a0_3) := (blk_cell BK226.out 3).trans rfl
     have hcz11_4 : wc.cell? ⟨gb226, 4, none⟩ = some (.int .i64 a0_4) := (blk_cell BK226.out 4).trans rfl
     have hcz11_5 : wc.cell? ⟨gb226, 5, none⟩ = some (.int .i64 a0_5) := (blk_cell BK226.out 5).trans rfl
     have hfz11_0 := blk_frozen BK226.out 0
     have hfz11_1 := blk_frozen BK226.out 1
     have hfz11_2 := blk_frozen BK226.out 2
     have hfz11_3 := blk_frozen BK226.out 3
     have hfz11_4 := blk_frozen BK226.out 4
     have hfz11_5 := blk_frozen BK226.out 5
     go_wp2
     go_ret2
     exact ⟨by first | rfl | (simp [errW_none, errW_some] <;> rfl) | (simp [*, errW_none, errW_some] <;> rfl), by repeat (first | (with_reducible first | exact HB.out | apply below_alloc | apply pw_below_drewN | apply below_drew1 | refine below_set ?_ GE226.out) | exact HB.out)⟩
    rw [if_neg c10] at H
    have c10b0 : (a0_0 == 4) = false := beq_eq_false_iff_ne.mpr c10
    have c10b1 : (a0_0 != 4) = true := bne_iff_ne.mpr c10
    by_cases c12 : a0_0 = 5
    ·rw [if_pos c12] at H
     have c12b0 : (a0_0 == 5) = true := beq_iff_eq.mpr c12
     have c12b1 : (a0_0 != 5) = false := bne_eq_false_iff_eq.mpr c12
     clear c12
     simp only [Option.some.injEq, Prod.mk.injEq] at H
     obtain ⟨rfl, rfl⟩ := H
     have hcz13_0 : wc.cell? ⟨gb226, 0, none⟩ = some (.int .i64 a0_0) := (blk_cell BK226.out 0).trans rfl
     have hcz13_1 : wc.cell? ⟨gb226, 1, none⟩ = some (.int .i64 a0_1) := (blk_cell BK226.out 1).trans rfl
     have hcz13_2 : wc.cell? ⟨gb226, 2, none⟩ = some (.int .i64 a0_2) := (blk_cell BK226.out 2).trans rfl
     have hcz13_3 : wc.cell? ⟨gb226, 3, none⟩ = some (.int .i64 a0_3) := (blk_cell BK226.out 3).trans rfl
     have hcz13_4 : wc.cell? ⟨gb226, 4, none⟩ = some (.int .i64 a0_4) := (blk_cell BK226.out 4).trans rfl
     have hcz13_5 : wc.cell? ⟨gb226, 5, none⟩ = some (.int .i64 a0_5) := (blk_cell BK226.out 5).trans rfl
     have hfz13_0 := blk_frozen BK226.out 0
     have hfz13_1 := blk_frozen BK226.out 1
     have hfz13_2 := blk_frozen BK226.out 2
     have hfz13_3 := blk_frozen BK226.out 3
     have hfz13_4 := blk_frozen BK226.out 4
     have hfz13_5 := blk_frozen BK226.out 5
     go_wp2
     go_ret2
     exact ⟨by first | rfl | (simp [errW_none, errW_some] <;> rfl) | (simp [*, errW_none, errW_some] <;> rfl), by repeat (first | (with_reducible first | exact HB.out | apply below_alloc | apply pw_below_drewN | apply below_drew1 | refine below_set ?_ GE226.out) | exact HB.out)⟩
    rw [if_neg c12] at H
    have c12b0 : (a0_0 == 5) = false := beq_eq_false_iff_ne.mpr c12
    have c12b1 : (a0_0 != 5) = true := bne_iff_ne.mpr c12
    simp only [Option.some.injEq, Prod.mk.injEq] at H
    obtain ⟨rfl, rfl⟩ := H
    have hcz14_0 : wc.cell? ⟨gb226, 0, none⟩ = some (.int .i64 a0_0) := (blk_cell BK226.out 0).trans rfl
    have hcz14_1 : wc.cell? ⟨gb226, 1, none⟩ = some (.int .i64 a0_1) := (blk_cell BK226.out 1).trans rfl
    have hcz14_2 : wc.cell? ⟨gb226, 2, none⟩ = some (.int .i64 a0_2) := (blk_cell BK226.out 2).trans rfl
    have hcz14_3 : wc.cell? ⟨gb226, 3, none⟩ = some (.int .i64 a0_3) := (blk_cell BK226.out 3).trans rfl
    have hcz14_4 : wc.cell? ⟨gb226, 4, none⟩ = some (.int .i64 a0_4) := (blk_cell BK226.out 4).trans rfl
    have hcz14_5 : wc.cell? ⟨gb226, 5, none⟩ = some (.int .i64 a0_5) := (blk_cell BK226.out 5).trans rfl
    have hfz14_0 := blk_frozen BK226.out 0
    have hfz14_1 := blk_frozen BK226.out 1
    have hfz14_2 := blk_frozen BK226.out 2
    have hfz14_3 := blk_frozen BK226.out 3
    have hfz14_4 := blk_frozen BK226.out 4
    have hfz14_5 := blk_frozen BK226.out 5
    go_wp2
    go_ret2
    exact ⟨by first | rfl | (simp [errW_none, errW_some] <;> rfl) | (simp [*, errW_none, errW_some] <;> rfl), by repeat (first | (with_reducible first | exact HB.out | apply below_alloc | apply pw_below_drewN | apply below_drew1 | refine below_set ?_ GE226.out) | exact HB.out)⟩
def fieldAt_ (a : Int) : Nat := if a = 111 then 1 else if a = 100 then 2 else if a = 115 then 3 else if a = 105 then 4 else 5
theorem fieldAt_lt (a : Int) : fieldAt_ a < 6 := by
 unfold fieldAt_
 repeat' split
 all_goals omega
set_option maxHeartbeats 1000000 in
set_option maxRecDepth 100000 in
theorem impl_Step_field.calls (b : Nat) (a1 : Int) (w : World) :
  Calls Try.prog 82 #[.pointer (some ⟨b, 0, none⟩), .int .u8 a1] w fun e w' => e = .returned (.pointer (some ⟨b, fieldAt_ a1, none⟩)) ∧ Drawn0 w w' := by
 unfold fieldAt_
 by_cases c0 : a1 = 111
 ·rw [if_pos c0]
  have d0 : (a1 == 111) = true := beq_iff_eq.mpr c0
  clear c0
  go_enter Try.func82, Try.ntmps82
  go_wp2
  go_ret
  exact ⟨by first | rfl | (simp; done) | (simp [*]; done), by repeat (first | exact Drawn0.refl _ | apply Drawn0.step)⟩
 rw [if_neg c0]
 have d0 : (a1 == 111) = false := beq_eq_false_iff_ne.mpr c0
 clear c0
 by_cases c1 : a1 = 100
 ·rw [if_pos c1]
  have d1 : (a1 == 100) = true := beq_iff_eq.mpr c1
  clear c1
  go_enter Try.func82, Try.ntmps82
  go_wp2
  go_ret
  exact ⟨by first | rfl | (simp; done) | (simp [*]; done), by repeat (first | exact Drawn0.refl _ | apply Drawn0.step)⟩
 rw [if_neg c1]
 have d1 : (a1 == 100) = false := beq_eq_false_iff_ne.mpr c1
 clear c1
 by_cases c2 : a1 = 115
 ·rw [if_pos c2]
  have d2 : (a1 == 115) = true := beq_iff_eq.mpr c2
  clear c2
  go_enter Try.func82, Try.ntmps82
  go_wp2
  go_ret
  exact ⟨by first | rfl | (simp; done) | (simp [*]; done), by repeat (first | exact Drawn0.refl _ | apply Drawn0.step)⟩
 rw [if_neg c2]
 have d2 : (a1 == 115) = false := beq_eq_false_iff_ne.mpr c2
 clear c2
 by_cases c3 : a1 = 105
 ·rw [if_pos c3]
  have d3 : (a1 == 105) = true := beq_iff_eq.mpr c3
  clear c3
  go_enter Try.func82, Try.ntmps82
  go_wp2
  go_ret
  exact ⟨by first | rfl | (simp; done) | (simp [*]; done), by repeat (first | exact Drawn0.refl _ | apply Drawn0.step)⟩
 rw [if_neg c3]
 have d3 : (a1 == 105) = false := beq_eq_false_iff_ne.mpr c3
 clear c3
 go_enter Try.func82, Try.ntmps82
 go_wp2
 go_ret
 exact ⟨by first | rfl | (simp; done) | (simp [*]; done), by repeat (first | exact Drawn0.refl _ | apply Drawn0.step)⟩
theorem impl_Step_field.callsj (b : Nat) (a1 : Int) (j : Nat) (hj : fieldAt_ a1 = j) (w : World) :
  Calls Try.prog 82 #[.pointer (some ⟨b, 0, none⟩), .int .u8 a1] w fun e w' => e = .returned (.pointer (some ⟨b, j, none⟩)) ∧ Drawn0 w w' := by
 subst hj
 exact impl_Step_field.calls b a1 w
def fld_ (a0_0: Int) (a0_1: Int) (a0_2: Int) (a0_3: Int) (a0_4: Int) (a0_5: Int) : Nat → Int
 | 0 => a0_0
 | 1 => a0_1
 | 2 => a0_2
 | 3 => a0_3
 | 4 => a0_4
 | _ => a0_5
def zr_ (i j : Nat) (r : Int) : Int := if j = i then 0 else r
theorem fieldAt_cases (a : Int) : fieldAt_ a = 1 ∨ fieldAt_ a = 2 ∨ fieldAt_ a = 3 ∨ fieldAt_ a = 4 ∨ fieldAt_ a = 5 := by
 unfold fieldAt_
 repeat' split
 all_goals simp
def impl_Step_valid.l0 : Nat → Int → Int → Int → Int → Int → Int → ByteArray → Int → Int → Int → Int → Int → Int → Option Bool
 | 0, _, _, _, _, _, _, _, _, _, _, _, _, _ => none
 | k + 1, a0_0, a0_1, a0_2, a0_3, a0_4, a0_5, z, r_1, r_2, r_3, r_4, r_5, x => if x < (z.size : Int) then (if 0 ≤ x then ((impl_Step_ranges.f k a0_0 a0_1 a0_2 a0_3 a0_4 a0_5 (bt z x)).bind fun p => ((impl_in.f (fld_ a0_0 a0_1 a0_2 a0_3 a0_4 a0_5 (fieldAt_ (bt z x))) p.1 p.2).bind fun t => if t = true then impl_Step_valid.l0 k a0_0 a0_1 a0_2 a0_3 a0_4 a0_5 z (zr_ 1 (fieldAt_ (bt z x)) r_1) (zr_ 2 (fieldAt_ (bt z x)) r_2) (zr_ 3 (fieldAt_ (bt z x)) r_3) (zr_ 4 (fieldAt_ (bt z x)) r_4) (zr_ 5 (fieldAt_ (bt z x)) r_5) (wrap64 (x + 1)) else some false)) else none) else ((impl_in.f a0_0 1 11).bind fun t => if t = true then some (decide (r_1 = 0 ∧ r_2 = 0 ∧ r_3 = 0 ∧ r_4 = 0 ∧ r_5 = 0)) else some false)
def impl_Step_valid.f (k : Nat) (a0_0 : Int) (a0_1 : Int) (a0_2 : Int) (a0_3 : Int) (a0_4 : Int) (a0_5 : Int) : Option Bool := (impl_fields.f k a0_0).bind fun z => impl_Step_valid.l0 k a0_0 a0_1 a0_2 a0_3 a0_4 a0_5 z a0_1 a0_2 a0_3 a0_4 a0_5 0
theorem impl_Step_valid.mono_l : ∀ k, (∀ y0 y1 y2 y3 y4 y5 y6 y7 y8 y9 y10 y11 y12, LeO (impl_Step_valid.l0 k y0 y1 y2 y3 y4 y5 y6 y7 y8 y9 y10 y11 y12) (impl_Step_valid.l0 (k + 1) y0 y1 y2 y3 y4 y5 y6 y7 y8 y9 y10 y11 y12))
 | 0 => fun _ _ _ _ _ _ _ _ _ _ _ _ _ r h => by simp [impl_Step_valid.l0] at h
 | k + 1 => by
  have ih0 := impl_Step_valid.mono_l k
  intro y0 y1 y2 y3 y4 y5 y6 y7 y8 y9 y10 y11 y12
  unfold impl_Step_valid.l0
  repeat' first
  | (with_reducible exact ih0 _ _ _ _ _ _ _ _ _ _ _ _ _)
  | (with_reducible exact impl_Step_ranges.mono _ _ _ _ _ _ _ _)
  | (with_reducible exact LeO.refl _)
  | (with_reducible exact LeO.none _)
  | (with_reducible refine LeO.ite ?_ ?_)
  | (with_reducible refine LeO.bind ?_ (fun _ => ?_))
theorem impl_Step_valid.mono : ∀ a0 a1 a2 a3 a4 a5 k, LeO (impl_Step_valid.f k a0 a1 a2 a3 a4 a5) (impl_Step_valid.f (k + 1) a0 a1 a2 a3 a4 a5) := by
 intro a0 a1 a2 a3 a4 a5 k
 have ih0 := impl_Step_valid.mono_l k
 unfold impl_Step_valid.f
 repeat' first
 | (with_reducible exact ih0 _ _ _ _ _ _ _ _ _ _ _ _ _)
 | (with_reducible exact impl_fields.mono _ _)
 | (with_reducible exact LeO.refl _)
 | (with_reducible refine LeO.bind ?_ (fun _ => ?_))
set_option maxHeartbeats 1000000 in
set_option maxRecDepth 100000 in
theorem impl_Step_valid.calls (k : Nat) (a0_0 : Int) (a0_1 : Int) (a0_2 : Int) (a0_3 : Int) (a0_4 : Int) (a0_5 : Int) (r : Bool) (w : World) (h : impl_Step_valid.f k a0_0 a0_1 a0_2 a0_3 a0_4 a0_5 = some r) :
  Calls Try.prog 56 #[.agg #[.int .i64 a0_0, .int .i64 a0_1, .int .i64 a0_2, .int .i64 a0_3, .int .i64 a0_4, .int .i64 a0_5]] w fun e w' => e = .returned (.bool r) ∧ Below w.heap.size w w' := by
 have hu26 := Try.underlying26
 have HB := Aside0.mk (Below.refl w.heap.size w)
 unfold impl_Step_valid.f at h
 replace h := Option.bind_eq_some_iff.mp h
 obtain ⟨z, G0', h⟩ := h
 have G0 := Aside0.mk G0'
 have G1 := Aside0.mk h
 clear h G0'
 go_enter Try.func56, Try.ntmps56
 go_upto_region 3 with (first | ((with_reducible refine gate_dst (N := 1) rfl ?_); refine box_event ?hg (N := 1) ?hd (cs := #[.int .i64 a0_0, .int .i64 a0_1, .int .i64 a0_2, .int .i64 a0_3, .int .i64 a0_4, .int .i64 a0_5]) (t := 26) ?hr ?_; (case hd => rfl); (case hg => rfl); (case hr => first | (go_simp; done) | (go_simp; rfl)); intro gs hg w4 hbox hb; have n0_ := Aside0.mk (below_step (by repeat (first | (with_reducible first | exact HB.out | apply below_alloc | apply pw_below_drewN | apply below_drew1 | refine below_set ?_ GS.out | refine below_set ?_ GR.out) | exact HB.out)) hb); have n1_ := Aside0.mk hbox; have n2_ := Aside0.mk ((by rw [hg]; exact (below_size (by repeat (first | (with_reducible first | exact HB.out | apply below_alloc | apply pw_below_drewN | apply below_drew1 | refine below_set ?_ GS.out | refine below_set ?_ GR.out) | exact HB.out))) : w.heap.size ≤ gs)); clear HB; have HB := n0_; have BS := n1_; have GS := n2_; clear n0_ n1_ n2_ hb hg hbox; have hcgs0 : w4.cell? ⟨gs, 0, none⟩ = some (.int .i64 a0_0) := (blk_cell BS.out 0).trans rfl; have hcgs1 : w4.cell? ⟨gs, 1, none⟩ = some (.int .i64 a0_1) := (blk_cell BS.out 1).trans rfl; have hcgs2 : w4.cell? ⟨gs, 2, none⟩ = some (.int .i64 a0_2) := (blk_cell BS.out 2).trans rfl; have hcgs3 : w4.cell? ⟨gs, 3, none⟩ = some (.int .i64 a0_3) := (blk_cell BS.out 3).trans rfl; have hcgs4 : w4.cell? ⟨gs, 4, none⟩ = some (.int .i64 a0_4) := (blk_cell BS.out 4).trans rfl; have hcgs5 : w4.cell? ⟨gs, 5, none⟩ = some (.int .i64 a0_5) := (blk_cell BS.out 5).trans rfl; have hfgs0 := blk_frozen BS.out 0; have hfgs1 := blk_frozen BS.out 1; have hfgs2 := blk_frozen BS.out 2; have hfgs3 := blk_frozen BS.out 3; have hfgs4 := blk_frozen BS.out 4; have hfgs5 := blk_frozen BS.out 5))
 obtain ⟨w5, hw5⟩ : ∃ w5, w5 = w4.alloc (.cells #[.int .i64 0, .int .i64 a0_1, .int .i64 a0_2, .int .i64 a0_3, .int .i64 a0_4, .int .i64 a0_5] 26 (0, 0)) := ⟨_, rfl⟩
 obtain ⟨gr, hgr⟩ : ∃ g, g = w4.heap.size := ⟨_, rfl⟩
 have n0_ := Aside0.mk (show w5.heap[gs]? = some (.cells #[.int .i64 a0_0, .int .i64 a0_1, .int .i64 a0_2, .int .i64 a0_3, .int .i64 a0_4, .int .i64 a0_5] 26 (0, 0)) by subst hw5; exact blk_alloc BS.out _)
 have n1_ := Aside0.mk (show w5.heap[gr]? = some (.cells #[.int .i64 0, .int .i64 a0_1, .int .i64 a0_2, .int .i64 a0_3, .int .i64 a0_4, .int .i64 a0_5] 26 (0, 0)) by subst hw5 hgr; exact blk_new w4 _)
 have n2_ := Aside0.mk (show Below w.heap.size w w5 by subst hw5; exact below_alloc HB.out _)
 have GR := Aside0.mk (show w.heap.size ≤ gr by subst hgr; exact below_size HB.out)
 have NE := Aside0.mk (show gs ≠ gr by subst hgr; have := blk_lt BS.out; omega)
 rw [← hw5, ← hgr]
 clear hw5 hgr BS HB hcgs0 hfgs0 hcgs1 hfgs1 hcgs2 hfgs2 hcgs3 hfgs3 hcgs4 hfgs4 hcgs5 hfgs5
 have BS := n0_
 have BR := n1_
 have HB := n2_
 clear n0_ n1_ n2_
 have hcgs0 : w5.cell? ⟨gs, 0, none⟩ = some (.int .i64 a0_0) := (blk_cell BS.out 0).trans rfl
 have hcgs1 : w5.cell? ⟨gs, 1, none⟩ = some (.int .i64 a0_1) := (blk_cell BS.out 1).trans rfl
 have hcgs2 : w5.cell? ⟨gs, 2, none⟩ = some (.int .i64 a0_2) := (blk_cell BS.out 2).trans rfl
 have hcgs3 : w5.cell? ⟨gs, 3, none⟩ = some (.int .i64 a0_3) := (blk_cell BS.out 3).trans rfl
 have hcgs4 : w5.cell? ⟨gs, 4, none⟩ = some (.int .i64 a0_4) := (blk_cell BS.out 4).trans rfl
 have hcgs5 : w5.cell? ⟨gs, 5, none⟩ = some (.int .i64 a0_5) := (blk_cell BS.out 5).trans rfl
 have hfgs0 := blk_frozen BS.out 0
 have hfgs1 := blk_frozen BS.out 1
 have hfgs2 := blk_frozen BS.out 2
 have hfgs3 := blk_frozen BS.out 3
 have hfgs4 := blk_frozen BS.out 4
 have hfgs5 := blk_frozen BS.out 5
 go_wp2_with (go_at_call 80; (with_reducible refine (impl_fields.calls k a0_0 z _ G0.out).mono ?_); rintro e w' ⟨rfl, ⟨nd, rfl⟩⟩)
 go_loopg [4, 5, 6, 7, 14] k (fun kq v4 v5 v6 v7 v14 w' => ∃ (x r_1 r_2 r_3 r_4 r_5 : Int), v14 = .int .i64 x ∧ Aside0 (impl_Step_valid.l0 kq a0_0 a0_1 a0_2 a0_3 a0_4 a0_5 z r_1 r_2 r_3 r_4 r_5 x = some r) ∧ Aside0 (kq ≤ k) ∧ Aside0 (w'.heap[gs]? = some (.cells #[.int .i64 a0_0, .int .i64 a0_1, .int .i64 a0_2, .int .i64 a0_3, .int .i64 a0_4, .int .i64 a0_5] 26 (0, 0))) ∧ Aside0 (w'.heap[gr]? = some (.cells #[.int .i64 0, .int .i64 r_1, .int .i64 r_2, .int .i64 r_3, .int .i64 r_4, .int .i64 r_5] 26 (0, 0))) ∧ Aside0 (Below w.heap.size w w'))
 case atStart => exact ⟨0, a0_1, a0_2, a0_3, a0_4, a0_5, rfl, G1, ⟨Nat.le_refl _⟩, ⟨zO_ BS.out⟩, ⟨zO_ BR.out⟩, ⟨by repeat (first | (with_reducible first | exact HB.out | apply below_alloc | apply pw_below_drewN | apply below_drew1 | refine below_set ?_ GS.out | refine below_set ?_ GR.out) | exact HB.out)⟩⟩
 case round =>
  clear G1 BS BR HB hcgs0 hfgs0 hcgs1 hfgs1 hcgs2 hfgs2 hcgs3 hfgs3 hcgs4 hfgs4 hcgs5 hfgs5
  obtain ⟨x, r_1, r_2, r_3, r_4, r_5, rfl, HA, HK1, BS, BR, HB⟩ := hrel
  cases gk with
  | zero => exact absurd HA.out (by simp [impl_Step_valid.l0])
  | succ k1 =>
   have h := HA.out
   clear HA
   simp only [impl_Step_valid.l0] at h
   by_cases c3 : x < (z.size : Int)
   ·have c3b : decide (x < (z.size : Int)) = true := decide_eq_true c3
    rw [if_pos c3] at h
    by_cases c4 : 0 ≤ x
    ·rw [if_pos c4] at h
     have p6 := eq_true c4
     have q6 := eq_true c3
     have hx6 := bt_at z x
     clear c3 c4
     replace h := Option.bind_eq_some_iff.mp h
     obtain ⟨⟨lo, hi⟩, A5', h⟩ := h
     have A5 := Aside0.mk A5'
     clear A5'
     replace h := Option.bind_eq_some_iff.mp h
     obtain ⟨t, A6', h⟩ := h
     have A6 := Aside0.mk A6'
     clear A6'
     have hj := fieldAt_cases (bt z x)
     have hcgs0 : wr.cell? ⟨gs, 0, none⟩ = some (.int .i64 a0_0) := (blk_cell BS.out 0).trans rfl
     have hcgs1 : wr.cell? ⟨gs, 1, none⟩ = some (.int .i64 a0_1) := (blk_cell BS.out 1).trans rfl
     have hcgs2 : wr.cell? ⟨gs, 2, none⟩ = some (.int .i64 a0_2) := (blk_cell BS.out 2).trans rfl
     have hcgs3 : wr.cell? ⟨gs, 3, none⟩ = some (.int .i64 a0_3) := (blk_cell BS.out 3).trans rfl
     have hcgs4 : wr.cell? ⟨gs, 4, none⟩ = some (.int .i64 a0_4) := (blk_cell BS.out 4).trans rfl
     have hcgs5 : wr.cell? ⟨gs, 5, none⟩ = some (.int .i64 a0_5) := (blk_cell BS.out 5).trans rfl
     have hfgs0 := blk_frozen BS.out 0
     have hfgs1 := blk_frozen BS.out 1
     have hfgs2 := blk_frozen BS.out 2
     have hfgs3 := blk_frozen BS.out 3
     have hfgs4 := blk_frozen BS.out 4
     have hfgs5 := blk_frozen BS.out 5
     rcases hj with hj | hj | hj | hj | hj
     ·replace A6 : Aside0 (impl_in.f a0_1 lo hi = some t) := ⟨by have := A6.out; rw [hj] at this; exact this⟩
      rw [hj] at h
      cases t with
      | true =>
       have H' := Aside0.mk h
       clear h
       go_wp2_with (first | (go_at_call 80; (with_reducible refine (impl_fields.calls k a0_0 z _ G0.out).mono ?_); rintro e w' ⟨rfl, ⟨nd, rfl⟩⟩) | (go_at_call 81; (with_reducible refine (impl_Step_ranges.calls k1 a0_0 a0_1 a0_2 a0_3 a0_4 a0_5 (bt z x) lo hi _ A5.out).mono ?_); rintro e w7 ⟨rfl, hb⟩; have ngs_ := Aside0.mk (blk_below (g := gs) (o := .cells #[.int .i64 a0_0, .int .i64 a0_1, .int .i64 a0_2, .int .i64 a0_3, .int .i64 a0_4, .int .i64 a0_5] 26 (0, 0)) (zO_ BS.out) hb); have ngr_ := Aside0.mk (blk_below (g := gr) (o := .cells #[.int .i64 0, .int .i64 r_1, .int .i64 r_2, .int .i64 r_3, .int .i64 r_4, .int .i64 r_5] 26 (0, 0)) (zO_ BR.out) hb); have nb_ := Aside0.mk (below_step (by repeat (first | (with_reducible first | exact HB.out | apply below_alloc | apply pw_below_drewN | apply below_drew1 | refine below_set ?_ GS.out | refine below_set ?_ GR.out) | exact HB.out)) hb); clear BS BR HB; clear hcgs0 hfgs0 hcgs1 hfgs1 hcgs2 hfgs2 hcgs3 hfgs3 hcgs4 hfgs4 hcgs5 hfgs5; have BS := ngs_; have BR := ngr_; have HB := nb_; clear ngs_ ngr_ nb_ hb; have hcgs0 : w7.cell? ⟨gs, 0, none⟩ = some (.int .i64 a0_0) := (blk_cell BS.out 0).trans rfl; have hcgs1 : w7.cell? ⟨gs, 1, none⟩ = some (.int .i64 a0_1) := (blk_cell BS.out 1).trans rfl; have hcgs2 : w7.cell? ⟨gs, 2, none⟩ = some (.int .i64 a0_2) := (blk_cell BS.out 2).trans rfl; have hcgs3 : w7.cell? ⟨gs, 3, none⟩ = some (.int .i64 a0_3) := (blk_cell BS.out 3).trans rfl; have hcgs4 : w7.cell? ⟨gs, 4, none⟩ = some (.int .i64 a0_4) := (blk_cell BS.out 4).trans rfl; have hcgs5 : w7.cell? ⟨gs, 5, none⟩ = some (.int .i64 a0_5) := (blk_cell BS.out 5).trans rfl; have hfgs0 := blk_frozen BS.out 0; have hfgs1 := blk_frozen BS.out 1; have hfgs2 := blk_frozen BS.out 2; have hfgs3 := blk_frozen BS.out 3; have hfgs4 := blk_frozen BS.out 4; have hfgs5 := blk_frozen BS.out 5; have hcgr0 : w7.cell? ⟨gr, 0, none⟩ = some (.int .i64 0) := (blk_cell BR.out 0).trans rfl; have hcgr1 : w7.cell? ⟨gr, 1, none⟩ = some (.int .i64 r_1) := (blk_cell BR.out 1).trans rfl; have hcgr2 : w7.cell? ⟨gr, 2, none⟩ = some (.int .i64 r_2) := (blk_cell BR.out 2).trans rfl; have hcgr3 : w7.cell? ⟨gr, 3, none⟩ = some (.int .i64 r_3) := (blk_cell BR.out 3).trans rfl; have hcgr4 : w7.cell? ⟨gr, 4, none⟩ = some (.int .i64 r_4) := (blk_cell BR.out 4).trans rfl; have hcgr5 : w7.cell? ⟨gr, 5, none⟩ = some (.int .i64 r_5) := (blk_cell BR.out 5).trans rfl; have hfgr0 := blk_frozen BR.out 0; have hfgr1 := blk_frozen BR.out 1; have hfgr2 := blk_frozen BR.out 2; have hfgr3 := blk_frozen BR.out 3; have hfgr4 := blk_frozen BR.out 4; have hfgr5 := blk_frozen BR.out 5) | (go_at_call 82; (with_reducible refine (impl_Step_field.callsj gs (bt z x) 1 hj _).mono ?_); rintro e w' ⟨rfl, ⟨nd, rfl⟩⟩) | (go_at_call 82; (with_reducible refine (impl_Step_field.callsj gr (bt z x) 1 hj _).mono ?_); rintro e w' ⟨rfl, ⟨nd, rfl⟩⟩) | (go_at_call 59; (with_reducible refine (impl_in.calls a0_1 lo hi true _ A6.out).mono ?_); rintro e w' ⟨rfl, ⟨nd, rfl⟩⟩))
       go_roundg k1
       case measure => have := HK1.out; omega
       case rel => exact ⟨wrap64 (x + 1), zr_ 1 1 r_1, zr_ 2 1 r_2, zr_ 3 1 r_3, zr_ 4 1 r_4, zr_ 5 1 r_5, (by first | rfl | (simp; done) | (simp [*]; done)), H', ⟨by have := HK1.out; omega⟩, ⟨by (with_reducible repeat (first | refine blk_drewN ?_ _ | refine blk_drew ?_ | refine blk_alloc ?_ _)); refine blk_far ?_ NE.out _; (with_reducible repeat (first | refine blk_drewN ?_ _ | refine blk_drew ?_ | refine blk_alloc ?_ _)); exact BS.out⟩, ⟨by (with_reducible repeat (first | refine blk_drewN ?_ _ | refine blk_drew ?_ | refine blk_alloc ?_ _)); refine blk_put (cs := #[.int .i64 0, .int .i64 r_1, .int .i64 r_2, .int .i64 r_3, .int .i64 r_4, .int .i64 r_5]) ?_ 1 _ rfl; (with_reducible repeat (first | refine blk_drewN ?_ _ | refine blk_drew ?_ | refine blk_alloc ?_ _)); exact BR.out⟩, ⟨by repeat (first | (with_reducible first | exact HB.out | apply below_alloc | apply pw_below_drewN | apply below_drew1 | refine below_set ?_ GS.out | refine below_set ?_ GR.out) | exact HB.out)⟩⟩
      | false =>
       have h' : false = r := by simpa using h
       subst h'
       clear h
       go_wp2_with (first | (go_at_call 80; (with_reducible refine (impl_fields.calls k a0_0 z _ G0.out).mono ?_); rintro e w' ⟨rfl, ⟨nd, rfl⟩⟩) | (go_at_call 81; (with_reducible refine (impl_Step_ranges.calls k1 a0_0 a0_1 a0_2 a0_3 a0_4 a0_5 (bt z x) lo hi _ A5.out).mono ?_); rintro e w7 ⟨rfl, hb⟩; have ngs_ := Aside0.mk (blk_below (g := gs) (o := .cells #[.int .i64 a0_0, .int .i64 a0_1, .int .i64 a0_2, .int .i64 a0_3, .int .i64 a0_4, .int .i64 a0_5] 26 (0, 0)) (zO_ BS.out) hb); have ngr_ := Aside0.mk (blk_below (g := gr) (o := .cells #[.int .i64 0, .int .i64 r_1, .int .i64 r_2, .int .i64 r_3, .int .i64 r_4, .int .i64 r_5] 26 (0, 0)) (zO_ BR.out) hb); have nb_ := Aside0.mk (below_step (by repeat (first | (with_reducible first | exact HB.out | apply below_alloc | apply pw_below_drewN | apply below_drew1 | refine below_set ?_ GS.out | refine below_set ?_ GR.out) | exact HB.out)) hb); clear BS BR HB; clear hcgs0 hfgs0 hcgs1 hfgs1 hcgs2 hfgs2 hcgs3 hfgs3 hcgs4 hfgs4 hcgs5 hfgs5; have BS := ngs_; have BR := ngr_; have HB := nb_; clear ngs_ ngr_ nb_ hb; have hcgs0 : w7.cell? ⟨gs, 0, none⟩ = some (.int .i64 a0_0) := (blk_cell BS.out 0).trans rfl; have hcgs1 : w7.cell? ⟨gs, 1, none⟩ = some (.int .i64 a0_1) := (blk_cell BS.out 1).trans rfl; have hcgs2 : w7.cell? ⟨gs, 2, none⟩ = some (.int .i64 a0_2) := (blk_cell BS.out 2).trans rfl; have hcgs3 : w7.cell? ⟨gs, 3, none⟩ = some (.int .i64 a0_3) := (blk_cell BS.out 3).trans rfl; have hcgs4 : w7.cell? ⟨gs, 4, none⟩ = some (.int .i64 a0_4) := (blk_cell BS.out 4).trans rfl; have hcgs5 : w7.cell? ⟨gs, 5, none⟩ = some (.int .i64 a0_5) := (blk_cell BS.out 5).trans rfl; have hfgs0 := blk_frozen BS.out 0; have hfgs1 := blk_frozen BS.out 1; have hfgs2 := blk_frozen BS.out 2; have hfgs3 := blk_frozen BS.out 3; have hfgs4 := blk_frozen BS.out 4; have hfgs5 := blk_frozen BS.out 5; have hcgr0 : w7.cell? ⟨gr, 0, none⟩ = some (.int .i64 0) := (blk_cell BR.out 0).trans rfl; have hcgr1 : w7.cell? ⟨gr, 1, none⟩ = some (.int .i64 r_1) := (blk_cell BR.out 1).trans rfl; have hcgr2 : w7.cell? ⟨gr, 2, none⟩ = some (.int .i64 r_2) := (blk_cell BR.out 2).trans rfl; have hcgr3 : w7.cell? ⟨gr, 3, none⟩ = some (.int .i64 r_3) := (blk_cell BR.out 3).trans rfl; have hcgr4 : w7.cell? ⟨gr, 4, none⟩ = some (.int .i64 r_4) := (blk_cell BR.out 4).trans rfl; have hcgr5 : w7.cell? ⟨gr, 5, none⟩ = some (.int .i64 r_5) := (blk_cell BR.out 5).trans rfl; have hfgr0 := blk_frozen BR.out 0; have hfgr1 := blk_frozen BR.out 1; have hfgr2 := blk_frozen BR.out 2; have hfgr3 := blk_frozen BR.out 3; have hfgr4 := blk_frozen BR.out 4; have hfgr5 := blk_frozen BR.out 5) | (go_at_call 82; (with_reducible refine (impl_Step_field.callsj gs (bt z x) 1 hj _).mono ?_); rintro e w' ⟨rfl, ⟨nd, rfl⟩⟩) | (go_at_call 59; (with_reducible refine (impl_in.calls a0_1 lo hi false _ A6.out).mono ?_); rintro e w' ⟨rfl, ⟨nd, rfl⟩⟩))
       go_ret
       exact ⟨by first | rfl | (simp; done) | (simp [*]; done), by repeat (first | (with_reducible first | exact HB.out | apply below_alloc | apply pw_below_drewN | apply below_drew1 | refine below_set ?_ GS.out | refine below_set ?_ GR.out) | exact HB.out)⟩
     ·replace A6 : Aside0 (impl_in.f a0_2 lo hi = some t) := ⟨by have := A6.out; rw [hj] at this; exact this⟩
      rw [hj] at h
      cases t with
      | true =>
       have H' := Aside0.mk h
       clear h
       go_wp2_with (first | (go_at_call 80; (with_reducible refine (impl_fields.calls k a0_0 z _ G0.out).mono ?_); rintro e w' ⟨rfl, ⟨nd, rfl⟩⟩) | (go_at_call 81; (with_reducible refine (impl_Step_ranges.calls k1 a0_0 a0_1 a0_2 a0_3 a0_4 a0_5 (bt z x) lo hi _ A5.out).mono ?_); rintro e w7 ⟨rfl, hb⟩; have ngs_ := Aside0.mk (blk_below (g := gs) (o := .cells #[.int .i64 a0_0, .int .i64 a0_1, .int .i64 a0_2, .int .i64 a0_3, .int .i64 a0_4, .int .i64 a0_5] 26 (0, 0)) (zO_ BS.out) hb); have ngr_ := Aside0.mk (blk_below (g := gr) (o := .cells #[.int .i64 0, .int .i64 r_1, .int .i64 r_2, .int .i64 r_3, .int .i64 r_4, .int .i64 r_5] 26 (0, 0)) (zO_ BR.out) hb); have nb_ := Aside0.mk (below_step (by repeat (first | (with_reducible first | exact HB.out | apply below_alloc | apply pw_below_drewN | apply below_drew1 | refine below_set ?_ GS.out | refine below_set ?_ GR.out) | exact HB.out)) hb); clear BS BR HB; clear hcgs0 hfgs0 hcgs1 hfgs1 hcgs2 hfgs2 hcgs3 hfgs3 hcgs4 hfgs4 hcgs5 hfgs5; have BS := ngs_; have BR := ngr_; have HB := nb_; clear ngs_ ngr_ nb_ hb; have hcgs0 : w7.cell? ⟨gs, 0, none⟩ = some (.int .i64 a0_0) := (blk_cell BS.out 0).trans rfl; have hcgs1 : w7.cell? ⟨gs, 1, none⟩ = some (.int .i64 a0_1) := (blk_cell BS.out 1).trans rfl; have hcgs2 : w7.cell? ⟨gs, 2, none⟩ = some (.int .i64 a0_2) := (blk_cell BS.out 2).trans rfl; have hcgs3 : w7.cell? ⟨gs, 3, none⟩ = some (.int .i64 a0_3) := (blk_cell BS.out 3).trans rfl; have hcgs4 : w7.cell? ⟨gs, 4, none⟩ = some (.int .i64 a0_4) := (blk_cell BS.out 4).trans rfl; have hcgs5 : w7.cell? ⟨gs, 5, none⟩ = some (.int .i64 a0_5) := (blk_cell BS.out 5).trans rfl; have hfgs0 := blk_frozen BS.out 0; have hfgs1 := blk_frozen BS.out 1; have hfgs2 := blk_frozen BS.out 2; have hfgs3 := blk_frozen BS.out 3; have hfgs4 := blk_frozen BS.out 4; have hfgs5 := blk_frozen BS.out 5; have hcgr0 : w7.cell? ⟨gr, 0, none⟩ = some (.int .i64 0) := (blk_cell BR.out 0).trans rfl; have hcgr1 : w7.cell? ⟨gr, 1, none⟩ = some (.int .i64 r_1) := (blk_cell BR.out 1).trans rfl; have hcgr2 : w7.cell? ⟨gr, 2, none⟩ = some (.int .i64 r_2) := (blk_cell BR.out 2).trans rfl; have hcgr3 : w7.cell? ⟨gr, 3, none⟩ = some (.int .i64 r_3) := (blk_cell BR.out 3).trans rfl; have hcgr4 : w7.cell? ⟨gr, 4, none⟩ = some (.int .i64 r_4) := (blk_cell BR.out 4).trans rfl; have hcgr5 : w7.cell? ⟨gr, 5, none⟩ = some (.int .i64 r_5) := (blk_cell BR.out 5).trans rfl; have hfgr0 := blk_frozen BR.out 0; have hfgr1 := blk_frozen BR.out 1; have hfgr2 := blk_frozen BR.out 2; have hfgr3 := blk_frozen BR.out 3; have hfgr4 := blk_frozen BR.out 4; have hfgr5 := blk_frozen BR.out 5) | (go_at_call 82; (with_reducible refine (impl_Step_field.callsj gs (bt z x) 2 hj _).mono ?_); rintro e w' ⟨rfl, ⟨nd, rfl⟩⟩) | (go_at_call 82; (with_reducible refine (impl_Step_field.callsj gr (bt z x) 2 hj _).mono ?_); rintro e w' ⟨rfl, ⟨nd, rfl⟩⟩) | (go_at_call 59; (with_reducible refine (impl_in.calls a0_2 lo hi true _ A6.out).mono ?_); rintro e w' ⟨rfl, ⟨nd, rfl⟩⟩))
       go_roundg k1
       case measure => have := HK1.out; omega
       case rel => exact ⟨wrap64 (x + 1), zr_ 1 2 r_1, zr_ 2 2 r_2, zr_ 3 2 r_3, zr_ 4 2 r_4, zr_ 5 2 r_5, (by first | rfl | (simp; done) | (simp [*]; done)), H', ⟨by have := HK1.out; omega⟩, ⟨by (with_reducible repeat (first | refine blk_drewN ?_ _ | refine blk_drew ?_ | refine blk_alloc ?_ _)); refine blk_far ?_ NE.out _; (with_reducible repeat (first | refine blk_drewN ?_ _ | refine blk_drew ?_ | refine blk_alloc ?_ _)); exact BS.out⟩, ⟨by (with_reducible repeat (first | refine blk_drewN ?_ _ | refine blk_drew ?_ | refine blk_alloc ?_ _)); refine blk_put (cs := #[.int .i64 0, .int .i64 r_1, .int .i64 r_2, .int .i64 r_3, .int .i64 r_4, .int .i64 r_5]) ?_ 2 _ rfl; (with_reducible repeat (first | refine blk_drewN ?_ _ | refine blk_drew ?_ | refine blk_alloc ?_ _)); exact BR.out⟩, ⟨by repeat (first | (with_reducible first | exact HB.out | apply below_alloc | apply pw_below_drewN | apply below_drew1 | refine below_set ?_ GS.out | refine below_set ?_ GR.out) | exact HB.out)⟩⟩
      | false =>
       have h' : false = r := by simpa using h
       subst h'
       clear h
       go_wp2_with (first | (go_at_call 80; (with_reducible refine (impl_fields.calls k a0_0 z _ G0.out).mono ?_); rintro e w' ⟨rfl, ⟨nd, rfl⟩⟩) | (go_at_call 81; (with_reducible refine (impl_Step_ranges.calls k1 a0_0 a0_1 a0_2 a0_3 a0_4 a0_5 (bt z x) lo hi _ A5.out).mono ?_); rintro e w7 ⟨rfl, hb⟩; have ngs_ := Aside0.mk (blk_below (g := gs) (o := .cells #[.int .i64 a0_0, .int .i64 a0_1, .int .i64 a0_2, .int .i64 a0_3, .int .i64 a0_4, .int .i64 a0_5] 26 (0, 0)) (zO_ BS.out) hb); have ngr_ := Aside0.mk (blk_below (g := gr) (o := .cells #[.int .i64 0, .int .i64 r_1, .int .i64 r_2, .int .i64 r_3, .int .i64 r_4, .int .i64 r_5] 26 (0, 0)) (zO_ BR.out) hb); have nb_ := Aside0.mk (below_step (by repeat (first | (with_reducible first | exact HB.out | apply below_alloc | apply pw_below_drewN | apply below_drew1 | refine below_set ?_ GS.out | refine below_set ?_ GR.out) | exact HB.out)) hb); clear BS BR HB; clear hcgs0 hfgs0 hcgs1 hfgs1 hcgs2 hfgs2 hcgs3 hfgs3 hcgs4 hfgs4 hcgs5 hfgs5; have BS := ngs_; have BR := ngr_; have HB := nb_; clear ngs_ ngr_ nb_ hb; have hcgs0 : w7.cell? ⟨gs, 0, none⟩ = some (.int .i64 a0_0) := (blk_cell BS.out 0).trans rfl; have hcgs1 : w7.cell? ⟨gs, 1, none⟩ = some (.int .i64 a0_1) := (blk_cell BS.out 1).trans rfl; have hcgs2 : w7.cell? ⟨gs, 2, none⟩ = some (.int .i64 a0_2) := (blk_cell BS.out 2).trans rfl; have hcgs3 : w7.cell? ⟨gs, 3, none⟩ = some (.int .i64 a0_3) := (blk_cell BS.out 3).trans rfl; have hcgs4 : w7.cell? ⟨gs, 4, none⟩ = some (.int .i64 a0_4) := (blk_cell BS.out 4).trans rfl; have hcgs5 : w7.cell? ⟨gs, 5, none⟩ = some (.int .i64 a0_5) := (blk_cell BS.out 5).trans rfl; have hfgs0 := blk_frozen BS.out 0; have hfgs1 := blk_frozen BS.out 1; have hfgs2 := blk_frozen BS.out 2; have hfgs3 := blk_frozen BS.out 3; have hfgs4 := blk_frozen BS.out 4; have hfgs5 := blk_frozen BS.out 5; have hcgr0 : w7.cell? ⟨gr, 0, none⟩ = some (.int .i64 0) := (blk_cell BR.out 0).trans rfl; have hcgr1 : w7.cell? ⟨gr, 1, none⟩ = some (.int .i64 r_1) := (blk_cell BR.out 1).trans rfl; have hcgr2 : w7.cell? ⟨gr, 2, none⟩ = some (.int .i64 r_2) := (blk_cell BR.out 2).trans rfl; have hcgr3 : w7.cell? ⟨gr, 3, none⟩ = some (.int .i64 r_3) := (blk_cell BR.out 3).trans rfl; have hcgr4 : w7.cell? ⟨gr, 4, none⟩ = some (.int .i64 r_4) := (blk_cell BR.out 4).trans rfl; have hcgr5 : w7.cell? ⟨gr, 5, none⟩ = some (.int .i64 r_5) := (blk_cell BR.out 5).trans rfl; have hfgr0 := blk_frozen BR.out 0; have hfgr1 := blk_frozen BR.out 1; have hfgr2 := blk_frozen BR.out 2; have hfgr3 := blk_frozen BR.out 3; have hfgr4 := blk_frozen BR.out 4; have hfgr5 := blk_frozen BR.out 5) | (go_at_call 82; (with_reducible refine (impl_Step_field.callsj gs (bt z x) 2 hj _).mono ?_); rintro e w' ⟨rfl, ⟨nd, rfl⟩⟩) | (go_at_call 59; (with_reducible refine (impl_in.calls a0_2 lo hi false _ A6.out).mono ?_); rintro e w' ⟨rfl, ⟨nd, rfl⟩⟩))
       go_ret
       exact ⟨by first | rfl | (simp; done) | (simp [*]; done), by repeat (first | (with_reducible first | exact HB.out | apply below_alloc | apply pw_below_drewN | apply below_drew1 | refine below_set ?_ GS.out | refine below_set ?_ GR.out) | exact HB.out)⟩
     ·replace A6 : Aside0 (impl_in.f a0_3 lo hi = some t) := ⟨by have := A6.out; rw [hj] at this; exact this⟩
      rw [hj] at h
      cases t with
      | true =>
       have H' := Aside0.mk h
       clear h
       go_wp2_with (first | (go_at_call 80; (with_reducible refine (impl_fields.calls k a0_0 z _ G0.out).mono ?_); rintro e w' ⟨rfl, ⟨nd, rfl⟩⟩) | (go_at_call 81; (with_reducible refine (impl_Step_ranges.calls k1 a0_0 a0_1 a0_2 a0_3 a0_4 a0_5 (bt z x) lo hi _ A5.out).mono ?_); rintro e w7 ⟨rfl, hb⟩; have ngs_ := Aside0.mk (blk_below (g := gs) (o := .cells #[.int .i64 a0_0, .int .i64 a0_1, .int .i64 a0_2, .int .i64 a0_3, .int .i64 a0_4, .int .i64 a0_5] 26 (0, 0)) (zO_ BS.out) hb); have ngr_ := Aside0.mk (blk_below (g := gr) (o := .cells #[.int .i64 0, .int .i64 r_1, .int .i64 r_2, .int .i64 r_3, .int .i64 r_4, .int .i64 r_5] 26 (0, 0)) (zO_ BR.out) hb); have nb_ := Aside0.mk (below_step (by repeat (first | (with_reducible first | exact HB.out | apply below_alloc | apply pw_below_drewN | apply below_drew1 | refine below_set ?_ GS.out | refine below_set ?_ GR.out) | exact HB.out)) hb); clear BS BR HB; clear hcgs0 hfgs0 hcgs1 hfgs1 hcgs2 hfgs2 hcgs3 hfgs3 hcgs4 hfgs4 hcgs5 hfgs5; have BS := ngs_; have BR := ngr_; have HB := nb_; clear ngs_ ngr_ nb_ hb; have hcgs0 : w7.cell? ⟨gs, 0, none⟩ = some (.int .i64 a0_0) := (blk_cell BS.out 0).trans rfl; have hcgs1 : w7.cell? ⟨gs, 1, none⟩ = some (.int .i64 a0_1) := (blk_cell BS.out 1).trans rfl; have hcgs2 : w7.cell? ⟨gs, 2, none⟩ = some (.int .i64 a0_2) := (blk_cell BS.out 2).trans rfl; have hcgs3 : w7.cell? ⟨gs, 3, none⟩ = some (.int .i64 a0_3) := (blk_cell BS.out 3).trans rfl; have hcgs4 : w7.cell? ⟨gs, 4, none⟩ = some (.int .i64 a0_4) := (blk_cell BS.out 4).trans rfl; have hcgs5 : w7.cell? ⟨gs, 5, none⟩ = some (.int .i64 a0_5) := (blk_cell BS.out 5).trans rfl; have hfgs0 := blk_frozen BS.out 0; have hfgs1 := blk_frozen BS.out 1; have hfgs2 := blk_frozen BS.out 2; have hfgs3 := blk_frozen BS.out 3; have hfgs4 := blk_frozen BS.out 4; have hfgs5 := blk_frozen BS.out 5; have hcgr0 : w7.cell? ⟨gr, 0, none⟩ = some (.int .i64 0) := (blk_cell BR.out 0).trans rfl; have hcgr1 : w7.cell? ⟨gr, 1, none⟩ = some (.int .i64 r_1) := (blk_cell BR.out 1).trans rfl; have hcgr2 : w7.cell? ⟨gr, 2, none⟩ = some (.int .i64 r_2) := (blk_cell BR.out 2).trans rfl; have hcgr3 : w7.cell? ⟨gr, 3, none⟩ = some (.int .i64 r_3) := (blk_cell BR.out 3).trans rfl; have hcgr4 : w7.cell? ⟨gr, 4, none⟩ = some (.int .i64 r_4) := (blk_cell BR.out 4).trans rfl; have hcgr5 : w7.cell? ⟨gr, 5, none⟩ = some (.int .i64 r_5) := (blk_cell BR.out 5).trans rfl; have hfgr0 := blk_frozen BR.out 0; have hfgr1 := blk_frozen BR.out 1; have hfgr2 := blk_frozen BR.out 2; have hfgr3 := blk_frozen BR.out 3; have hfgr4 := blk_frozen BR.out 4; have hfgr5 := blk_frozen BR.out 5) | (go_at_call 82; (with_reducible refine (impl_Step_field.callsj gs (bt z x) 3 hj _).mono ?_); rintro e w' ⟨rfl, ⟨nd, rfl⟩⟩) | (go_at_call 82; (with_reducible refine (impl_Step_field.callsj gr (bt z x) 3 hj _).mono ?_); rintro e w' ⟨rfl, ⟨nd, rfl⟩⟩) | (go_at_call 59; (with_reducible refine (impl_in.calls a0_3 lo hi true _ A6.out).mono ?_); rintro e w' ⟨rfl, ⟨nd, rfl⟩⟩))
       go_roundg k1
       case measure => have := HK1.out; omega
       case rel => exact ⟨wrap64 (x + 1), zr_ 1 3 r_1, zr_ 2 3 r_2, zr_ 3 3 r_3, zr_ 4 3 r_4, zr_ 5 3 r_5, (by first | rfl | (simp; done) | (simp [*]; done)), H', ⟨by have := HK1.out; omega⟩, ⟨by (with_reducible repeat (first | refine blk_drewN ?_ _ | refine blk_drew ?_ | refine blk_alloc ?_ _)); refine blk_far ?_ NE.out _; (with_reducible repeat (first | refine blk_drewN ?_ _ | refine blk_drew ?_ | refine blk_alloc ?_ _)); exact BS.out⟩, ⟨by (with_reducible repeat (first | refine blk_drewN ?_ _ | refine blk_drew ?_ | refine blk_alloc ?_ _)); refine blk_put (cs := #[.int .i64 0, .int .i64 r_1, .int .i64 r_2, .int .i64 r_3, .int .i64 r_4, .int .i64 r_5]) ?_ 3 _ rfl; (with_reducible repeat (first | refine blk_drewN ?_ _ | refine blk_drew ?_ | refine blk_alloc ?_ _)); exact BR.out⟩, ⟨by repeat (first | (with_reducible first | exact HB.out | apply below_alloc | apply pw_below_drewN | apply below_drew1 | refine below_set ?_ GS.out | refine below_set ?_ GR.out) | exact HB.out)⟩⟩
      | false =>
       have h' : false = r := by simpa using h
       subst h'
       clear h
       go_wp2_with (first | (go_at_call 80; (with_reducible refine (impl_fields.calls k a0_0 z _ G0.out).mono ?_); rintro e w' ⟨rfl, ⟨nd, rfl⟩⟩) | (go_at_call 81; (with_reducible refine (impl_Step_ranges.calls k1 a0_0 a0_1 a0_2 a0_3 a0_4 a0_5 (bt z x) lo hi _ A5.out).mono ?_); rintro e w7 ⟨rfl, hb⟩; have ngs_ := Aside0.mk (blk_below (g := gs) (o := .cells #[.int .i64 a0_0, .int .i64 a0_1, .int .i64 a0_2, .int .i64 a0_3, .int .i64 a0_4, .int .i64 a0_5] 26 (0, 0)) (zO_ BS.out) hb); have ngr_ := Aside0.mk (blk_below (g := gr) (o := .cells #[.int .i64 0, .int .i64 r_1, .int .i64 r_2, .int .i64 r_3, .int .i64 r_4, .int .i64 r_5] 26 (0, 0)) (zO_ BR.out) hb); have nb_ := Aside0.mk (below_step (by repeat (first | (with_reducible first | exact HB.out | apply below_alloc | apply pw_below_drewN | apply below_drew1 | refine below_set ?_ GS.out | refine below_set ?_ GR.out) | exact HB.out)) hb); clear BS BR HB; clear hcgs0 hfgs0 hcgs1 hfgs1 hcgs2 hfgs2 hcgs3 hfgs3 hcgs4 hfgs4 hcgs5 hfgs5; have BS := ngs_; have BR := ngr_; have HB := nb_; clear ngs_ ngr_ nb_ hb; have hcgs0 : w7.cell? ⟨gs, 0, none⟩ = some (.int .i64 a0_0) := (blk_cell BS.out 0).trans rfl; have hcgs1 : w7.cell? ⟨gs, 1, none⟩ = some (.int .i64 a0_1) := (blk_cell BS.out 1).trans rfl; have hcgs2 : w7.cell? ⟨gs, 2, none⟩ = some (.int .i64 a0_2) := (blk_cell BS.out 2).trans rfl; have hcgs3 : w7.cell? ⟨gs, 3, none⟩ = some (.int .i64 a0_3) := (blk_cell BS.out 3).trans rfl; have hcgs4 : w7.cell? ⟨gs, 4, none⟩ = some (.int .i64 a0_4) := (blk_cell BS.out 4).trans rfl; have hcgs5 : w7.cell? ⟨gs, 5, none⟩ = some (.int .i64 a0_5) := (blk_cell BS.out 5).trans rfl; have hfgs0 := blk_frozen BS.out 0; have hfgs1 := blk_frozen BS.out 1; have hfgs2 := blk_frozen BS.out 2; have hfgs3 := blk_frozen BS.out 3; have hfgs4 := blk_frozen BS.out 4; have hfgs5 := blk_frozen BS.out 5; have hcgr0 : w7.cell? ⟨gr, 0, none⟩ = some (.int .i64 0) := (blk_cell BR.out 0).trans rfl; have hcgr1 : w7.cell? ⟨gr, 1, none⟩ = some (.int .i64 r_1) := (blk_cell BR.out 1).trans rfl; have hcgr2 : w7.cell? ⟨gr, 2, none⟩ = some (.int .i64 r_2) := (blk_cell BR.out 2).trans rfl; have hcgr3 : w7.cell? ⟨gr, 3, none⟩ = some (.int .i64 r_3) := (blk_cell BR.out 3).trans rfl; have hcgr4 : w7.cell? ⟨gr, 4, none⟩ = some (.int .i64 r_4) := (blk_cell BR.out 4).trans rfl; have hcgr5 : w7.cell? ⟨gr, 5, none⟩ = some (.int .i64 r_5) := (blk_cell BR.out 5).trans rfl; have hfgr0 := blk_frozen BR.out 0; have hfgr1 := blk_frozen BR.out 1; have hfgr2 := blk_frozen BR.out 2; have hfgr3 := blk_frozen BR.out 3; have hfgr4 := blk_frozen BR.out 4; have hfgr5 := blk_frozen BR.out 5) | (go_at_call 82; (with_reducible refine (impl_Step_field.callsj gs (bt z x) 3 hj _).mono ?_); rintro e w' ⟨rfl, ⟨nd, rfl⟩⟩) | (go_at_call 59; (with_reducible refine (impl_in.calls a0_3 lo hi false _ A6.out).mono ?_); rintro e w' ⟨rfl, ⟨nd, rfl⟩⟩))
       go_ret
       exact ⟨by first | rfl | (simp; done) | (simp [*]; done), by repeat (first | (with_reducible first | exact HB.out | apply below_alloc | apply pw_below_drewN | apply below_drew1 | refine below_set ?_ GS.out | refine below_set ?_ GR.out) | exact HB.out)⟩
     ·replace A6 : Aside0 (impl_in.f a0_4 lo hi = some t) := ⟨by have := A6.out; rw [hj] at this; exact this⟩
      rw [hj] at h
      cases t with
      | true =>
       have H' := Aside0.mk h
       clear h
       go_wp2_with (first | (go_at_call 80; (with_reducible refine (impl_fields.calls k a0_0 z _ G0.out).mono ?_); rintro e w' ⟨rfl, ⟨nd, rfl⟩⟩) | (go_at_call 81; (with_reducible refine (impl_Step_ranges.calls k1 a0_0 a0_1 a0_2 a0_3 a0_4 a0_5 (bt z x) lo hi _ A5.out).mono ?_); rintro e w7 ⟨rfl, hb⟩; have ngs_ := Aside0.mk (blk_below (g := gs) (o := .cells #[.int .i64 a0_0, .int .i64 a0_1, .int .i64 a0_2, .int .i64 a0_3, .int .i64 a0_4, .int .i64 a0_5] 26 (0, 0)) (zO_ BS.out) hb); have ngr_ := Aside0.mk (blk_below (g := gr) (o := .cells #[.int .i64 0, .int .i64 r_1, .int .i64 r_2, .int .i64 r_3, .int .i64 r_4, .int .i64 r_5] 26 (0, 0)) (zO_ BR.out) hb); have nb_ := Aside0.mk (below_step (by repeat (first | (with_reducible first | exact HB.out | apply below_alloc | apply pw_below_drewN | apply below_drew1 | refine below_set ?_ GS.out | refine below_set ?_ GR.out) | exact HB.out)) hb); clear BS BR HB; clear hcgs0 hfgs0 hcgs1 hfgs1 hcgs2 hfgs2 hcgs3 hfgs3 hcgs4 hfgs4 hcgs5 hfgs5; have BS := ngs_; have BR := ngr_; have HB := nb_; clear ngs_ ngr_ nb_ hb; have hcgs0 : w7.cell? ⟨gs, 0, none⟩ = some (.int .i64 a0_0) := (blk_cell BS.out 0).trans rfl; have hcgs1 : w7.cell? ⟨gs, 1, none⟩ = some (.int .i64 a0_1) := (blk_cell BS.out 1).trans rfl; have hcgs2 : w7.cell? ⟨gs, 2, none⟩ = some (.int .i64 a0_2) := (blk_cell BS.out 2).trans rfl; have hcgs3 : w7.cell? ⟨gs, 3, none⟩ = some (.int .i64 a0_3) := (blk_cell BS.out 3).trans rfl; have hcgs4 : w7.cell? ⟨gs, 4, none⟩ = some (.int .i64 a0_4) := (blk_cell BS.out 4).trans rfl; have hcgs5 : w7.cell? ⟨gs, 5, none⟩ = some (.int .i64 a0_5) := (blk_cell BS.out 5).trans rfl; have hfgs0 := blk_frozen BS.out 0; have hfgs1 := blk_frozen BS.out 1; have hfgs2 := blk_frozen BS.out 2; have hfgs3 := blk_frozen BS.out 3; have hfgs4 := blk_frozen BS.out 4; have hfgs5 := blk_frozen BS.out 5; have hcgr0 : w7.cell? ⟨gr, 0, none⟩ = some (.int .i64 0) := (blk_cell BR.out 0).trans rfl; have hcgr1 : w7.cell? ⟨gr, 1, none⟩ = some (.int .i64 r_1) := (blk_cell BR.out 1).trans rfl; have hcgr2 : w7.cell? ⟨gr, 2, none⟩ = some (.int .i64 r_2) := (blk_cell BR.out 2).trans rfl; have hcgr3 : w7.cell? ⟨gr, 3, none⟩ = some (.int .i64 r_3) := (blk_cell BR.out 3).trans rfl; have hcgr4 : w7.cell? ⟨gr, 4, none⟩ = some (.int .i64 r_4) := (blk_cell BR.out 4).trans rfl; have hcgr5 : w7.cell? ⟨gr, 5, none⟩ = some (.int .i64 r_5) := (blk_cell BR.out 5).trans rfl; have hfgr0 := blk_frozen BR.out 0; have hfgr1 := blk_frozen BR.out 1; have hfgr2 := blk_frozen BR.out 2; have hfgr3 := blk_frozen BR.out 3; have hfgr4 := blk_frozen BR.out 4; have hfgr5 := blk_frozen BR.out 5) | (go_at_call 82; (with_reducible refine (impl_Step_field.callsj gs (bt z x) 4 hj _).mono ?_); rintro e w' ⟨rfl, ⟨nd, rfl⟩⟩) | (go_at_call 82; (with_reducible refine (impl_Step_field.callsj gr (bt z x) 4 hj _).mono ?_); rintro e w' ⟨rfl, ⟨nd, rfl⟩⟩) | (go_at_call 59; (with_reducible refine (impl_in.calls a0_4 lo hi true _ A6.out).mono ?_); rintro e w' ⟨rfl, ⟨nd, rfl⟩⟩))
       go_roundg k1
       case measure => have := HK1.out; omega
       case rel => exact ⟨wrap64 (x + 1), zr_ 1 4 r_1, zr_ 2 4 r_2, zr_ 3 4 r_3, zr_ 4 4 r_4, zr_ 5 4 r_5, (by first | rfl | (simp; done) | (simp [*]; done)), H', ⟨by have := HK1.out; omega⟩, ⟨by (with_reducible repeat (first | refine blk_drewN ?_ _ | refine blk_drew ?_ | refine blk_alloc ?_ _)); refine blk_far ?_ NE.out _; (with_reducible repeat (first | refine blk_drewN ?_ _ | refine blk_drew ?_ | refine blk_alloc ?_ _)); exact BS.out⟩, ⟨by (with_reducible repeat (first | refine blk_drewN ?_ _ | refine blk_drew ?_ | refine blk_alloc ?_ _)); refine blk_put (cs := #[.int .i64 0, .int .i64 r_1, .int .i64 r_2, .int .i64 r_3, .int .i64 r_4, .int .i64 r_5]) ?_ 4 _ rfl; (with_reducible repeat (first | refine blk_drewN ?_ _ | refine blk_drew ?_ | refine blk_alloc ?_ _)); exact BR.out⟩, ⟨by repeat (first | (with_reducible first | exact HB.out | apply below_alloc | apply pw_below_drewN | apply below_drew1 | refine below_set ?_ GS.out | refine below_set ?_ GR.out) | exact HB.out)⟩⟩
      | false =>
       have h' : false = r := by simpa using h
       subst h'
       clear h
       go_wp2_with (first | (go_at_call 80; (with_reducible refine (impl_fields.calls k a0_0 z _ G0.out).mono ?_); rintro e w' ⟨rfl, ⟨nd, rfl⟩⟩) | (go_at_call 81; (with_reducible refine (impl_Step_ranges.calls k1 a0_0 a0_1 a0_2 a0_3 a0_4 a0_5 (bt z x) lo hi _ A5.out).mono ?_); rintro e w7 ⟨rfl, hb⟩; have ngs_ := Aside0.mk (blk_below (g := gs) (o := .cells #[.int .i64 a0_0, .int .i64 a0_1, .int .i64 a0_2, .int .i64 a0_3, .int .i64 a0_4, .int .i64 a0_5] 26 (0, 0)) (zO_ BS.out) hb); have ngr_ := Aside0.mk (blk_below (g := gr) (o := .cells #[.int .i64 0, .int .i64 r_1, .int .i64 r_2, .int .i64 r_3, .int .i64 r_4, .int .i64 r_5] 26 (0, 0)) (zO_ BR.out) hb); have nb_ := Aside0.mk (below_step (by repeat (first | (with_reducible first | exact HB.out | apply below_alloc | apply pw_below_drewN | apply below_drew1 | refine below_set ?_ GS.out | refine below_set ?_ GR.out) | exact HB.out)) hb); clear BS BR HB; clear hcgs0 hfgs0 hcgs1 hfgs1 hcgs2 hfgs2 hcgs3 hfgs3 hcgs4 hfgs4 hcgs5 hfgs5; have BS := ngs_; have BR := ngr_; have HB := nb_; clear ngs_ ngr_ nb_ hb; have hcgs0 : w7.cell? ⟨gs, 0, none⟩ = some (.int .i64 a0_0) := (blk_cell BS.out 0).trans rfl; have hcgs1 : w7.cell? ⟨gs, 1, none⟩ = some (.int .i64 a0_1) := (blk_cell BS.out 1).trans rfl; have hcgs2 : w7.cell? ⟨gs, 2, none⟩ = some (.int .i64 a0_2) := (blk_cell BS.out 2).trans rfl; have hcgs3 : w7.cell? ⟨gs, 3, none⟩ = some (.int .i64 a0_3) := (blk_cell BS.out 3).trans rfl; have hcgs4 : w7.cell? ⟨gs, 4, none⟩ = some (.int .i64 a0_4) := (blk_cell BS.out 4).trans rfl; have hcgs5 : w7.cell? ⟨gs, 5, none⟩ = some (.int .i64 a0_5) := (blk_cell BS.out 5).trans rfl; have hfgs0 := blk_frozen BS.out 0; have hfgs1 := blk_frozen BS.out 1; have hfgs2 := blk_frozen BS.out 2; have hfgs3 := blk_frozen BS.out 3; have hfgs4 := blk_frozen BS.out 4; have hfgs5 := blk_frozen BS.out 5; have hcgr0 : w7.cell? ⟨gr, 0, none⟩ = some (.int .i64 0) := (blk_cell BR.out 0).trans rfl; have hcgr1 : w7.cell? ⟨gr, 1, none⟩ = some (.int .i64 r_1) := (blk_cell BR.out 1).trans rfl; have hcgr2 : w7.cell? ⟨gr, 2, none⟩ = some (.int .i64 r_2) := (blk_cell BR.out 2).trans rfl; have hcgr3 : w7.cell? ⟨gr, 3, none⟩ = some (.int .i64 r_3) := (blk_cell BR.out 3).trans rfl; have hcgr4 : w7.cell? ⟨gr, 4, none⟩ = some (.int .i64 r_4) := (blk_cell BR.out 4).trans rfl; have hcgr5 : w7.cell? ⟨gr, 5, none⟩ = some (.int .i64 r_5) := (blk_cell BR.out 5).trans rfl; have hfgr0 := blk_frozen BR.out 0; have hfgr1 := blk_frozen BR.out 1; have hfgr2 := blk_frozen BR.out 2; have hfgr3 := blk_frozen BR.out 3; have hfgr4 := blk_frozen BR.out 4; have hfgr5 := blk_frozen BR.out 5) | (go_at_call 82; (with_reducible refine (impl_Step_field.callsj gs (bt z x) 4 hj _).mono ?_); rintro e w' ⟨rfl, ⟨nd, rfl⟩⟩) | (go_at_call 59; (with_reducible refine (impl_in.calls a0_4 lo hi false _ A6.out).mono ?_); rintro e w' ⟨rfl, ⟨nd, rfl⟩⟩))
       go_ret
       exact ⟨by first | rfl | (simp; done) | (simp [*]; done), by repeat (first | (with_reducible first | exact HB.out | apply below_alloc | apply pw_below_drewN | apply below_drew1 | refine below_set ?_ GS.out | refine below_set ?_ GR.out) | exact HB.out)⟩
     ·replace A6 : Aside0 (impl_in.f a0_5 lo hi = some t) := ⟨by have := A6.out; rw [hj] at this; exact this⟩
      rw [hj] at h
      cases t with
      | true =>
       have H' := Aside0.mk h
       clear h
       go_wp2_with (first | (go_at_call 80; (with_reducible refine (impl_fields.calls k a0_0 z _ G0.out).mono ?_); rintro e w' ⟨rfl, ⟨nd, rfl⟩⟩) | (go_at_call 81; (with_reducible refine (impl_Step_ranges.calls k1 a0_0 a0_1 a0_2 a0_3 a0_4 a0_5 (bt z x) lo hi _ A5.out).mono ?_); rintro e w7 ⟨rfl, hb⟩; have ngs_ := Aside0.mk (blk_below (g := gs) (o := .cells #[.int .i64 a0_0, .int .i64 a0_1, .int .i64 a0_2, .int .i64 a0_3, .int .i64 a0_4, .int .i64 a0_5] 26 (0, 0)) (zO_ BS.out) hb); have ngr_ := Aside0.mk (blk_below (g := gr) (o := .cells #[.int .i64 0, .int .i64 r_1, .int .i64 r_2, .int .i64 r_3, .int .i64 r_4, .int .i64 r_5] 26 (0, 0)) (zO_ BR.out) hb); have nb_ := Aside0.mk (below_step (by repeat (first | (with_reducible first | exact HB.out | apply below_alloc | apply pw_below_drewN | apply below_drew1 | refine below_set ?_ GS.out | refine below_set ?_ GR.out) | exact HB.out)) hb); clear BS BR HB; clear hcgs0 hfgs0 hcgs1 hfgs1 hcgs2 hfgs2 hcgs3 hfgs3 hcgs4 hfgs4 hcgs5 hfgs5; have BS := ngs_; have BR := ngr_; have HB := nb_; clear ngs_ ngr_ nb_ hb; have hcgs0 : w7.cell? ⟨gs, 0, none⟩ = some (.int .i64 a0_0) := (blk_cell BS.out 0).trans rfl; have hcgs1 : w7.cell? ⟨gs, 1, none⟩ = some (.int .i64 a0_1) := (blk_cell BS.out 1).trans rfl; have hcgs2 : w7.cell? ⟨gs, 2, none⟩ = some (.int .i64 a0_2) := (blk_cell BS.out 2).trans rfl; have hcgs3 : w7.cell? ⟨gs, 3, none⟩ = some (.int .i64 a0_3) := (blk_cell BS.out 3).trans rfl; have hcgs4 : w7.cell? ⟨gs, 4, none⟩ = some (.int .i64 a0_4) := (blk_cell BS.out 4).trans rfl; have hcgs5 : w7.cell? ⟨gs, 5, none⟩ = some (.int .i64 a0_5) := (blk_cell BS.out 5).trans rfl; have hfgs0 := blk_frozen BS.out 0; have hfgs1 := blk_frozen BS.out 1; have hfgs2 := blk_frozen BS.out 2; have hfgs3 := blk_frozen BS.out 3; have hfgs4 := blk_frozen BS.out 4; have hfgs5 := blk_frozen BS.out 5; have hcgr0 : w7.cell? ⟨gr, 0, none⟩ = some (.int .i64 0) := (blk_cell BR.out 0).trans rfl; have hcgr1 : w7.cell? ⟨gr, 1, none⟩ = some (.int .i64 r_1) := (blk_cell BR.out 1).trans rfl; have hcgr2 : w7.cell? ⟨gr, 2, none⟩ = some (.int .i64 r_2) := (blk_cell BR.out 2).trans rfl; have hcgr3 : w7.cell? ⟨gr, 3, none⟩ = some (.int .i64 r_3) := (blk_cell BR.out 3).trans rfl; have hcgr4 : w7.cell? ⟨gr, 4, none⟩ = some (.int .i64 r_4) := (blk_cell BR.out 4).trans rfl; have hcgr5 : w7.cell? ⟨gr, 5, none⟩ = some (.int .i64 r_5) := (blk_cell BR.out 5).trans rfl; have hfgr0 := blk_frozen BR.out 0; have hfgr1 := blk_frozen BR.out 1; have hfgr2 := blk_frozen BR.out 2; have hfgr3 := blk_frozen BR.out 3; have hfgr4 := blk_frozen BR.out 4; have hfgr5 := blk_frozen BR.out 5) | (go_at_call 82; (with_reducible refine (impl_Step_field.callsj gs (bt z x) 5 hj _).mono ?_); rintro e w' ⟨rfl, ⟨nd, rfl⟩⟩) | (go_at_call 82; (with_reducible refine (impl_Step_field.callsj gr (bt z x) 5 hj _).mono ?_); rintro e w' ⟨rfl, ⟨nd, rfl⟩⟩) | (go_at_call 59; (with_reducible refine (impl_in.calls a0_5 lo hi true _ A6.out).mono ?_); rintro e w' ⟨rfl, ⟨nd, rfl⟩⟩))
       go_roundg k1
       case measure => have := HK1.out; omega
       case rel => exact ⟨wrap64 (x + 1), zr_ 1 5 r_1, zr_ 2 5 r_2, zr_ 3 5 r_3, zr_ 4 5 r_4, zr_ 5 5 r_5, (by first | rfl | (simp; done) | (simp [*]; done)), H', ⟨by have := HK1.out; omega⟩, ⟨by (with_reducible repeat (first | refine blk_drewN ?_ _ | refine blk_drew ?_ | refine blk_alloc ?_ _)); refine blk_far ?_ NE.out _; (with_reducible repeat (first | refine blk_drewN ?_ _ | refine blk_drew ?_ | refine blk_alloc ?_ _)); exact BS.out⟩, ⟨by (with_reducible repeat (first | refine blk_drewN ?_ _ | refine blk_drew ?_ | refine blk_alloc ?_ _)); refine blk_put (cs := #[.int .i64 0, .int .i64 r_1, .int .i64 r_2, .int .i64 r_3, .int .i64 r_4, .int .i64 r_5]) ?_ 5 _ rfl; (with_reducible repeat (first | refine blk_drewN ?_ _ | refine blk_drew ?_ | refine blk_alloc ?_ _)); exact BR.out⟩, ⟨by repeat (first | (with_reducible first | exact HB.out | apply below_alloc | apply pw_below_drewN | apply below_drew1 | refine below_set ?_ GS.out | refine below_set ?_ GR.out) | exact HB.out)⟩⟩
      | false =>
       have h' : false = r := by simpa using h
       subst h'
       clear h
       go_wp2_with (first | (go_at_call 80; (with_reducible refine (impl_fields.calls k a0_0 z _ G0.out).mono ?_); rintro e w' ⟨rfl, ⟨nd, rfl⟩⟩) | (go_at_call 81; (with_reducible refine (impl_Step_ranges.calls k1 a0_0 a0_1 a0_2 a0_3 a0_4 a0_5 (bt z x) lo hi _ A5.out).mono ?_); rintro e w7 ⟨rfl, hb⟩; have ngs_ := Aside0.mk (blk_below (g := gs) (o := .cells #[.int .i64 a0_0, .int .i64 a0_1, .int .i64 a0_2, .int .i64 a0_3, .int .i64 a0_4, .int .i64 a0_5] 26 (0, 0)) (zO_ BS.out) hb); have ngr_ := Aside0.mk (blk_below (g := gr) (o := .cells #[.int .i64 0, .int .i64 r_1, .int .i64 r_2, .int .i64 r_3, .int .i64 r_4, .int .i64 r_5] 26 (0, 0)) (zO_ BR.out) hb); have nb_ := Aside0.mk (below_step (by repeat (first | (with_reducible first | exact HB.out | apply below_alloc | apply pw_below_drewN | apply below_drew1 | refine below_set ?_ GS.out | refine below_set ?_ GR.out) | exact HB.out)) hb); clear BS BR HB; clear hcgs0 hfgs0 hcgs1 hfgs1 hcgs2 hfgs2 hcgs3 hfgs3 hcgs4 hfgs4 hcgs5 hfgs5; have BS := ngs_; have BR := ngr_; have HB := nb_; clear ngs_ ngr_ nb_ hb; have hcgs0 : w7.cell? ⟨gs, 0, none⟩ = some (.int .i64 a0_0) := (blk_cell BS.out 0).trans rfl; have hcgs1 : w7.cell? ⟨gs, 1, none⟩ = some (.int .i64 a0_1) := (blk_cell BS.out 1).trans rfl; have hcgs2 : w7.cell? ⟨gs, 2, none⟩ = some (.int .i64 a0_2) := (blk_cell BS.out 2).trans rfl; have hcgs3 : w7.cell? ⟨gs, 3, none⟩ = some (.int .i64 a0_3) := (blk_cell BS.out 3).trans rfl; have hcgs4 : w7.cell? ⟨gs, 4, none⟩ = some (.int .i64 a0_4) := (blk_cell BS.out 4).trans rfl; have hcgs5 : w7.cell? ⟨gs, 5, none⟩ = some (.int .i64 a0_5) := (blk_cell BS.out 5).trans rfl; have hfgs0 := blk_frozen BS.out 0; have hfgs1 := blk_frozen BS.out 1; have hfgs2 := blk_frozen BS.out 2; have hfgs3 := blk_frozen BS.out 3; have hfgs4 := blk_frozen BS.out 4; have hfgs5 := blk_frozen BS.out 5; have hcgr0 : w7.cell? ⟨gr, 0, none⟩ = some (.int .i64 0) := (blk_cell BR.out 0).trans rfl; have hcgr1 : w7.cell? ⟨gr, 1, none⟩ = some (.int .i64 r_1) := (blk_cell BR.out 1).trans rfl; have hcgr2 : w7.cell? ⟨gr, 2, none⟩ = some (.int .i64 r_2) := (blk_cell BR.out 2).trans rfl; have hcgr3 : w7.cell? ⟨gr, 3, none⟩ = some (.int .i64 r_3) := (blk_cell BR.out 3).trans rfl; have hcgr4 : w7.cell? ⟨gr, 4, none⟩ = some (.int .i64 r_4) := (blk_cell BR.out 4).trans rfl; have hcgr5 : w7.cell? ⟨gr, 5, none⟩ = some (.int .i64 r_5) := (blk_cell BR.out 5).trans rfl; have hfgr0 := blk_frozen BR.out 0; have hfgr1 := blk_frozen BR.out 1; have hfgr2 := blk_frozen BR.out 2; have hfgr3 := blk_frozen BR.out 3; have hfgr4 := blk_frozen BR.out 4; have hfgr5 := blk_frozen BR.out 5) | (go_at_call 82; (with_reducible refine (impl_Step_field.callsj gs (bt z x) 5 hj _).mono ?_); rintro e w' ⟨rfl, ⟨nd, rfl⟩⟩) | (go_at_call 59; (with_reducible refine (impl_in.calls a0_5 lo hi false _ A6.out).mono ?_); rintro e w' ⟨rfl, ⟨nd, rfl⟩⟩))
       go_ret
       exact ⟨by first | rfl | (simp; done) | (simp [*]; done), by repeat (first | (with_reducible first | exact HB.out | apply below_alloc | apply pw_below_drewN | apply below_drew1 | refine below_set ?_ GS.out | refine below_set ?_ GR.out) | exact HB.out)⟩
    rw [if_neg c4] at h
    exact absurd h (by simp)
   ·have c3b : decide (x < (z.size : Int)) = false := decide_eq_false c3
    rw [if_neg c3] at h
    clear c3
    replace h := Option.bind_eq_some_iff.mp h
    obtain ⟨t, A6', h⟩ := h
    have A6 := Aside0.mk A6'
    clear A6'
    have hcgs0 : wr.cell? ⟨gs, 0, none⟩ = some (.int .i64 a0_0) := (blk_cell BS.out 0).trans rfl
    have hcgs1 : wr.cell? ⟨gs, 1, none⟩ = some (.int .i64 a0_1) := (blk_cell BS.out 1).trans rfl
    have hcgs2 : wr.cell? ⟨gs, 2, none⟩ = some (.int .i64 a0_2) := (blk_cell BS.out 2).trans rfl
    have hcgs3 : wr.cell? ⟨gs, 3, none⟩ = some (.int .i64 a0_3) := (blk_cell BS.out 3).trans rfl
    have hcgs4 : wr.cell? ⟨gs, 4, none⟩ = some (.int .i64 a0_4) := (blk_cell BS.out 4).trans rfl
    have hcgs5 : wr.cell? ⟨gs, 5, none⟩ = some (.int .i64 a0_5) := (blk_cell BS.out 5).trans rfl
    have hfgs0 := blk_frozen BS.out 0
    have hfgs1 := blk_frozen BS.out 1
    have hfgs2 := blk_frozen BS.out 2
    have hfgs3 := blk_frozen BS.out 3
    have hfgs4 := blk_frozen BS.out 4
    have hfgs5 := blk_frozen BS.out 5
    have hcgr0 : wr.cell? ⟨gr, 0, none⟩ = some (.int .i64 0) := (blk_cell BR.out 0).trans rfl
    have hcgr1 : wr.cell? ⟨gr, 1, none⟩ = some (.int .i64 r_1) := (blk_cell BR.out 1).trans rfl
    have hcgr2 : wr.cell? ⟨gr, 2, none⟩ = some (.int .i64 r_2) := (blk_cell BR.out 2).trans rfl
    have hcgr3 : wr.cell? ⟨gr, 3, none⟩ = some (.int .i64 r_3) := (blk_cell BR.out 3).trans rfl
    have hcgr4 : wr.cell? ⟨gr, 4, none⟩ = some (.int .i64 r_4) := (blk_cell BR.out 4).trans rfl
    have hcgr5 : wr.cell? ⟨gr, 5, none⟩ = some (.int .i64 r_5) := (blk_cell BR.out 5).trans rfl
    have hfgr0 := blk_frozen BR.out 0
    have hfgr1 := blk_frozen BR.out 1
    have hfgr2 := blk_frozen BR.out 2
    have hfgr3 := blk_frozen BR.out 3
    have hfgr4 := blk_frozen BR.out 4
    have hfgr5 := blk_frozen BR.out 5
    cases t with
    | true =>
     rw [if_pos rfl] at h
     have hr := Option.some.inj h
     clear h
     have hr' := Aside0.mk hr
     clear hr
     go_wp2_with (go_at_call 59; (with_reducible refine (impl_in.calls a0_0 1 11 true _ A6.out).mono ?_); rintro e w' ⟨rfl, ⟨nd, rfl⟩⟩)
     all_goals
      go_ret
      exact ⟨by rw [← hr'.out]; (first | rfl | (simp; done) | (simp [*]; done)), by repeat (first | (with_reducible first | exact HB.out | apply below_alloc | apply pw_below_drewN | apply below_drew1 | refine below_set ?_ GS.out | refine below_set ?_ GR.out) | exact HB.out)⟩
    | false =>
     have h' : false = r := by simpa using h
     subst h'
     clear h
     go_wp2_with (go_at_call 59; (with_reducible refine (impl_in.calls a0_0 1 11 false _ A6.out).mono ?_); rintro e w' ⟨rfl, ⟨nd, rfl⟩⟩)
     go_ret
     exact ⟨by first | rfl | (simp; done) | (simp [*]; done), by repeat (first | (with_reducible first | exact HB.out | apply below_alloc | apply pw_below_drewN | apply below_drew1 | refine below_set ?_ GS.out | refine below_set ?_ GR.out) | exact HB.out)⟩
def impl_Step_jumps.f (a0_0 : Int) (a0_1 : Int) (a0_2 : Int) (a0_3 : Int) (a0_4 : Int) (a0_5 : Int) : Option (Bool) := if a0_0 = 8 then (some true) else (if a0_0 = 9 then (some true) else (some (a0_0 == 10)))
set_option maxHeartbeats 8000000 in
set_option maxRecDepth 100000 in
theorem impl_Step_jumps.calls (a0_0 : Int) (a0_1 : Int) (a0_2 : Int) (a0_3 : Int) (a0_4 : Int) (a0_5 : Int) (r : Bool) (w : World) (h : impl_Step_jumps.f a0_0 a0_1 a0_2 a0_3 a0_4 a0_5 = some r) :
  Calls Try.prog 60 #[.agg #[.int .i64 a0_0, .int .i64 a0_1, .int .i64 a0_2, .int .i64 a0_3, .int .i64 a0_4, .int .i64 a0_5]] w fun e w' => e = .returned (.bool r) ∧ Below w.heap.size w w' := by
 have hu26 := Try.underlying26
 have HB := Aside0.mk (Below.refl w.heap.size w)
 have H : (if a0_0 = 8 then (some true) else (if a0_0 = 9 then (some true) else (some (a0_0 == 10)))) = some r := h
 clear h
 by_cases c2 : a0_0 = 8
 ·rw [if_pos c2] at H
  have c2b0 : (a0_0 == 8) = true := beq_iff_eq.mpr c2
  have c2b1 : (a0_0 != 8) = false := bne_eq_false_iff_eq.mpr c2
  clear c2
  obtain rfl := Option.some.inj H
  go_enter Try.func60, Try.ntmps60
  go_wp2_with (first | ((with_reducible refine gate_dst (N := 1) rfl ?_); refine box_event ?hg (N := 1) ?hd (cs := #[.int .i64 a0_0, .int .i64 a0_1, .int .i64 a0_2, .int .i64 a0_3, .int .i64 a0_4, .int .i64 a0_5]) (t := 26) ?hr ?_; (case hd => rfl); (case hg => rfl); (case hr => first | (go_simp; done) | (go_simp; rfl)); intro gb227 hg w3 hbox hb; have n0_ := Aside0.mk (below_step (zb_ HB.out) hb); have n1_ := Aside0.mk (hbox); have n2_ := Aside0.mk ((by rw [hg]; exact (below_size (zb_ HB.out)) : w.heap.size ≤ gb227)); have n3_ := Aside0.mk ((by rw [hg]; exact (below_size (zb_ HB.out)) : w.heap.size ≤ gb227)); clear HB; have HB := n0_; have BK227 := n1_; have GW227 := n2_; have GE227 := n3_; clear n0_ n1_ n2_ n3_; clear hb hbox hg; have hcz4_0 : w3.cell? ⟨gb227, 0, none⟩ = some (.int .i64 a0_0) := (blk_cell BK227.out 0).trans rfl; have hcz4_1 : w3.cell? ⟨gb227, 1, none⟩ = some (.int .i64 a0_1) := (blk_cell BK227.out 1).trans rfl; have hcz4_2 : w3.cell? ⟨gb227, 2, none⟩ = some (.int .i64 a0_2) := (blk_cell BK227.out 2).trans rfl; have hcz4_3 : w3.cell? ⟨gb227, 3, none⟩ = some (.int .i64 a0_3) := (blk_cell BK227.out 3).trans rfl; have hcz4_4 : w3.cell? ⟨gb227, 4, none⟩ = some (.int .i64 a0_4) := (blk_cell BK227.out 4).trans rfl; have hcz4_5 : w3.cell? ⟨gb227, 5, none⟩ = some (.int .i64 a0_5) := (blk_cell BK227.out 5).trans rfl; have hfz4_0 := blk_frozen BK227.out 0; have hfz4_1 := blk_frozen BK227.out 1; have hfz4_2 := blk_frozen BK227.out 2; have hfz4_3 := blk_frozen BK227.out 3; have hfz4_4 := blk_frozen BK227.out 4; have hfz4_5 := blk_frozen BK227.out 5))
  go_ret
  exact ⟨by first | rfl | (simp [errW_none, errW_some] <;> rfl) | (simp [*, errW_none, errW_some] <;> rfl), by repeat (first | (with_reducible first | exact HB.out | apply below_alloc | apply pw_below_drewN | apply below_drew1 | refine below_set ?_ GE227.out) | exact HB.out)⟩
 rw [if_neg c2] at H
 have c2b0 : (a0_0 == 8) = false := beq_eq_false_iff_ne.mpr c2
 have c2b1 : (a0_0 != 8) = true := bne_iff_ne.mpr c2
 by_cases c5 : a0_0 = 9
 ·rw [if_pos c5] at H
  have c5b0 : (a0_0 == 9) = true := beq_iff_eq.mpr c5
  have c5b1 : (a0_0 != 9) = false := bne_eq_false_iff_eq.mpr c5
  clear c5
  obtain rfl := Option.some.inj H
  go_enter Try.func60, Try.ntmps60
  go_wp2_with (first | ((with_reducible refine gate_dst (N := 1) rfl ?_); refine box_event ?hg (N := 1) ?hd (cs := #[.int .i64 a0_0, .int .i64 a0_1, .int .i64 a0_2, .int .i64 a0_3, .int .i64 a0_4, .int .i64 a0_5]) (t := 26) ?hr ?_; (case hd => rfl); (case hg => rfl); (case hr => first | (go_simp; done) | (go_simp; rfl)); intro gb227 hg w6 hbox hb; have n0_ := Aside0.mk (below_step (zb_ HB.out) hb); have n1_ := Aside0.mk (hbox); have n2_ := Aside0.mk ((by rw [hg]; exact (below_size (zb_ HB.out)) : w.heap.size ≤ gb227)); have n3_ := Aside0.mk ((by rw [hg]; exact (below_size (zb_ HB.out)) : w.heap.size ≤ gb227)); clear HB; have HB := n0_; have BK227 := n1_; have GW227 := n2_; have GE227 := n3_; clear n0_ n1_ n2_ n3_; clear hb hbox hg; have hcz7_0 : w6.cell? ⟨gb227, 0, none⟩ = some (.int .i64 a0_0) := (blk_cell BK227.out 0).trans rfl; have hcz7_1 : w6.cell? ⟨gb227, 1, none⟩ = some (.int .i64 a0_1) := (blk_cell BK227.out 1).trans rfl; have hcz7_2 : w6.cell? ⟨gb227, 2, none⟩ = some (.int .i64 a0_2) := (blk_cell BK227.out 2).trans rfl; have hcz7_3 : w6.cell? ⟨gb227, 3, none⟩ = some (.int .i64 a0_3) := (blk_cell BK227.out 3).trans rfl; have hcz7_4 : w6.cell? ⟨gb227, 4, none⟩ = some (.int .i64 a0_4) := (blk_cell BK227.out 4).trans rfl; have hcz7_5 : w6.cell? ⟨gb227, 5, none⟩ = some (.int .i64 a0_5) := (blk_cell BK227.out 5).trans rfl; have hfz7_0 := blk_frozen BK227.out 0; have hfz7_1 := blk_frozen BK227.out 1; have hfz7_2 := blk_frozen BK227.out 2; have hfz7_3 := blk_frozen BK227.out 3; have hfz7_4 := blk_frozen BK227.out 4; have hfz7_5 := blk_frozen BK227.out 5))
  go_ret
  exact ⟨by first | rfl | (simp [errW_none, errW_some] <;> rfl) | (simp [*, errW_none, errW_some] <;> rfl), by repeat (first | (with_reducible first | exact HB.out | apply below_alloc | apply pw_below_drewN | apply below_drew1 | refine below_set ?_ GE227.out) | exact HB.out)⟩
 rw [if_neg c5] at H
 have c5b0 : (a0_0 == 9) = false := beq_eq_false_iff_ne.mpr c5
 have c5b1 : (a0_0 != 9) = true := bne_iff_ne.mpr c5
 obtain rfl := Option.some.inj H
 go_enter Try.func60, Try.ntmps60
 go_wp2_with (first | ((with_reducible refine gate_dst (N := 1) rfl ?_); refine box_event ?hg (N := 1) ?hd (cs := #[.int .i64 a0_0, .int .i64 a0_1, .int .i64 a0_2, .int .i64 a0_3, .int .i64 a0_4, .int .i64 a0_5]) (t := 26) ?hr ?_; (case hd => rfl); (case hg => rfl); (case hr => first | (go_simp; done) | (go_simp; rfl)); intro gb227 hg w8 hbox hb; have n0_ := Aside0.mk (below_step (zb_ HB.out) hb); have n1_ := Aside0.mk (hbox); have n2_ := Aside0.mk ((by rw [hg]; exact (below_size (zb_ HB.out)) : w.heap.size ≤ gb227)); have n3_ := Aside0.mk ((by rw [hg]; exact (below_size (zb_ HB.out)) : w.heap.size ≤ gb227)); clear HB; have HB := n0_; have BK227 := n1_; have GW227 := n2_; have GE227 := n3_; clear n0_ n1_ n2_ n3_; clear hb hbox hg; have hcz9_0 : w8.cell? ⟨gb227, 0, none⟩ = some (.int .i64 a0_0) := (blk_cell BK227.out 0).trans rfl; have hcz9_1 : w8.cell? ⟨gb227, 1, none⟩ = some (.int .i64 a0_1) := (blk_cell BK227.out 1).trans rfl; have hcz9_2 : w8.cell? ⟨gb227, 2, none⟩ = some (.int .i64 a0_2) := (blk_cell BK227.out 2).trans rfl; have hcz9_3 : w8.cell? ⟨gb227, 3, none⟩ = some (.int .i64 a0_3) := (blk_cell BK227.out 3).trans rfl; have hcz9_4 : w8.cell? ⟨gb227, 4, none⟩ = some (.int .i64 a0_4) := (blk_cell BK227.out 4).trans rfl; have hcz9_5 : w8.cell? ⟨gb227, 5, none⟩ = some (.int .i64 a0_5) := (blk_cell BK227.out 5).trans rfl; have hfz9_0 := blk_frozen BK227.out 0; have hfz9_1 := blk_frozen BK227.out 1; have hfz9_2 := blk_frozen BK227.out 2; have hfz9_3 := blk_frozen BK227.out 3; have hfz9_4 := blk_frozen BK227.out 4; have hfz9_5 := blk_frozen BK227.out 5))
 go_ret
 exact ⟨by first | rfl | (simp [errW_none, errW_some] <;> rfl) | (simp [*, errW_none, errW_some] <;> rfl), by repeat (first | (with_reducible first | exact HB.out | apply below_alloc | apply pw_below_drewN | apply below_drew1 | refine below_set ?_ GE227.out) | exact HB.out)⟩
end Go.Proofs.Ytjopmdogdmdanaa.PFnExactFaultFree
-- squeezed
