-- Made by a program of this session (wip/tools), which leans on the kit's print: checked by Lean alone.
import Derived.Test.YtjopmdogdmdanaaDoorPFnExactStepTextx0
namespace Go.Proofs.YtjopmdogdmdanaaDoor.PFnExactStepText
open Go.RowKit Go.Proofs.YtjopmdogdmdanaaDoorW.PrintWords Go.Proofs.YtjopmdogdmdanaaDoorW.PrintLast Go.Proofs.YtjopmdogdmdanaaDoorW.PrintMore
attribute [local go_sem] max2_int min2_int max_two min_two max_three min_three max_four min_four   -- for this text's walks alone
set_option linter.unusedVariables false
set_option linter.unusedSimpArgs false

/-! ### laws_toStep: function 5 -/
def laws_toStep.f (a0_0 : Int) (a0_1 : Int) (a0_2 : Int) (a0_3 : Int) (a0_4 : Int) (a0_5 : Int) : Option (Int × Int × Int × Int × Int × Int) := some (a0_0, a0_1, a0_2, a0_3, a0_4, a0_5)
set_option maxHeartbeats 8000000 in
set_option maxRecDepth 100000 in
theorem laws_toStep.calls (a0_0 : Int) (a0_1 : Int) (a0_2 : Int) (a0_3 : Int) (a0_4 : Int) (a0_5 : Int) (r1 : Int) (r2 : Int) (r3 : Int) (r4 : Int) (r5 : Int) (r6 : Int) (w : World) (h : laws_toStep.f a0_0 a0_1 a0_2 a0_3 a0_4 a0_5 = some (r1, r2, r3, r4, r5, r6)) :
    Calls Tryd.prog 5 #[.agg #[.int .i64 a0_0, .int .i64 a0_1, .int .i64 a0_2, .int .i64 a0_3, .int .i64 a0_4, .int .i64 a0_5]] w fun e w' => e = .returned (.agg #[.int .i64 r1, .int .i64 r2, .int .i64 r3, .int .i64 r4, .int .i64 r5, .int .i64 r6]) ∧ Below w.heap.size w w' := by
  have hu23 := Tryd.underlying23
  have hu26 := Tryd.underlying26
  have HB := Aside0.mk (Below.refl w.heap.size w)
  have H : (some (a0_0, a0_1, a0_2, a0_3, a0_4, a0_5)) = some (r1, r2, r3, r4, r5, r6) := h
  clear h
  simp only [Option.some.injEq, Prod.mk.injEq] at H
  obtain ⟨rfl, rfl, rfl, rfl, rfl, rfl⟩ := H
  go_enter Tryd.func5, Tryd.ntmps5
  go_wp2_with (first | ((with_reducible refine gate_dst (N := 1) rfl ?_); refine box_event ?hg (N := 1) ?hd (cs := #[.int .i64 a0_0, .int .i64 a0_1, .int .i64 a0_2, .int .i64 a0_3, .int .i64 a0_4, .int .i64 a0_5]) (t := 23) ?hr ?_; (case hd => rfl); (case hg => rfl); (case hr => first | (go_simp; done) | (go_simp; rfl)); intro gb140 hg w2 hbox hb; have n0_ := Aside0.mk (below_step (by repeat (first | (with_reducible first | exact HB.out | apply below_alloc | apply pw_below_drewN | apply below_drew1) | exact HB.out)) hb); have n1_ := Aside0.mk (hbox); have n2_ := Aside0.mk ((by rw [hg]; exact (below_size (by repeat (first | (with_reducible first | exact HB.out | apply below_alloc | apply pw_below_drewN | apply below_drew1) | exact HB.out))) : w.heap.size ≤ gb140)); have n3_ := Aside0.mk ((by rw [hg]; exact (below_size (by repeat (first | (with_reducible first | exact HB.out | apply below_alloc | apply pw_below_drewN | apply below_drew1) | exact HB.out))) : w.heap.size ≤ gb140)); clear HB; have HB := n0_; have BK140 := n1_; have GW140 := n2_; have GE140 := n3_; clear n0_ n1_ n2_ n3_; clear hb hbox hg) | ((with_reducible refine gate_dst (N := 2) rfl ?_); refine box_event ?hg (N := 2) ?hd (cs := #[.int .i64 0, .int .i64 0, .int .i64 0, .int .i64 0, .int .i64 0, .int .i64 0]) (t := 26) ?hr ?_; (case hd => rfl); (case hg => rfl); (case hr => first | (go_simp; done) | (go_simp; rfl)); intro gb141 hg w3 hbox hb; have n0_ := Aside0.mk (blk_below (g := gb140) (o := .cells #[.int .i64 a0_0, .int .i64 a0_1, .int .i64 a0_2, .int .i64 a0_3, .int .i64 a0_4, .int .i64 a0_5] 23 (0, 0)) (by (with_reducible repeat (first | refine blk_drewN ?_ _ | refine blk_drew ?_ | refine blk_alloc ?_ _)); exact BK140.out) hb); have n1_ := Aside0.mk (below_step (by repeat (first | (with_reducible first | exact HB.out | apply below_alloc | apply pw_below_drewN | apply below_drew1 | refine below_set ?_ GE140.out) | exact HB.out)) hb); have n2_ := Aside0.mk (hbox); have n3_ := Aside0.mk ((by rw [hg]; exact (below_size (by repeat (first | (with_reducible first | exact HB.out | apply below_alloc | apply pw_below_drewN | apply below_drew1 | refine below_set ?_ GE140.out) | exact HB.out))) : w.heap.size ≤ gb141)); have n4_ := Aside0.mk ((by rw [hg]; exact (below_size (by repeat (first | (with_reducible first | exact HB.out | apply below_alloc | apply pw_below_drewN | apply below_drew1 | refine below_set ?_ GE140.out) | exact HB.out))) : w.heap.size ≤ gb141)); have n5_ := Aside0.mk ((by rw [hg]; exact Nat.ne_of_lt (blk_lt (g := gb140) (o := .cells #[.int .i64 a0_0, .int .i64 a0_1, .int .i64 a0_2, .int .i64 a0_3, .int .i64 a0_4, .int .i64 a0_5] 23 (0, 0)) (by (with_reducible repeat (first | refine blk_drewN ?_ _ | refine blk_drew ?_ | refine blk_alloc ?_ _)); exact BK140.out)) : gb140 ≠ gb141)); have n6_ := Aside0.mk ((by rw [hg]; exact Nat.ne_of_gt (blk_lt (g := gb140) (o := .cells #[.int .i64 a0_0, .int .i64 a0_1, .int .i64 a0_2, .int .i64 a0_3, .int .i64 a0_4, .int .i64 a0_5] 23 (0, 0)) (by (with_reducible repeat (first | refine blk_drewN ?_ _ | refine blk_drew ?_ | refine blk_alloc ?_ _)); exact BK140.out)) : gb141 ≠ gb140)); clear BK140; clear HB; have BK140 := n0_; have HB := n1_; have BK141 := n2_; have GW141 := n3_; have GE141 := n4_; have NB140_141 := n5_; have NB141_140 := n6_; clear n0_ n1_ n2_ n3_ n4_ n5_ n6_; clear hb hbox hg) | ((with_reducible refine gate_dst (N := 3) rfl ?_); refine box_event ?hg (N := 3) ?hd (cs := #[.int .i64 0, .int .i64 0, .int .i64 0, .int .i64 0, .int .i64 0, .int .i64 0]) (t := 26) ?hr ?_; (case hd => rfl); (case hg => rfl); (case hr => first | (go_simp; done) | (go_simp; rfl)); intro gb142 hg w4 hbox hb; have n0_ := Aside0.mk (blk_below (g := gb140) (o := .cells #[.int .i64 a0_0, .int .i64 a0_1, .int .i64 a0_2, .int .i64 a0_3, .int .i64 a0_4, .int .i64 a0_5] 23 (0, 0)) (by (with_reducible repeat (first | refine blk_drewN ?_ _ | refine blk_drew ?_ | refine blk_alloc ?_ _)); exact BK140.out) hb); have n1_ := Aside0.mk (blk_below (g := gb141) (o := .cells #[.int .i64 0, .int .i64 0, .int .i64 0, .int .i64 0, .int .i64 0, .int .i64 0] 26 (0, 0)) (by (with_reducible repeat (first | refine blk_drewN ?_ _ | refine blk_drew ?_ | refine blk_alloc ?_ _)); exact BK141.out) hb); have n2_ := Aside0.mk (below_step (by repeat (first | (with_reducible first | exact HB.out | apply below_alloc | apply pw_below_drewN | apply below_drew1 | refine below_set ?_ GE140.out | refine below_set ?_ GE141.out) | exact HB.out)) hb); have n3_ := Aside0.mk (hbox); have n4_ := Aside0.mk ((by rw [hg]; exact (below_size (by repeat (first | (with_reducible first | exact HB.out | apply below_alloc | apply pw_below_drewN | apply below_drew1 | refine below_set ?_ GE140.out | refine below_set ?_ GE141.out) | exact HB.out))) : w.heap.size ≤ gb142)); have n5_ := Aside0.mk ((by rw [hg]; exact (below_size (by repeat (first | (with_reducible first | exact HB.out | apply below_alloc | apply pw_below_drewN | apply below_drew1 | refine below_set ?_ GE140.out | refine below_set ?_ GE141.out) | exact HB.out))) : w.heap.size ≤ gb142)); have n6_ := Aside0.mk ((by rw [hg]; exact Nat.ne_of_lt (blk_lt (g := gb140) (o := .cells #[.int .i64 a0_0, .int .i64 a0_1, .int .i64 a0_2, .int .i64 a0_3, .int .i64 a0_4, .int .i64 a0_5] 23 (0, 0)) (by (with_reducible repeat (first | refine blk_drewN ?_ _ | refine blk_drew ?_ | refine blk_alloc ?_ _)); exact BK140.out)) : gb140 ≠ gb142)); have n7_ := Aside0.mk ((by rw [hg]; exact Nat.ne_of_gt (blk_lt (g := gb140) (o := .cells #[.int .i64 a0_0, .int .i64 a0_1, .int .i64 a0_2, .int .i64 a0_3, .int .i64 a0_4, .int .i64 a0_5] 23 (0, 0)) (by (with_reducible repeat (first | refine blk_drewN ?_ _ | refine blk_drew ?_ | refine blk_alloc ?_ _)); exact BK140.out)) : gb142 ≠ gb140)); have n8_ := Aside0.mk ((by rw [hg]; exact Nat.ne_of_lt (blk_lt (g := gb141) (o := .cells #[.int .i64 0, .int .i64 0, .int .i64 0, .int .i64 0, .int .i64 0, .int .i64 0] 26 (0, 0)) (by (with_reducible repeat (first | refine blk_drewN ?_ _ | refine blk_drew ?_ | refine blk_alloc ?_ _)); exact BK141.out)) : gb141 ≠ gb142)); have n9_ := Aside0.mk ((by rw [hg]; exact Nat.ne_of_gt (blk_lt (g := gb141) (o := .cells #[.int .i64 0, .int .i64 0, .int .i64 0, .int .i64 0, .int .i64 0, .int .i64 0] 26 (0, 0)) (by (with_reducible repeat (first | refine blk_drewN ?_ _ | refine blk_drew ?_ | refine blk_alloc ?_ _)); exact BK141.out)) : gb142 ≠ gb141)); clear BK140; clear BK141; clear HB; have BK140 := n0_; have BK141 := n1_; have HB := n2_; have BK142 := n3_; have GW142 := n4_; have GE142 := n5_; have NB140_142 := n6_; have NB142_140 := n7_; have NB141_142 := n8_; have NB142_141 := n9_; clear n0_ n1_ n2_ n3_ n4_ n5_ n6_ n7_ n8_ n9_; clear hb hbox hg; have hnb5 := NB140_141.out; have hnc5 := NB141_140.out; have hnb6 := NB140_142.out; have hnc6 := NB142_140.out; have hcz7_0 : w4.cell? ⟨gb140, 0, none⟩ = some (.int .i64 a0_0) := (blk_cell BK140.out 0).trans rfl; have hcz7_1 : w4.cell? ⟨gb140, 1, none⟩ = some (.int .i64 a0_1) := (blk_cell BK140.out 1).trans rfl; have hcz7_2 : w4.cell? ⟨gb140, 2, none⟩ = some (.int .i64 a0_2) := (blk_cell BK140.out 2).trans rfl; have hcz7_3 : w4.cell? ⟨gb140, 3, none⟩ = some (.int .i64 a0_3) := (blk_cell BK140.out 3).trans rfl; have hcz7_4 : w4.cell? ⟨gb140, 4, none⟩ = some (.int .i64 a0_4) := (blk_cell BK140.out 4).trans rfl; have hcz7_5 : w4.cell? ⟨gb140, 5, none⟩ = some (.int .i64 a0_5) := (blk_cell BK140.out 5).trans rfl; have hfz7_0 := blk_frozen BK140.out 0; have hfz7_1 := blk_frozen BK140.out 1; have hfz7_2 := blk_frozen BK140.out 2; have hfz7_3 := blk_frozen BK140.out 3; have hfz7_4 := blk_frozen BK140.out 4; have hfz7_5 := blk_frozen BK140.out 5; have hnb8 := NB142_141.out; have hnc8 := NB141_142.out; have hcz9_0 : w4.cell? ⟨gb142, 0, none⟩ = some (.int .i64 0) := (blk_cell BK142.out 0).trans rfl; have hcz9_1 : w4.cell? ⟨gb142, 1, none⟩ = some (.int .i64 0) := (blk_cell BK142.out 1).trans rfl; have hcz9_2 : w4.cell? ⟨gb142, 2, none⟩ = some (.int .i64 0) := (blk_cell BK142.out 2).trans rfl; have hcz9_3 : w4.cell? ⟨gb142, 3, none⟩ = some (.int .i64 0) := (blk_cell BK142.out 3).trans rfl; have hcz9_4 : w4.cell? ⟨gb142, 4, none⟩ = some (.int .i64 0) := (blk_cell BK142.out 4).trans rfl; have hcz9_5 : w4.cell? ⟨gb142, 5, none⟩ = some (.int .i64 0) := (blk_cell BK142.out 5).trans rfl; have hfz9_0 := blk_frozen BK142.out 0; have hfz9_1 := blk_frozen BK142.out 1; have hfz9_2 := blk_frozen BK142.out 2; have hfz9_3 := blk_frozen BK142.out 3; have hfz9_4 := blk_frozen BK142.out 4; have hfz9_5 := blk_frozen BK142.out 5; have hcz10_0 : w4.cell? ⟨gb141, 0, none⟩ = some (.int .i64 0) := (blk_cell BK141.out 0).trans rfl; have hcz10_1 : w4.cell? ⟨gb141, 1, none⟩ = some (.int .i64 0) := (blk_cell BK141.out 1).trans rfl; have hcz10_2 : w4.cell? ⟨gb141, 2, none⟩ = some (.int .i64 0) := (blk_cell BK141.out 2).trans rfl; have hcz10_3 : w4.cell? ⟨gb141, 3, none⟩ = some (.int .i64 0) := (blk_cell BK141.out 3).trans rfl; have hcz10_4 : w4.cell? ⟨gb141, 4, none⟩ = some (.int .i64 0) := (blk_cell BK141.out 4).trans rfl; have hcz10_5 : w4.cell? ⟨gb141, 5, none⟩ = some (.int .i64 0) := (blk_cell BK141.out 5).trans rfl; have hfz10_0 := blk_frozen BK141.out 0; have hfz10_1 := blk_frozen BK141.out 1; have hfz10_2 := blk_frozen BK141.out 2; have hfz10_3 := blk_frozen BK141.out 3; have hfz10_4 := blk_frozen BK141.out 4; have hfz10_5 := blk_frozen BK141.out 5))
  refine bodyPost_ret (results_cell_row rfl _ _ gb141 26 #[.int .i64 a0_0, .int .i64 a0_1, .int .i64 a0_2, .int .i64 a0_3, .int .i64 a0_4, .int .i64 a0_5] (0, 0) _ rfl (by (with_reducible repeat (first | refine blk_drewN ?_ _ | refine blk_drew ?_ | refine blk_alloc ?_ _)); refine blk_put (cs := #[.int .i64 a0_0, .int .i64 a0_1, .int .i64 a0_2, .int .i64 a0_3, .int .i64 a0_4, .int .i64 0]) ?_ 5 _ rfl; (with_reducible repeat (first | refine blk_drewN ?_ _ | refine blk_drew ?_ | refine blk_alloc ?_ _)); refine blk_put (cs := #[.int .i64 a0_0, .int .i64 a0_1, .int .i64 a0_2, .int .i64 a0_3, .int .i64 0, .int .i64 0]) ?_ 4 _ rfl; (with_reducible repeat (first | refine blk_drewN ?_ _ | refine blk_drew ?_ | refine blk_alloc ?_ _)); refine blk_put (cs := #[.int .i64 a0_0, .int .i64 a0_1, .int .i64 a0_2, .int .i64 0, .int .i64 0, .int .i64 0]) ?_ 3 _ rfl; (with_reducible repeat (first | refine blk_drewN ?_ _ | refine blk_drew ?_ | refine blk_alloc ?_ _)); refine blk_put (cs := #[.int .i64 a0_0, .int .i64 a0_1, .int .i64 0, .int .i64 0, .int .i64 0, .int .i64 0]) ?_ 2 _ rfl; (with_reducible repeat (first | refine blk_drewN ?_ _ | refine blk_drew ?_ | refine blk_alloc ?_ _)); refine blk_put (cs := #[.int .i64 a0_0, .int .i64 0, .int .i64 0, .int .i64 0, .int .i64 0, .int .i64 0]) ?_ 1 _ rfl; (with_reducible repeat (first | refine blk_drewN ?_ _ | refine blk_drew ?_ | refine blk_alloc ?_ _)); refine blk_put (cs := #[.int .i64 0, .int .i64 0, .int .i64 0, .int .i64 0, .int .i64 0, .int .i64 0]) ?_ 0 _ rfl; (with_reducible repeat (first | refine blk_drewN ?_ _ | refine blk_drew ?_ | refine blk_alloc ?_ _)); refine blk_far ?_ NB141_142.out _; (with_reducible repeat (first | refine blk_drewN ?_ _ | refine blk_drew ?_ | refine blk_alloc ?_ _)); refine blk_far ?_ NB141_142.out _; (with_reducible repeat (first | refine blk_drewN ?_ _ | refine blk_drew ?_ | refine blk_alloc ?_ _)); refine blk_far ?_ NB141_142.out _; (with_reducible repeat (first | refine blk_drewN ?_ _ | refine blk_drew ?_ | refine blk_alloc ?_ _)); refine blk_far ?_ NB141_142.out _; (with_reducible repeat (first | refine blk_drewN ?_ _ | refine blk_drew ?_ | refine blk_alloc ?_ _)); refine blk_far ?_ NB141_142.out _; (with_reducible repeat (first | refine blk_drewN ?_ _ | refine blk_drew ?_ | refine blk_alloc ?_ _)); refine blk_far ?_ NB141_142.out _; (with_reducible repeat (first | refine blk_drewN ?_ _ | refine blk_drew ?_ | refine blk_alloc ?_ _)); exact BK141.out) Tryd.underlying26 rfl (by kernel_rfl)) rfl ?_
  exact ⟨by first | rfl | (simp [errW_none, errW_some] <;> rfl) | (simp [*, errW_none, errW_some] <;> rfl), by repeat (first | (with_reducible first | exact HB.out | apply below_alloc | apply pw_below_drewN | apply below_drew1 | refine below_set ?_ GE140.out | refine below_set ?_ GE141.out | refine below_set ?_ GE142.out) | exact HB.out)⟩

/-! ### impl_fields: function 14 -/
mutual
def impl_fields.j0 : Nat → Int → Bool → Option (ByteArray)
  | 0, _, _ => none
  | k + 1, x3, x8 => if x8 = true then (some (⟨#[100, 105]⟩ : ByteArray)) else (if x3 = 5 then (some (⟨#[100, 115, 105]⟩ : ByteArray)) else (if x3 = 8 then (some (⟨#[116]⟩ : ByteArray)) else (if x3 = 9 then (impl_fields.j1 k (x3 == 9)) else (impl_fields.j1 k (x3 == 10)))))
def impl_fields.j1 : Nat → Bool → Option (ByteArray)
  | 0, _ => none
  | k + 1, x17 => if x17 = true then (some (⟨#[100, 115, 116]⟩ : ByteArray)) else (some (⟨#[]⟩ : ByteArray))
end
def impl_fields.f (k : Nat) (a0 : Int) : Option (ByteArray) := if a0 = 1 then (some (⟨#[111, 100, 115]⟩ : ByteArray)) else (if a0 = 2 then (some (⟨#[111, 100, 105]⟩ : ByteArray)) else (if a0 = 3 then (impl_fields.j0 k a0 (a0 == 3)) else (if a0 = 4 then (impl_fields.j0 k a0 (a0 == 4)) else (if a0 = 6 then (impl_fields.j0 k a0 (a0 == 6)) else (impl_fields.j0 k a0 (a0 == 7))))))
theorem impl_fields.mono_l : ∀ k, (∀ y0 y1, LeO (impl_fields.j0 k y0 y1) (impl_fields.j0 (k + 1) y0 y1)) ∧ (∀ y0, LeO (impl_fields.j1 k y0) (impl_fields.j1 (k + 1) y0))
  | 0 => ⟨fun _ _ r h => by simp [impl_fields.j0] at h, fun _ r h => by simp [impl_fields.j1] at h⟩
  | k + 1 => by
    obtain ⟨ih0, ih1⟩ := impl_fields.mono_l k
    refine ⟨?_, ?_⟩
    · intro y0 y1
      unfold impl_fields.j0
      repeat' first
      | (with_reducible exact ih0 _ _)
      | (with_reducible exact ih1 _)
      | (with_reducible exact LeO.refl _)
      | (with_reducible exact LeO.none _)
      | (with_reducible refine LeO.ite ?_ ?_)
      | (with_reducible refine LeO.bind ?_ (fun _ => ?_))
      | exact ih0 _ _
      | exact ih1 _
      | exact LeO.none _
      | refine LeO.ite ?_ ?_
      | refine LeO.bind ?_ (fun _ => ?_)
    · intro y0
      unfold impl_fields.j1
      repeat' first
      | (with_reducible exact ih0 _ _)
      | (with_reducible exact ih1 _)
      | (with_reducible exact LeO.refl _)
      | (with_reducible exact LeO.none _)
      | (with_reducible refine LeO.ite ?_ ?_)
      | (with_reducible refine LeO.bind ?_ (fun _ => ?_))
      | exact ih0 _ _
      | exact ih1 _
      | exact LeO.none _
      | refine LeO.ite ?_ ?_
      | refine LeO.bind ?_ (fun _ => ?_)
theorem impl_fields.mono : ∀ a0 k, LeO (impl_fields.f k a0) (impl_fields.f (k + 1) a0) := by
  intro a0 k
  obtain ⟨ih0, ih1⟩ := impl_fields.mono_l k
  unfold impl_fields.f
  repeat' first
      | (with_reducible exact ih0 _ _)
      | (with_reducible exact ih1 _)
      | (with_reducible exact LeO.refl _)
      | (with_reducible exact LeO.none _)
      | (with_reducible refine LeO.ite ?_ ?_)
      | (with_reducible refine LeO.bind ?_ (fun _ => ?_))
      | exact ih0 _ _
      | exact ih1 _
      | exact LeO.none _
      | refine LeO.ite ?_ ?_
      | refine LeO.bind ?_ (fun _ => ?_)
set_option maxHeartbeats 8000000 in
set_option maxRecDepth 100000 in
theorem impl_fields.calls (k : Nat) (a0 : Int) (r : ByteArray) (w : World) (h : impl_fields.f k a0 = some r) :
    Calls Tryd.prog 14 #[.int .i64 a0] w fun e w' => e = .returned (.string r) ∧ Drawn0 w w' := by
  have H : (if a0 = 1 then (some (⟨#[111, 100, 115]⟩ : ByteArray)) else (if a0 = 2 then (some (⟨#[111, 100, 105]⟩ : ByteArray)) else (if a0 = 3 then (impl_fields.j0 k a0 (a0 == 3)) else (if a0 = 4 then (impl_fields.j0 k a0 (a0 == 4)) else (if a0 = 6 then (impl_fields.j0 k a0 (a0 == 6)) else (impl_fields.j0 k a0 (a0 == 7))))))) = some r := h
  clear h
  by_cases c2 : a0 = 1
  · rw [if_pos c2] at H
    have c2b0 : (a0 == 1) = true := beq_iff_eq.mpr c2
    have c2b1 : (a0 != 1) = false := bne_eq_false_iff_eq.mpr c2
    clear c2
    obtain rfl := Option.some.inj H
    go_enter Tryd.func14, Tryd.ntmps14
    go_wp2
    go_ret
    exact ⟨by first | rfl | (simp; done) | (simp [*]; done), by repeat (first | exact Drawn0.refl _ | apply Drawn0.step)⟩
  · rw [if_neg c2] at H
    have c2b0 : (a0 == 1) = false := beq_eq_false_iff_ne.mpr c2
    have c2b1 : (a0 != 1) = true := bne_iff_ne.mpr c2
    by_cases c3 : a0 = 2
    · rw [if_pos c3] at H
      have c3b0 : (a0 == 2) = true := beq_iff_eq.mpr c3
      have c3b1 : (a0 != 2) = false := bne_eq_false_iff_eq.mpr c3
      clear c3
      obtain rfl := Option.some.inj H
      go_enter Tryd.func14, Tryd.ntmps14
      go_wp2
      go_ret
      exact ⟨by first | rfl | (simp; done) | (simp [*]; done), by repeat (first | exact Drawn0.refl _ | apply Drawn0.step)⟩
    · rw [if_neg c3] at H
      have c3b0 : (a0 == 2) = false := beq_eq_false_iff_ne.mpr c3
      have c3b1 : (a0 != 2) = true := bne_iff_ne.mpr c3
      have HC4 := Aside0.mk H
      clear H
      go_enter Tryd.func14, Tryd.ntmps14
      go_upto_if 8 with (fail)
      go_cut [8] (fun v8 wc => ∃ (kq : Nat) (x8_3 : Bool), v8 = .bool x8_3 ∧ Aside0 (impl_fields.j0 kq a0 x8_3 = some r) ∧ Aside0 (kq ≤ k) ∧ Drawn0 w wc)
      case first =>
        have H := HC4.out
        clear HC4
        by_cases c5 : a0 = 3
        · rw [if_pos c5] at H
          have c5b0 : (a0 == 3) = true := beq_iff_eq.mpr c5
          have c5b1 : (a0 != 3) = false := bne_eq_false_iff_eq.mpr c5
          clear c5
          (first | rw [c5b0] | (simp only [i64_w, i32_w]; rw [c5b0]) | skip)
          have H' := Aside0.mk H
          clear H
          go_wp2
          go_meet
          case rel => exact ⟨_, ((a0 == 3)), (by first | rfl | (simp; done) | (simp [*]; done)), H', ⟨by first | omega | exact Nat.le_refl _⟩, by repeat (first | exact Drawn0.refl _ | apply Drawn0.step)⟩
        · rw [if_neg c5] at H
          have c5b0 : (a0 == 3) = false := beq_eq_false_iff_ne.mpr c5
          have c5b1 : (a0 != 3) = true := bne_iff_ne.mpr c5
          (first | rw [c5b0] | (simp only [i64_w, i32_w]; rw [c5b0]) | skip)
          by_cases c6 : a0 = 4
          · rw [if_pos c6] at H
            have c6b0 : (a0 == 4) = true := beq_iff_eq.mpr c6
            have c6b1 : (a0 != 4) = false := bne_eq_false_iff_eq.mpr c6
            clear c6
            have H' := Aside0.mk H
            clear H
            go_wp2
            go_meet
            case rel => exact ⟨_, ((a0 == 4)), (by first | rfl | (simp; done) | (simp [*]; done)), H', ⟨by first | omega | exact Nat.le_refl _⟩, by repeat (first | exact Drawn0.refl _ | apply Drawn0.step)⟩
          · rw [if_neg c6] at H
            have c6b0 : (a0 == 4) = false := beq_eq_false_iff_ne.mpr c6
            have c6b1 : (a0 != 4) = true := bne_iff_ne.mpr c6
            by_cases c7 : a0 = 6
            · rw [if_pos c7] at H
              have c7b0 : (a0 == 6) = true := beq_iff_eq.mpr c7
              have c7b1 : (a0 != 6) = false := bne_eq_false_iff_eq.mpr c7
              clear c7
              have H' := Aside0.mk H
              clear H
              go_wp2
              go_meet
              case rel => exact ⟨_, ((a0 == 6)), (by first | rfl | (simp; done) | (simp [*]; done)), H', ⟨by first | omega | exact Nat.le_refl _⟩, by repeat (first | exact Drawn0.refl _ | apply Drawn0.step)⟩
            · rw [if_neg c7] at H
              have c7b0 : (a0 == 6) = false := beq_eq_false_iff_ne.mpr c7
              have c7b1 : (a0 != 6) = true := bne_iff_ne.mpr c7
              have H' := Aside0.mk H
              clear H
              go_wp2
              go_meet
              case rel => exact ⟨_, ((a0 == 7)), (by first | rfl | (simp; done) | (simp [*]; done)), H', ⟨by first | omega | exact Nat.le_refl _⟩, by repeat (first | exact Drawn0.refl _ | apply Drawn0.step)⟩
      case rest =>
        clear HC4
        try clear c1
        try clear c2
        try clear c2b0
        try clear c2b1
        try clear p2
        try clear c3
        try clear c3b0
        try clear c3b1
        try clear c5
        try clear c5b0
        try clear c5b1
        try clear c6
        try clear c6b0
        try clear c6b1
        try clear c7
        try clear c7b0
        try clear c7b1
        obtain ⟨kq, x8_3, rfl, HA, HJ3, ⟨mc3, rfl⟩⟩ := hcut
        cases kq with
        | zero => exact absurd HA.out (by simp [impl_fields.j0])
        | succ kj3 =>
          have H := HA.out
          clear HA
          simp only [impl_fields.j0] at H
          by_cases c8 : x8_3 = true
          · subst c8
            have H1 : (some (⟨#[100, 105]⟩ : ByteArray)) = some r := by rw [if_pos rfl] at H; exact H
            clear H
            have H := H1
            clear H1
            obtain rfl := Option.some.inj H
            go_wp2
            go_ret
            exact ⟨by first | rfl | (simp; done) | (simp [*]; done), by repeat (first | exact Drawn0.refl _ | apply Drawn0.step)⟩
          · replace c8 := Bool.eq_false_iff.mpr c8
            subst c8
            have H1 : (if a0 = 5 then (some (⟨#[100, 115, 105]⟩ : ByteArray)) else (if a0 = 8 then (some (⟨#[116]⟩ : ByteArray)) else (if a0 = 9 then (impl_fields.j1 kj3 (a0 == 9)) else (impl_fields.j1 kj3 (a0 == 10))))) = some r := by rw [if_neg (show ¬ (false = true) by decide)] at H; exact H
            clear H
            have H := H1
            clear H1
            by_cases c9 : a0 = 5
            · rw [if_pos c9] at H
              have c9b0 : (a0 == 5) = true := beq_iff_eq.mpr c9
              have c9b1 : (a0 != 5) = false := bne_eq_false_iff_eq.mpr c9
              clear c9
              obtain rfl := Option.some.inj H
              go_wp2
              go_ret
              exact ⟨by first | rfl | (simp; done) | (simp [*]; done), by repeat (first | exact Drawn0.refl _ | apply Drawn0.step)⟩
            · rw [if_neg c9] at H
              have c9b0 : (a0 == 5) = false := beq_eq_false_iff_ne.mpr c9
              have c9b1 : (a0 != 5) = true := bne_iff_ne.mpr c9
              by_cases c10 : a0 = 8
              · rw [if_pos c10] at H
                have c10b0 : (a0 == 8) = true := beq_iff_eq.mpr c10
                have c10b1 : (a0 != 8) = false := bne_eq_false_iff_eq.mpr c10
                clear c10
                obtain rfl := Option.some.inj H
                go_wp2
                go_ret
                exact ⟨by first | rfl | (simp; done) | (simp [*]; done), by repeat (first | exact Drawn0.refl _ | apply Drawn0.step)⟩
              · rw [if_neg c10] at H
                have c10b0 : (a0 == 8) = false := beq_eq_false_iff_ne.mpr c10
                have c10b1 : (a0 != 8) = true := bne_iff_ne.mpr c10
                have HC11 := Aside0.mk H
                clear H
                go_upto_if 17 with (fail)
                go_cut [17] (fun v17 wc => ∃ (kq : Nat) (x17_10 : Bool), v17 = .bool x17_10 ∧ Aside0 (impl_fields.j1 kq x17_10 = some r) ∧ Aside0 (kq ≤ kj3) ∧ Drawn0 w wc)
                case first =>
                  have H := HC11.out
                  clear HC11
                  by_cases c12 : a0 = 9
                  · rw [if_pos c12] at H
                    have c12b0 : (a0 == 9) = true := beq_iff_eq.mpr c12
                    have c12b1 : (a0 != 9) = false := bne_eq_false_iff_eq.mpr c12
                    clear c12
                    (first | rw [c12b0] | (simp only [i64_w, i32_w]; rw [c12b0]) | skip)
                    have H' := Aside0.mk H
                    clear H
                    go_wp2
                    go_meet
                    case rel => exact ⟨_, ((a0 == 9)), (by first | rfl | (simp; done) | (simp [*]; done)), H', ⟨by have := HJ3.out; first | omega | exact Nat.le_refl _⟩, by repeat (first | exact Drawn0.refl _ | apply Drawn0.step)⟩
                  · rw [if_neg c12] at H
                    have c12b0 : (a0 == 9) = false := beq_eq_false_iff_ne.mpr c12
                    have c12b1 : (a0 != 9) = true := bne_iff_ne.mpr c12
                    (first | rw [c12b0] | (simp only [i64_w, i32_w]; rw [c12b0]) | skip)
                    have H' := Aside0.mk H
                    clear H
                    go_wp2
                    go_meet
                    case rel => exact ⟨_, ((a0 == 10)), (by first | rfl | (simp; done) | (simp [*]; done)), H', ⟨by have := HJ3.out; first | omega | exact Nat.le_refl _⟩, by repeat (first | exact Drawn0.refl _ | apply Drawn0.step)⟩
                case rest =>
                  clear HC11
                  try clear c1
                  try clear c2
                  try clear c2b0
                  try clear c2b1
                  try clear p2
                  try clear c3
                  try clear c3b0
                  try clear c3b1
                  try clear c5
                  try clear c5b0
                  try clear c5b1
                  try clear c6
                  try clear c6b0
                  try clear c6b1
                  try clear c7
                  try clear c7b0
                  try clear c7b1
                  try clear c8
                  try clear c9
                  try clear c9b0
                  try clear c9b1
                  try clear c10
                  try clear c10b0
                  try clear c10b1
                  try clear c12
                  try clear c12b0
                  try clear c12b1
                  try clear p2
                  obtain ⟨kq, x17_10, rfl, HA, HJ10, ⟨mc10, rfl⟩⟩ := hcut
                  cases kq with
                  | zero => exact absurd HA.out (by simp [impl_fields.j1])
                  | succ kj10 =>
                    have H := HA.out
                    clear HA
                    simp only [impl_fields.j1] at H
                    by_cases c13 : x17_10 = true
                    · subst c13
                      have H1 : (some (⟨#[100, 115, 116]⟩ : ByteArray)) = some r := by rw [if_pos rfl] at H; exact H
                      clear H
                      have H := H1
                      clear H1
                      obtain rfl := Option.some.inj H
                      go_wp2
                      go_ret
                      exact ⟨by first | rfl | (simp; done) | (simp [*]; done), by repeat (first | exact Drawn0.refl _ | apply Drawn0.step)⟩
                    · replace c13 := Bool.eq_false_iff.mpr c13
                      subst c13
                      have H1 : (some (⟨#[]⟩ : ByteArray)) = some r := by rw [if_neg (show ¬ (false = true) by decide)] at H; exact H
                      clear H
                      have H := H1
                      clear H1
                      obtain rfl := Option.some.inj H
                      go_wp2
                      go_ret
                      exact ⟨by first | rfl | (simp; done) | (simp [*]; done), by repeat (first | exact Drawn0.refl _ | apply Drawn0.step)⟩

/-! ### impl_Step_ranges: function 15 -/
def impl_Step_ranges.j0 : Nat → Int → Bool → Int → Int → Int → Int → Int → Int → Option (Int × Int)
  | 0, _, _, _, _, _, _, _, _ => none
  | k + 1, x1, x9, x144000, x144001, x144002, x144003, x144004, x144005 => if x9 = true then (some (0, 5)) else (if x1 = 116 then (some (1, 19)) else (if x144000 = 4 then (some (256, 65535)) else (if x144000 = 5 then (some (0, 7)) else (some (0, 255)))))
def impl_Step_ranges.f (k : Nat) (a0_0 : Int) (a0_1 : Int) (a0_2 : Int) (a0_3 : Int) (a0_4 : Int) (a0_5 : Int) (a1 : Int) : Option (Int × Int) := if a1 = 111 then (some (1, 10)) else (if a1 = 100 then (impl_Step_ranges.j0 k a1 true a0_0 a0_1 a0_2 a0_3 a0_4 a0_5) else (impl_Step_ranges.j0 k a1 (a1 == 115) a0_0 a0_1 a0_2 a0_3 a0_4 a0_5))
theorem impl_Step_ranges.mono_l : ∀ k, (∀ y0 y1 y2 y3 y4 y5 y6 y7, LeO (impl_Step_ranges.j0 k y0 y1 y2 y3 y4 y5 y6 y7) (impl_Step_ranges.j0 (k + 1) y0 y1 y2 y3 y4 y5 y6 y7))
  | 0 => fun _ _ _ _ _ _ _ _ r h => by simp [impl_Step_ranges.j0] at h
  | k + 1 => by
    have ih0 := impl_Step_ranges.mono_l k
    · intro y0 y1 y2 y3 y4 y5 y6 y7
      unfold impl_Step_ranges.j0
      repeat' first
      | (with_reducible exact ih0 _ _ _ _ _ _ _ _)
      | (with_reducible exact LeO.refl _)
      | (with_reducible exact LeO.none _)
      | (with_reducible refine LeO.ite ?_ ?_)
      | (with_reducible refine LeO.bind ?_ (fun _ => ?_))
      | exact ih0 _ _ _ _ _ _ _ _
      | exact LeO.none _
      | refine LeO.ite ?_ ?_
      | refine LeO.bind ?_ (fun _ => ?_)
theorem impl_Step_ranges.mono : ∀ a0 a1 a2 a3 a4 a5 a6 k, LeO (impl_Step_ranges.f k a0 a1 a2 a3 a4 a5 a6) (impl_Step_ranges.f (k + 1) a0 a1 a2 a3 a4 a5 a6) := by
  intro a0 a1 a2 a3 a4 a5 a6 k
  have ih0 := impl_Step_ranges.mono_l k
  unfold impl_Step_ranges.f
  repeat' first
      | (with_reducible exact ih0 _ _ _ _ _ _ _ _)
      | (with_reducible exact LeO.refl _)
      | (with_reducible exact LeO.none _)
      | (with_reducible refine LeO.ite ?_ ?_)
      | (with_reducible refine LeO.bind ?_ (fun _ => ?_))
      | exact ih0 _ _ _ _ _ _ _ _
      | exact LeO.none _
      | refine LeO.ite ?_ ?_
      | refine LeO.bind ?_ (fun _ => ?_)
set_option maxHeartbeats 8000000 in
set_option maxRecDepth 100000 in
theorem impl_Step_ranges.calls (k : Nat) (a0_0 : Int) (a0_1 : Int) (a0_2 : Int) (a0_3 : Int) (a0_4 : Int) (a0_5 : Int) (a1 : Int) (r1 : Int) (r2 : Int) (w : World) (h : impl_Step_ranges.f k a0_0 a0_1 a0_2 a0_3 a0_4 a0_5 a1 = some (r1, r2)) :
    Calls Tryd.prog 15 #[.agg #[.int .i64 a0_0, .int .i64 a0_1, .int .i64 a0_2, .int .i64 a0_3, .int .i64 a0_4, .int .i64 a0_5], .int .u8 a1] w fun e w' => e = .returned (.tuple #[.int .i64 r1, .int .i64 r2]) ∧ Below w.heap.size w w' := by
  have hu26 := Tryd.underlying26
  have HB := Aside0.mk (Below.refl w.heap.size w)
  have H : (if a1 = 111 then (some (1, 10)) else (if a1 = 100 then (impl_Step_ranges.j0 k a1 true a0_0 a0_1 a0_2 a0_3 a0_4 a0_5) else (impl_Step_ranges.j0 k a1 (a1 == 115) a0_0 a0_1 a0_2 a0_3 a0_4 a0_5))) = some (r1, r2) := h
  clear h
  by_cases c3 : a1 = 111
  · rw [if_pos c3] at H
    have c3b0 : (a1 == 111) = true := beq_iff_eq.mpr c3
    have c3b1 : (a1 != 111) = false := bne_eq_false_iff_eq.mpr c3
    clear c3
    simp only [Option.some.injEq, Prod.mk.injEq] at H
    obtain ⟨rfl, rfl⟩ := H
    go_enter Tryd.func15, Tryd.ntmps15
    go_wp2_with (first | ((with_reducible refine gate_dst (N := 2) rfl ?_); refine box_event ?hg (N := 2) ?hd (cs := #[.int .i64 a0_0, .int .i64 a0_1, .int .i64 a0_2, .int .i64 a0_3, .int .i64 a0_4, .int .i64 a0_5]) (t := 26) ?hr ?_; (case hd => rfl); (case hg => rfl); (case hr => first | (go_simp; done) | (go_simp; rfl)); intro gb143 hg w4 hbox hb; have n0_ := Aside0.mk (below_step (by repeat (first | (with_reducible first | exact HB.out | apply below_alloc | apply pw_below_drewN | apply below_drew1) | exact HB.out)) hb); have n1_ := Aside0.mk (hbox); have n2_ := Aside0.mk ((by rw [hg]; exact (below_size (by repeat (first | (with_reducible first | exact HB.out | apply below_alloc | apply pw_below_drewN | apply below_drew1) | exact HB.out))) : w.heap.size ≤ gb143)); have n3_ := Aside0.mk ((by rw [hg]; exact (below_size (by repeat (first | (with_reducible first | exact HB.out | apply below_alloc | apply pw_below_drewN | apply below_drew1) | exact HB.out))) : w.heap.size ≤ gb143)); clear HB; have HB := n0_; have BK143 := n1_; have GW143 := n2_; have GE143 := n3_; clear n0_ n1_ n2_ n3_; clear hb hbox hg))
    go_ret2
    exact ⟨by first | rfl | (simp [errW_none, errW_some] <;> rfl) | (simp [*, errW_none, errW_some] <;> rfl), by repeat (first | (with_reducible first | exact HB.out | apply below_alloc | apply pw_below_drewN | apply below_drew1 | refine below_set ?_ GE143.out) | exact HB.out)⟩
  · rw [if_neg c3] at H
    have c3b0 : (a1 == 111) = false := beq_eq_false_iff_ne.mpr c3
    have c3b1 : (a1 != 111) = true := bne_iff_ne.mpr c3
    have HC5 := Aside0.mk H
    clear H
    go_enter Tryd.func15, Tryd.ntmps15
    go_upto_region 3 with (first | ((with_reducible refine gate_dst (N := 2) rfl ?_); refine box_event ?hg (N := 2) ?hd (cs := #[.int .i64 a0_0, .int .i64 a0_1, .int .i64 a0_2, .int .i64 a0_3, .int .i64 a0_4, .int .i64 a0_5]) (t := 26) ?hr ?_; (case hd => rfl); (case hg => rfl); (case hr => first | (go_simp; done) | (go_simp; rfl)); intro gb143 hg w6 hbox hb; have n0_ := Aside0.mk (below_step (by repeat (first | (with_reducible first | exact HB.out | apply below_alloc | apply pw_below_drewN | apply below_drew1) | exact HB.out)) hb); have n1_ := Aside0.mk (hbox); have n2_ := Aside0.mk ((by rw [hg]; exact (below_size (by repeat (first | (with_reducible first | exact HB.out | apply below_alloc | apply pw_below_drewN | apply below_drew1) | exact HB.out))) : w.heap.size ≤ gb143)); have n3_ := Aside0.mk ((by rw [hg]; exact (below_size (by repeat (first | (with_reducible first | exact HB.out | apply below_alloc | apply pw_below_drewN | apply below_drew1) | exact HB.out))) : w.heap.size ≤ gb143)); clear HB; have HB := n0_; have BK143 := n1_; have GW143 := n2_; have GE143 := n3_; clear n0_ n1_ n2_ n3_; clear hb hbox hg))
    (try simp only [Act.put, List.setIfInBounds_toArray, List.set_cons_zero, List.set_cons_succ])
    go_cut [9] (fun v9 wc => ∃ (kq : Nat) (x9_4 : Bool), v9 = .bool x9_4 ∧ Aside0 (impl_Step_ranges.j0 kq a1 x9_4 a0_0 a0_1 a0_2 a0_3 a0_4 a0_5 = some (r1, r2)) ∧ Aside0 (kq ≤ k) ∧ Aside0 (wc.heap[gb143]? = some (.cells #[.int .i64 a0_0, .int .i64 a0_1, .int .i64 a0_2, .int .i64 a0_3, .int .i64 a0_4, .int .i64 a0_5] 26 (0, 0))) ∧ Aside0 (Below w.heap.size w wc))
    case first =>
      have H := HC5.out
      clear HC5
      by_cases c7 : a1 = 100
      · rw [if_pos c7] at H
        have c7b0 : (a1 == 100) = true := beq_iff_eq.mpr c7
        have c7b1 : (a1 != 100) = false := bne_eq_false_iff_eq.mpr c7
        clear c7
        (first | rw [c7b0] | (simp only [i64_w, i32_w]; rw [c7b0]) | skip)
        have H' := Aside0.mk H
        clear H
        go_wp2
        go_meet
        case rel => exact ⟨_, (true), (by first | rfl | (simp; done) | (simp [*]; done)), H', ⟨by first | omega | exact Nat.le_refl _⟩, ⟨by (with_reducible repeat (first | refine blk_drewN ?_ _ | refine blk_drew ?_ | refine blk_alloc ?_ _)); exact BK143.out⟩, ⟨by repeat (first | (with_reducible first | exact HB.out | apply below_alloc | apply pw_below_drewN | apply below_drew1 | refine below_set ?_ GE143.out) | exact HB.out)⟩⟩
      · rw [if_neg c7] at H
        have c7b0 : (a1 == 100) = false := beq_eq_false_iff_ne.mpr c7
        have c7b1 : (a1 != 100) = true := bne_iff_ne.mpr c7
        (first | rw [c7b0] | (simp only [i64_w, i32_w]; rw [c7b0]) | skip)
        have H' := Aside0.mk H
        clear H
        go_wp2
        go_meet
        case rel => exact ⟨_, ((a1 == 115)), (by first | rfl | (simp; done) | (simp [*]; done)), H', ⟨by first | omega | exact Nat.le_refl _⟩, ⟨by (with_reducible repeat (first | refine blk_drewN ?_ _ | refine blk_drew ?_ | refine blk_alloc ?_ _)); exact BK143.out⟩, ⟨by repeat (first | (with_reducible first | exact HB.out | apply below_alloc | apply pw_below_drewN | apply below_drew1 | refine below_set ?_ GE143.out) | exact HB.out)⟩⟩
    case rest =>
      clear HC5
      try clear c1
      try clear p2
      try clear c3
      try clear c3b0
      try clear c3b1
      try clear c7
      try clear c7b0
      try clear c7b1
      obtain ⟨kq, x9_4, rfl, HA, HJ4, BK143, HB⟩ := hcut
      cases kq with
      | zero => exact absurd HA.out (by simp [impl_Step_ranges.j0])
      | succ kj4 =>
        have H := HA.out
        clear HA
        simp only [impl_Step_ranges.j0] at H
        by_cases c8 : x9_4 = true
        · subst c8
          have H1 : (some (0, 5)) = some (r1, r2) := by rw [if_pos rfl] at H; exact H
          clear H
          have H := H1
          clear H1
          simp only [Option.some.injEq, Prod.mk.injEq] at H
          obtain ⟨rfl, rfl⟩ := H
          go_wp2
          go_ret2
          exact ⟨by first | rfl | (simp [errW_none, errW_some] <;> rfl) | (simp [*, errW_none, errW_some] <;> rfl), by repeat (first | (with_reducible first | exact HB.out | apply below_alloc | apply pw_below_drewN | apply below_drew1 | refine below_set ?_ GE143.out) | exact HB.out)⟩
        · replace c8 := Bool.eq_false_iff.mpr c8
          subst c8
          have H1 : (if a1 = 116 then (some (1, 19)) else (if a0_0 = 4 then (some (256, 65535)) else (if a0_0 = 5 then (some (0, 7)) else (some (0, 255))))) = some (r1, r2) := by rw [if_neg (show ¬ (false = true) by decide)] at H; exact H
          clear H
          have H := H1
          clear H1
          by_cases c9 : a1 = 116
          · rw [if_pos c9] at H
            have c9b0 : (a1 == 116) = true := beq_iff_eq.mpr c9
            have c9b1 : (a1 != 116) = false := bne_eq_false_iff_eq.mpr c9
            clear c9
            simp only [Option.some.injEq, Prod.mk.injEq] at H
            obtain ⟨rfl, rfl⟩ := H
            go_wp2
            go_ret2
            exact ⟨by first | rfl | (simp [errW_none, errW_some] <;> rfl) | (simp [*, errW_none, errW_some] <;> rfl), by repeat (first | (with_reducible first | exact HB.out | apply below_alloc | apply pw_below_drewN | apply below_drew1 | refine below_set ?_ GE143.out) | exact HB.out)⟩
          · rw [if_neg c9] at H
            have c9b0 : (a1 == 116) = false := beq_eq_false_iff_ne.mpr c9
            have c9b1 : (a1 != 116) = true := bne_iff_ne.mpr c9
            by_cases c10 : a0_0 = 4
            · rw [if_pos c10] at H
              have c10b0 : (a0_0 == 4) = true := beq_iff_eq.mpr c10
              have c10b1 : (a0_0 != 4) = false := bne_eq_false_iff_eq.mpr c10
              clear c10
              simp only [Option.some.injEq, Prod.mk.injEq] at H
              obtain ⟨rfl, rfl⟩ := H
              have hcz11_0 : wc.cell? ⟨gb143, 0, none⟩ = some (.int .i64 a0_0) := (blk_cell BK143.out 0).trans rfl
              have hcz11_1 : wc.cell? ⟨gb143, 1, none⟩ = some (.int .i64 a0_1) := (blk_cell BK143.out 1).trans rfl
              have hcz11_2 : wc.cell? ⟨gb143, 2, none⟩ = some (.int .i64 a0_2) := (blk_cell BK143.out 2).trans rfl
              have hcz11_3 : wc.cell? ⟨gb143, 3, none⟩ = some (.int .i64 a0_3) := (blk_cell BK143.out 3).trans rfl
              have hcz11_4 : wc.cell? ⟨gb143, 4, none⟩ = some (.int .i64 a0_4) := (blk_cell BK143.out 4).trans rfl
              have hcz11_5 : wc.cell? ⟨gb143, 5, none⟩ = some (.int .i64 a0_5) := (blk_cell BK143.out 5).trans rfl
              have hfz11_0 := blk_frozen BK143.out 0
              have hfz11_1 := blk_frozen BK143.out 1
              have hfz11_2 := blk_frozen BK143.out 2
              have hfz11_3 := blk_frozen BK143.out 3
              have hfz11_4 := blk_frozen BK143.out 4
              have hfz11_5 := blk_frozen BK143.out 5
              go_wp2
              go_ret2
              exact ⟨by first | rfl | (simp [errW_none, errW_some] <;> rfl) | (simp [*, errW_none, errW_some] <;> rfl), by repeat (first | (with_reducible first | exact HB.out | apply below_alloc | apply pw_below_drewN | apply below_drew1 | refine below_set ?_ GE143.out) | exact HB.out)⟩
            · rw [if_neg c10] at H
              have c10b0 : (a0_0 == 4) = false := beq_eq_false_iff_ne.mpr c10
              have c10b1 : (a0_0 != 4) = true := bne_iff_ne.mpr c10
              by_cases c12 : a0_0 = 5
              · rw [if_pos c12] at H
                have c12b0 : (a0_0 == 5) = true := beq_iff_eq.mpr c12
                have c12b1 : (a0_0 != 5) = false := bne_eq_false_iff_eq.mpr c12
                clear c12
                simp only [Option.some.injEq, Prod.mk.injEq] at H
                obtain ⟨rfl, rfl⟩ := H
                have hcz13_0 : wc.cell? ⟨gb143, 0, none⟩ = some (.int .i64 a0_0) := (blk_cell BK143.out 0).trans rfl
                have hcz13_1 : wc.cell? ⟨gb143, 1, none⟩ = some (.int .i64 a0_1) := (blk_cell BK143.out 1).trans rfl
                have hcz13_2 : wc.cell? ⟨gb143, 2, none⟩ = some (.int .i64 a0_2) := (blk_cell BK143.out 2).trans rfl
                have hcz13_3 : wc.cell? ⟨gb143, 3, none⟩ = some (.int .i64 a0_3) := (blk_cell BK143.out 3).trans rfl
                have hcz13_4 : wc.cell? ⟨gb143, 4, none⟩ = some (.int .i64 a0_4) := (blk_cell BK143.out 4).trans rfl
                have hcz13_5 : wc.cell? ⟨gb143, 5, none⟩ = some (.int .i64 a0_5) := (blk_cell BK143.out 5).trans rfl
                have hfz13_0 := blk_frozen BK143.out 0
                have hfz13_1 := blk_frozen BK143.out 1
                have hfz13_2 := blk_frozen BK143.out 2
                have hfz13_3 := blk_frozen BK143.out 3
                have hfz13_4 := blk_frozen BK143.out 4
                have hfz13_5 := blk_frozen BK143.out 5
                go_wp2
                go_ret2
                exact ⟨by first | rfl | (simp [errW_none, errW_some] <;> rfl) | (simp [*, errW_none, errW_some] <;> rfl), by repeat (first | (with_reducible first | exact HB.out | apply below_alloc | apply pw_below_drewN | apply below_drew1 | refine below_set ?_ GE143.out) | exact HB.out)⟩
              · rw [if_neg c12] at H
                have c12b0 : (a0_0 == 5) = false := beq_eq_false_iff_ne.mpr c12
                have c12b1 : (a0_0 != 5) = true := bne_iff_ne.mpr c12
                simp only [Option.some.injEq, Prod.mk.injEq] at H
                obtain ⟨rfl, rfl⟩ := H
                have hcz14_0 : wc.cell? ⟨gb143, 0, none⟩ = some (.int .i64 a0_0) := (blk_cell BK143.out 0).trans rfl
                have hcz14_1 : wc.cell? ⟨gb143, 1, none⟩ = some (.int .i64 a0_1) := (blk_cell BK143.out 1).trans rfl
                have hcz14_2 : wc.cell? ⟨gb143, 2, none⟩ = some (.int .i64 a0_2) := (blk_cell BK143.out 2).trans rfl
                have hcz14_3 : wc.cell? ⟨gb143, 3, none⟩ = some (.int .i64 a0_3) := (blk_cell BK143.out 3).trans rfl
                have hcz14_4 : wc.cell? ⟨gb143, 4, none⟩ = some (.int .i64 a0_4) := (blk_cell BK143.out 4).trans rfl
                have hcz14_5 : wc.cell? ⟨gb143, 5, none⟩ = some (.int .i64 a0_5) := (blk_cell BK143.out 5).trans rfl
                have hfz14_0 := blk_frozen BK143.out 0
                have hfz14_1 := blk_frozen BK143.out 1
                have hfz14_2 := blk_frozen BK143.out 2
                have hfz14_3 := blk_frozen BK143.out 3
                have hfz14_4 := blk_frozen BK143.out 4
                have hfz14_5 := blk_frozen BK143.out 5
                go_wp2
                go_ret2
                exact ⟨by first | rfl | (simp [errW_none, errW_some] <;> rfl) | (simp [*, errW_none, errW_some] <;> rfl), by repeat (first | (with_reducible first | exact HB.out | apply below_alloc | apply pw_below_drewN | apply below_drew1 | refine below_set ?_ GE143.out) | exact HB.out)⟩

/-! ### impl_in: function 16 -/
def impl_in.f (a0 : Int) (a1 : Int) (a2 : Int) : Option (Bool) := if a0 ≥ a1 then (some (decide (a0 ≤ a2))) else (some false)
set_option maxHeartbeats 8000000 in
set_option maxRecDepth 100000 in
theorem impl_in.calls (a0 : Int) (a1 : Int) (a2 : Int) (r : Bool) (w : World) (h : impl_in.f a0 a1 a2 = some r) :
    Calls Tryd.prog 16 #[.int .i64 a0, .int .i64 a1, .int .i64 a2] w fun e w' => e = .returned (.bool r) ∧ Drawn0 w w' := by
  have H : (if a0 ≥ a1 then (some (decide (a0 ≤ a2))) else (some false)) = some r := h
  clear h
  by_cases c4 : a0 ≥ a1
  · rw [if_pos c4] at H
    have c4b0 : decide (a1 ≤ a0) = true := decide_eq_true c4
    clear c4
    obtain rfl := Option.some.inj H
    go_enter Tryd.func16, Tryd.ntmps16
    go_wp2
    go_ret
    exact ⟨by first | rfl | (simp; done) | (simp [*]; done), by repeat (first | exact Drawn0.refl _ | apply Drawn0.step)⟩
  · rw [if_neg c4] at H
    have c4b0 : decide (a1 ≤ a0) = false := decide_eq_false c4
    clear c4
    obtain rfl := Option.some.inj H
    go_enter Tryd.func16, Tryd.ntmps16
    go_wp2
    go_ret
    exact ⟨by first | rfl | (simp; done) | (simp [*]; done), by repeat (first | exact Drawn0.refl _ | apply Drawn0.step)⟩

/-! ### impl_Step_field: function 17 -/
def fieldAt_ (a : Int) : Nat := if a = 111 then 1 else if a = 100 then 2 else if a = 115 then 3 else if a = 105 then 4 else 5
theorem fieldAt_lt (a : Int) : fieldAt_ a < 6 := by
  unfold fieldAt_
  repeat' split
  all_goals omega
set_option maxHeartbeats 1000000 in
set_option maxRecDepth 100000 in
theorem impl_Step_field.calls (b : Nat) (a1 : Int) (w : World) :
    Calls Tryd.prog 17 #[.pointer (some ⟨b, 0, none⟩), .int .u8 a1] w fun e w' => e = .returned (.pointer (some ⟨b, fieldAt_ a1, none⟩)) ∧ Drawn0 w w' := by
  unfold fieldAt_
  by_cases c0 : a1 = 111
  · rw [if_pos c0]
    have d0 : (a1 == 111) = true := beq_iff_eq.mpr c0
    clear c0
    go_enter Tryd.func17, Tryd.ntmps17
    go_wp2
    go_ret
    exact ⟨by first | rfl | (simp; done) | (simp [*]; done), by repeat (first | exact Drawn0.refl _ | apply Drawn0.step)⟩
  · rw [if_neg c0]
    have d0 : (a1 == 111) = false := beq_eq_false_iff_ne.mpr c0
    clear c0
    by_cases c1 : a1 = 100
    · rw [if_pos c1]
      have d1 : (a1 == 100) = true := beq_iff_eq.mpr c1
      clear c1
      go_enter Tryd.func17, Tryd.ntmps17
      go_wp2
      go_ret
      exact ⟨by first | rfl | (simp; done) | (simp [*]; done), by repeat (first | exact Drawn0.refl _ | apply Drawn0.step)⟩
    · rw [if_neg c1]
      have d1 : (a1 == 100) = false := beq_eq_false_iff_ne.mpr c1
      clear c1
      by_cases c2 : a1 = 115
      · rw [if_pos c2]
        have d2 : (a1 == 115) = true := beq_iff_eq.mpr c2
        clear c2
        go_enter Tryd.func17, Tryd.ntmps17
        go_wp2
        go_ret
        exact ⟨by first | rfl | (simp; done) | (simp [*]; done), by repeat (first | exact Drawn0.refl _ | apply Drawn0.step)⟩
      · rw [if_neg c2]
        have d2 : (a1 == 115) = false := beq_eq_false_iff_ne.mpr c2
        clear c2
        by_cases c3 : a1 = 105
        · rw [if_pos c3]
          have d3 : (a1 == 105) = true := beq_iff_eq.mpr c3
          clear c3
          go_enter Tryd.func17, Tryd.ntmps17
          go_wp2
          go_ret
          exact ⟨by first | rfl | (simp; done) | (simp [*]; done), by repeat (first | exact Drawn0.refl _ | apply Drawn0.step)⟩
        · rw [if_neg c3]
          have d3 : (a1 == 105) = false := beq_eq_false_iff_ne.mpr c3
          clear c3
          go_enter Tryd.func17, Tryd.ntmps17
          go_wp2
          go_ret
          exact ⟨by first | rfl | (simp; done) | (simp [*]; done), by repeat (first | exact Drawn0.refl _ | apply Drawn0.step)⟩
theorem impl_Step_field.callsj (b : Nat) (a1 : Int) (j : Nat) (hj : fieldAt_ a1 = j) (w : World) :
    Calls Tryd.prog 17 #[.pointer (some ⟨b, 0, none⟩), .int .u8 a1] w fun e w' => e = .returned (.pointer (some ⟨b, j, none⟩)) ∧ Drawn0 w w' := by
  subst hj
  exact impl_Step_field.calls b a1 w


/-! ### impl_Step_valid: function 9 -/
def fld_ (a0_0: Int) (a0_1: Int) (a0_2: Int) (a0_3: Int) (a0_4: Int) (a0_5: Int) : Nat → Int
  | 0 => a0_0
  | 1 => a0_1
  | 2 => a0_2
  | 3 => a0_3
  | 4 => a0_4
  | _ => a0_5
def zr_ (i j : Nat) (r : Int) : Int := if j = i then 0 else r
theorem fieldAt_cases (a : Int) : fieldAt_ a = 1 ∨ fieldAt_ a = 2 ∨ fieldAt_ a = 3 ∨ fieldAt_ a = 4 ∨ fieldAt_ a = 5 := by
  unfold fieldAt_
  repeat' split
  all_goals simp
def impl_Step_valid.l0 : Nat → Int → Int → Int → Int → Int → Int → ByteArray → Int → Int → Int → Int → Int → Int → Option Bool
  | 0, _, _, _, _, _, _, _, _, _, _, _, _, _ => none
  | k + 1, a0_0, a0_1, a0_2, a0_3, a0_4, a0_5, z, r_1, r_2, r_3, r_4, r_5, x => if x < (z.size : Int) then (if 0 ≤ x then ((impl_Step_ranges.f k a0_0 a0_1 a0_2 a0_3 a0_4 a0_5 (bt z x)).bind fun p => ((impl_in.f (fld_ a0_0 a0_1 a0_2 a0_3 a0_4 a0_5 (fieldAt_ (bt z x))) p.1 p.2).bind fun t => if t = true then impl_Step_valid.l0 k a0_0 a0_1 a0_2 a0_3 a0_4 a0_5 z (zr_ 1 (fieldAt_ (bt z x)) r_1) (zr_ 2 (fieldAt_ (bt z x)) r_2) (zr_ 3 (fieldAt_ (bt z x)) r_3) (zr_ 4 (fieldAt_ (bt z x)) r_4) (zr_ 5 (fieldAt_ (bt z x)) r_5) (wrap64 (x + 1)) else some false)) else none) else ((impl_in.f a0_0 1 11).bind fun t => if t = true then some (decide (r_1 = 0 ∧ r_2 = 0 ∧ r_3 = 0 ∧ r_4 = 0 ∧ r_5 = 0)) else some false)
def impl_Step_valid.f (k : Nat) (a0_0 : Int) (a0_1 : Int) (a0_2 : Int) (a0_3 : Int) (a0_4 : Int) (a0_5 : Int) : Option Bool := (impl_fields.f k a0_0).bind fun z => impl_Step_valid.l0 k a0_0 a0_1 a0_2 a0_3 a0_4 a0_5 z a0_1 a0_2 a0_3 a0_4 a0_5 0
theorem impl_Step_valid.mono_l : ∀ k, (∀ y0 y1 y2 y3 y4 y5 y6 y7 y8 y9 y10 y11 y12, LeO (impl_Step_valid.l0 k y0 y1 y2 y3 y4 y5 y6 y7 y8 y9 y10 y11 y12) (impl_Step_valid.l0 (k + 1) y0 y1 y2 y3 y4 y5 y6 y7 y8 y9 y10 y11 y12))
  | 0 => fun _ _ _ _ _ _ _ _ _ _ _ _ _ r h => by simp [impl_Step_valid.l0] at h
  | k + 1 => by
    have ih0 := impl_Step_valid.mono_l k
    intro y0 y1 y2 y3 y4 y5 y6 y7 y8 y9 y10 y11 y12
    unfold impl_Step_valid.l0
    repeat' first
    | (with_reducible exact ih0 _ _ _ _ _ _ _ _ _ _ _ _ _)
    | (with_reducible exact impl_Step_ranges.mono _ _ _ _ _ _ _ _)
    | (with_reducible exact LeO.refl _)
    | (with_reducible exact LeO.none _)
    | (with_reducible refine LeO.ite ?_ ?_)
    | (with_reducible refine LeO.bind ?_ (fun _ => ?_))
theorem impl_Step_valid.mono : ∀ a0 a1 a2 a3 a4 a5 k, LeO (impl_Step_valid.f k a0 a1 a2 a3 a4 a5) (impl_Step_valid.f (k + 1) a0 a1 a2 a3 a4 a5) := by
  intro a0 a1 a2 a3 a4 a5 k
  have ih0 := impl_Step_valid.mono_l k
  unfold impl_Step_valid.f
  repeat' first
  | (with_reducible exact ih0 _ _ _ _ _ _ _ _ _ _ _ _ _)
  | (with_reducible exact impl_fields.mono _ _)
  | (with_reducible exact LeO.refl _)
  | (with_reducible refine LeO.bind ?_ (fun _ => ?_))
set_option maxHeartbeats 1000000 in
set_option maxRecDepth 100000 in
theorem impl_Step_valid.calls (k : Nat) (a0_0 : Int) (a0_1 : Int) (a0_2 : Int) (a0_3 : Int) (a0_4 : Int) (a0_5 : Int) (r : Bool) (w : World) (h : impl_Step_valid.f k a0_0 a0_1 a0_2 a0_3 a0_4 a0_5 = some r) :
    Calls Tryd.prog 9 #[.agg #[.int .i64 a0_0, .int .i64 a0_1, .int .i64 a0_2, .int .i64 a0_3, .int .i64 a0_4, .int .i64 a0_5]] w fun e w' => e = .returned (.bool r) ∧ Below w.heap.size w w' := by
  have hu26 := Tryd.underlying26
  have HB := Aside0.mk (Below.refl w.heap.size w)
  unfold impl_Step_valid.f at h
  replace h := Option.bind_eq_some_iff.mp h
  obtain ⟨z, G0', h⟩ := h
  have G0 := Aside0.mk G0'
  have G1 := Aside0.mk h
  clear h G0'
  go_enter Tryd.func9, Tryd.ntmps9
  go_upto_region 3 with (first | ((with_reducible refine gate_dst (N := 1) rfl ?_); refine box_event ?hg (N := 1) ?hd (cs := #[.int .i64 a0_0, .int .i64 a0_1, .int .i64 a0_2, .int .i64 a0_3, .int .i64 a0_4, .int .i64 a0_5]) (t := 26) ?hr ?_; (case hd => rfl); (case hg => rfl); (case hr => first | (go_simp; done) | (go_simp; rfl)); intro gs hg w4 hbox hb; have n0_ := Aside0.mk (below_step (by repeat (first | (with_reducible first | exact HB.out | apply below_alloc | apply pw_below_drewN | apply below_drew1 | refine below_set ?_ GS.out | refine below_set ?_ GR.out) | exact HB.out)) hb); have n1_ := Aside0.mk hbox; have n2_ := Aside0.mk ((by rw [hg]; exact (below_size (by repeat (first | (with_reducible first | exact HB.out | apply below_alloc | apply pw_below_drewN | apply below_drew1 | refine below_set ?_ GS.out | refine below_set ?_ GR.out) | exact HB.out))) : w.heap.size ≤ gs)); clear HB; have HB := n0_; have BS := n1_; have GS := n2_; clear n0_ n1_ n2_ hb hg hbox; have hcgs0 : w4.cell? ⟨gs, 0, none⟩ = some (.int .i64 a0_0) := (blk_cell BS.out 0).trans rfl; have hcgs1 : w4.cell? ⟨gs, 1, none⟩ = some (.int .i64 a0_1) := (blk_cell BS.out 1).trans rfl; have hcgs2 : w4.cell? ⟨gs, 2, none⟩ = some (.int .i64 a0_2) := (blk_cell BS.out 2).trans rfl; have hcgs3 : w4.cell? ⟨gs, 3, none⟩ = some (.int .i64 a0_3) := (blk_cell BS.out 3).trans rfl; have hcgs4 : w4.cell? ⟨gs, 4, none⟩ = some (.int .i64 a0_4) := (blk_cell BS.out 4).trans rfl; have hcgs5 : w4.cell? ⟨gs, 5, none⟩ = some (.int .i64 a0_5) := (blk_cell BS.out 5).trans rfl; have hfgs0 := blk_frozen BS.out 0; have hfgs1 := blk_frozen BS.out 1; have hfgs2 := blk_frozen BS.out 2; have hfgs3 := blk_frozen BS.out 3; have hfgs4 := blk_frozen BS.out 4; have hfgs5 := blk_frozen BS.out 5))
  obtain ⟨w5, hw5⟩ : ∃ w5, w5 = w4.alloc (.cells #[.int .i64 0, .int .i64 a0_1, .int .i64 a0_2, .int .i64 a0_3, .int .i64 a0_4, .int .i64 a0_5] 26 (0, 0)) := ⟨_, rfl⟩
  obtain ⟨gr, hgr⟩ : ∃ g, g = w4.heap.size := ⟨_, rfl⟩
  have n0_ := Aside0.mk (show w5.heap[gs]? = some (.cells #[.int .i64 a0_0, .int .i64 a0_1, .int .i64 a0_2, .int .i64 a0_3, .int .i64 a0_4, .int .i64 a0_5] 26 (0, 0)) by subst hw5; exact blk_alloc BS.out _)
  have n1_ := Aside0.mk (show w5.heap[gr]? = some (.cells #[.int .i64 0, .int .i64 a0_1, .int .i64 a0_2, .int .i64 a0_3, .int .i64 a0_4, .int .i64 a0_5] 26 (0, 0)) by subst hw5 hgr; exact blk_new w4 _)
  have n2_ := Aside0.mk (show Below w.heap.size w w5 by subst hw5; exact below_alloc HB.out _)
  have GR := Aside0.mk (show w.heap.size ≤ gr by subst hgr; exact below_size HB.out)
  have NE := Aside0.mk (show gs ≠ gr by subst hgr; have := blk_lt BS.out; omega)
  rw [← hw5, ← hgr]
  clear hw5 hgr BS HB hcgs0 hfgs0 hcgs1 hfgs1 hcgs2 hfgs2 hcgs3 hfgs3 hcgs4 hfgs4 hcgs5 hfgs5
  have BS := n0_
  have BR := n1_
  have HB := n2_
  clear n0_ n1_ n2_
  have hcgs0 : w5.cell? ⟨gs, 0, none⟩ = some (.int .i64 a0_0) := (blk_cell BS.out 0).trans rfl
  have hcgs1 : w5.cell? ⟨gs, 1, none⟩ = some (.int .i64 a0_1) := (blk_cell BS.out 1).trans rfl
  have hcgs2 : w5.cell? ⟨gs, 2, none⟩ = some (.int .i64 a0_2) := (blk_cell BS.out 2).trans rfl
  have hcgs3 : w5.cell? ⟨gs, 3, none⟩ = some (.int .i64 a0_3) := (blk_cell BS.out 3).trans rfl
  have hcgs4 : w5.cell? ⟨gs, 4, none⟩ = some (.int .i64 a0_4) := (blk_cell BS.out 4).trans rfl
  have hcgs5 : w5.cell? ⟨gs, 5, none⟩ = some (.int .i64 a0_5) := (blk_cell BS.out 5).trans rfl
  have hfgs0 := blk_frozen BS.out 0
  have hfgs1 := blk_frozen BS.out 1
  have hfgs2 := blk_frozen BS.out 2
  have hfgs3 := blk_frozen BS.out 3
  have hfgs4 := blk_frozen BS.out 4
  have hfgs5 := blk_frozen BS.out 5
  go_wp2_with (go_at_call 14; (with_reducible refine (impl_fields.calls k a0_0 z _ G0.out).mono ?_); rintro e w' ⟨rfl, ⟨nd, rfl⟩⟩)
  go_loopg [4, 5, 6, 7, 14] k (fun kq v4 v5 v6 v7 v14 w' => ∃ (x r_1 r_2 r_3 r_4 r_5 : Int), v14 = .int .i64 x ∧ Aside0 (impl_Step_valid.l0 kq a0_0 a0_1 a0_2 a0_3 a0_4 a0_5 z r_1 r_2 r_3 r_4 r_5 x = some r) ∧ Aside0 (kq ≤ k) ∧ Aside0 (w'.heap[gs]? = some (.cells #[.int .i64 a0_0, .int .i64 a0_1, .int .i64 a0_2, .int .i64 a0_3, .int .i64 a0_4, .int .i64 a0_5] 26 (0, 0))) ∧ Aside0 (w'.heap[gr]? = some (.cells #[.int .i64 0, .int .i64 r_1, .int .i64 r_2, .int .i64 r_3, .int .i64 r_4, .int .i64 r_5] 26 (0, 0))) ∧ Aside0 (Below w.heap.size w w'))
  case atStart => exact ⟨0, a0_1, a0_2, a0_3, a0_4, a0_5, rfl, G1, ⟨Nat.le_refl _⟩, ⟨by (with_reducible repeat (first | refine blk_drewN ?_ _ | refine blk_drew ?_ | refine blk_alloc ?_ _)); exact BS.out⟩, ⟨by (with_reducible repeat (first | refine blk_drewN ?_ _ | refine blk_drew ?_ | refine blk_alloc ?_ _)); exact BR.out⟩, ⟨by repeat (first | (with_reducible first | exact HB.out | apply below_alloc | apply pw_below_drewN | apply below_drew1 | refine below_set ?_ GS.out | refine below_set ?_ GR.out) | exact HB.out)⟩⟩
  case round =>
    clear G1 BS BR HB hcgs0 hfgs0 hcgs1 hfgs1 hcgs2 hfgs2 hcgs3 hfgs3 hcgs4 hfgs4 hcgs5 hfgs5
    obtain ⟨x, r_1, r_2, r_3, r_4, r_5, rfl, HA, HK1, BS, BR, HB⟩ := hrel
    cases gk with
    | zero => exact absurd HA.out (by simp [impl_Step_valid.l0])
    | succ k1 =>
      have h := HA.out
      clear HA
      simp only [impl_Step_valid.l0] at h
      by_cases c3 : x < (z.size : Int)
      · have c3b : decide (x < (z.size : Int)) = true := decide_eq_true c3
        rw [if_pos c3] at h
        by_cases c4 : 0 ≤ x
        · rw [if_pos c4] at h
          have p6 := eq_true c4
          have q6 := eq_true c3
          have hx6 := bt_at z x
          clear c3 c4
          replace h := Option.bind_eq_some_iff.mp h
          obtain ⟨⟨lo, hi⟩, A5', h⟩ := h
          have A5 := Aside0.mk A5'
          clear A5'
          replace h := Option.bind_eq_some_iff.mp h
          obtain ⟨t, A6', h⟩ := h
          have A6 := Aside0.mk A6'
          clear A6'
          have hj := fieldAt_cases (bt z x)
          have hcgs0 : wr.cell? ⟨gs, 0, none⟩ = some (.int .i64 a0_0) := (blk_cell BS.out 0).trans rfl
          have hcgs1 : wr.cell? ⟨gs, 1, none⟩ = some (.int .i64 a0_1) := (blk_cell BS.out 1).trans rfl
          have hcgs2 : wr.cell? ⟨gs, 2, none⟩ = some (.int .i64 a0_2) := (blk_cell BS.out 2).trans rfl
          have hcgs3 : wr.cell? ⟨gs, 3, none⟩ = some (.int .i64 a0_3) := (blk_cell BS.out 3).trans rfl
          have hcgs4 : wr.cell? ⟨gs, 4, none⟩ = some (.int .i64 a0_4) := (blk_cell BS.out 4).trans rfl
          have hcgs5 : wr.cell? ⟨gs, 5, none⟩ = some (.int .i64 a0_5) := (blk_cell BS.out 5).trans rfl
          have hfgs0 := blk_frozen BS.out 0
          have hfgs1 := blk_frozen BS.out 1
          have hfgs2 := blk_frozen BS.out 2
          have hfgs3 := blk_frozen BS.out 3
          have hfgs4 := blk_frozen BS.out 4
          have hfgs5 := blk_frozen BS.out 5
          rcases hj with hj | hj | hj | hj | hj
          · replace A6 : Aside0 (impl_in.f a0_1 lo hi = some t) := ⟨by have := A6.out; rw [hj] at this; exact this⟩
            rw [hj] at h
            cases t with
            | true =>
              have H' := Aside0.mk h
              clear h
              go_wp2_with (first | (go_at_call 14; (with_reducible refine (impl_fields.calls k a0_0 z _ G0.out).mono ?_); rintro e w' ⟨rfl, ⟨nd, rfl⟩⟩) | (go_at_call 15; (with_reducible refine (impl_Step_ranges.calls k1 a0_0 a0_1 a0_2 a0_3 a0_4 a0_5 (bt z x) lo hi _ A5.out).mono ?_); rintro e w7 ⟨rfl, hb⟩; have ngs_ := Aside0.mk (blk_below (g := gs) (o := .cells #[.int .i64 a0_0, .int .i64 a0_1, .int .i64 a0_2, .int .i64 a0_3, .int .i64 a0_4, .int .i64 a0_5] 26 (0, 0)) (by (with_reducible repeat (first | refine blk_drewN ?_ _ | refine blk_drew ?_ | refine blk_alloc ?_ _)); exact BS.out) hb); have ngr_ := Aside0.mk (blk_below (g := gr) (o := .cells #[.int .i64 0, .int .i64 r_1, .int .i64 r_2, .int .i64 r_3, .int .i64 r_4, .int .i64 r_5] 26 (0, 0)) (by (with_reducible repeat (first | refine blk_drewN ?_ _ | refine blk_drew ?_ | refine blk_alloc ?_ _)); exact BR.out) hb); have nb_ := Aside0.mk (below_step (by repeat (first | (with_reducible first | exact HB.out | apply below_alloc | apply pw_below_drewN | apply below_drew1 | refine below_set ?_ GS.out | refine below_set ?_ GR.out) | exact HB.out)) hb); clear BS BR HB; clear hcgs0 hfgs0 hcgs1 hfgs1 hcgs2 hfgs2 hcgs3 hfgs3 hcgs4 hfgs4 hcgs5 hfgs5; have BS := ngs_; have BR := ngr_; have HB := nb_; clear ngs_ ngr_ nb_ hb; have hcgs0 : w7.cell? ⟨gs, 0, none⟩ = some (.int .i64 a0_0) := (blk_cell BS.out 0).trans rfl; have hcgs1 : w7.cell? ⟨gs, 1, none⟩ = some (.int .i64 a0_1) := (blk_cell BS.out 1).trans rfl; have hcgs2 : w7.cell? ⟨gs, 2, none⟩ = some (.int .i64 a0_2) := (blk_cell BS.out 2).trans rfl; have hcgs3 : w7.cell? ⟨gs, 3, none⟩ = some (.int .i64 a0_3) := (blk_cell BS.out 3).trans rfl; have hcgs4 : w7.cell? ⟨gs, 4, none⟩ = some (.int .i64 a0_4) := (blk_cell BS.out 4).trans rfl; have hcgs5 : w7.cell? ⟨gs, 5, none⟩ = some (.int .i64 a0_5) := (blk_cell BS.out 5).trans rfl; have hfgs0 := blk_frozen BS.out 0; have hfgs1 := blk_frozen BS.out 1; have hfgs2 := blk_frozen BS.out 2; have hfgs3 := blk_frozen BS.out 3; have hfgs4 := blk_frozen BS.out 4; have hfgs5 := blk_frozen BS.out 5; have hcgr0 : w7.cell? ⟨gr, 0, none⟩ = some (.int .i64 0) := (blk_cell BR.out 0).trans rfl; have hcgr1 : w7.cell? ⟨gr, 1, none⟩ = some (.int .i64 r_1) := (blk_cell BR.out 1).trans rfl; have hcgr2 : w7.cell? ⟨gr, 2, none⟩ = some (.int .i64 r_2) := (blk_cell BR.out 2).trans rfl; have hcgr3 : w7.cell? ⟨gr, 3, none⟩ = some (.int .i64 r_3) := (blk_cell BR.out 3).trans rfl; have hcgr4 : w7.cell? ⟨gr, 4, none⟩ = some (.int .i64 r_4) := (blk_cell BR.out 4).trans rfl; have hcgr5 : w7.cell? ⟨gr, 5, none⟩ = some (.int .i64 r_5) := (blk_cell BR.out 5).trans rfl; have hfgr0 := blk_frozen BR.out 0; have hfgr1 := blk_frozen BR.out 1; have hfgr2 := blk_frozen BR.out 2; have hfgr3 := blk_frozen BR.out 3; have hfgr4 := blk_frozen BR.out 4; have hfgr5 := blk_frozen BR.out 5) | (go_at_call 17; (with_reducible refine (impl_Step_field.callsj gs (bt z x) 1 hj _).mono ?_); rintro e w' ⟨rfl, ⟨nd, rfl⟩⟩) | (go_at_call 17; (with_reducible refine (impl_Step_field.callsj gr (bt z x) 1 hj _).mono ?_); rintro e w' ⟨rfl, ⟨nd, rfl⟩⟩) | (go_at_call 16; (with_reducible refine (impl_in.calls a0_1 lo hi true _ A6.out).mono ?_); rintro e w' ⟨rfl, ⟨nd, rfl⟩⟩))
              go_roundg k1
              case measure => have := HK1.out; omega
              case rel => exact ⟨wrap64 (x + 1), zr_ 1 1 r_1, zr_ 2 1 r_2, zr_ 3 1 r_3, zr_ 4 1 r_4, zr_ 5 1 r_5, (by first | rfl | (simp; done) | (simp [*]; done)), H', ⟨by have := HK1.out; omega⟩, ⟨by (with_reducible repeat (first | refine blk_drewN ?_ _ | refine blk_drew ?_ | refine blk_alloc ?_ _)); refine blk_far ?_ NE.out _; (with_reducible repeat (first | refine blk_drewN ?_ _ | refine blk_drew ?_ | refine blk_alloc ?_ _)); exact BS.out⟩, ⟨by (with_reducible repeat (first | refine blk_drewN ?_ _ | refine blk_drew ?_ | refine blk_alloc ?_ _)); refine blk_put (cs := #[.int .i64 0, .int .i64 r_1, .int .i64 r_2, .int .i64 r_3, .int .i64 r_4, .int .i64 r_5]) ?_ 1 _ rfl; (with_reducible repeat (first | refine blk_drewN ?_ _ | refine blk_drew ?_ | refine blk_alloc ?_ _)); exact BR.out⟩, ⟨by repeat (first | (with_reducible first | exact HB.out | apply below_alloc | apply pw_below_drewN | apply below_drew1 | refine below_set ?_ GS.out | refine below_set ?_ GR.out) | exact HB.out)⟩⟩
            | false =>
              have h' : false = r := by simpa using h
              subst h'
              clear h
              go_wp2_with (first | (go_at_call 14; (with_reducible refine (impl_fields.calls k a0_0 z _ G0.out).mono ?_); rintro e w' ⟨rfl, ⟨nd, rfl⟩⟩) | (go_at_call 15; (with_reducible refine (impl_Step_ranges.calls k1 a0_0 a0_1 a0_2 a0_3 a0_4 a0_5 (bt z x) lo hi _ A5.out).mono ?_); rintro e w7 ⟨rfl, hb⟩; have ngs_ := Aside0.mk (blk_below (g := gs) (o := .cells #[.int .i64 a0_0, .int .i64 a0_1, .int .i64 a0_2, .int .i64 a0_3, .int .i64 a0_4, .int .i64 a0_5] 26 (0, 0)) (by (with_reducible repeat (first | refine blk_drewN ?_ _ | refine blk_drew ?_ | refine blk_alloc ?_ _)); exact BS.out) hb); have ngr_ := Aside0.mk (blk_below (g := gr) (o := .cells #[.int .i64 0, .int .i64 r_1, .int .i64 r_2, .int .i64 r_3, .int .i64 r_4, .int .i64 r_5] 26 (0, 0)) (by (with_reducible repeat (first | refine blk_drewN ?_ _ | refine blk_drew ?_ | refine blk_alloc ?_ _)); exact BR.out) hb); have nb_ := Aside0.mk (below_step (by repeat (first | (with_reducible first | exact HB.out | apply below_alloc | apply pw_below_drewN | apply below_drew1 | refine below_set ?_ GS.out | refine below_set ?_ GR.out) | exact HB.out)) hb); clear BS BR HB; clear hcgs0 hfgs0 hcgs1 hfgs1 hcgs2 hfgs2 hcgs3 hfgs3 hcgs4 hfgs4 hcgs5 hfgs5; have BS := ngs_; have BR := ngr_; have HB := nb_; clear ngs_ ngr_ nb_ hb; have hcgs0 : w7.cell? ⟨gs, 0, none⟩ = some (.int .i64 a0_0) := (blk_cell BS.out 0).trans rfl; have hcgs1 : w7.cell? ⟨gs, 1, none⟩ = some (.int .i64 a0_1) := (blk_cell BS.out 1).trans rfl; have hcgs2 : w7.cell? ⟨gs, 2, none⟩ = some (.int .i64 a0_2) := (blk_cell BS.out 2).trans rfl; have hcgs3 : w7.cell? ⟨gs, 3, none⟩ = some (.int .i64 a0_3) := (blk_cell BS.out 3).trans rfl; have hcgs4 : w7.cell? ⟨gs, 4, none⟩ = some (.int .i64 a0_4) := (blk_cell BS.out 4).trans rfl; have hcgs5 : w7.cell? ⟨gs, 5, none⟩ = some (.int .i64 a0_5) := (blk_cell BS.out 5).trans rfl; have hfgs0 := blk_frozen BS.out 0; have hfgs1 := blk_frozen BS.out 1; have hfgs2 := blk_frozen BS.out 2; have hfgs3 := blk_frozen BS.out 3; have hfgs4 := blk_frozen BS.out 4; have hfgs5 := blk_frozen BS.out 5; have hcgr0 : w7.cell? ⟨gr, 0, none⟩ = some (.int .i64 0) := (blk_cell BR.out 0).trans rfl; have hcgr1 : w7.cell? ⟨gr, 1, none⟩ = some (.int .i64 r_1) := (blk_cell BR.out 1).trans rfl; have hcgr2 : w7.cell? ⟨gr, 2, none⟩ = some (.int .i64 r_2) := (blk_cell BR.out 2).trans rfl; have hcgr3 : w7.cell? ⟨gr, 3, none⟩ = some (.int .i64 r_3) := (blk_cell BR.out 3).trans rfl; have hcgr4 : w7.cell? ⟨gr, 4, none⟩ = some (.int .i64 r_4) := (blk_cell BR.out 4).trans rfl; have hcgr5 : w7.cell? ⟨gr, 5, none⟩ = some (.int .i64 r_5) := (blk_cell BR.out 5).trans rfl; have hfgr0 := blk_frozen BR.out 0; have hfgr1 := blk_frozen BR.out 1; have hfgr2 := blk_frozen BR.out 2; have hfgr3 := blk_frozen BR.out 3; have hfgr4 := blk_frozen BR.out 4; have hfgr5 := blk_frozen BR.out 5) | (go_at_call 17; (with_reducible refine (impl_Step_field.callsj gs (bt z x) 1 hj _).mono ?_); rintro e w' ⟨rfl, ⟨nd, rfl⟩⟩) | (go_at_call 16; (with_reducible refine (impl_in.calls a0_1 lo hi false _ A6.out).mono ?_); rintro e w' ⟨rfl, ⟨nd, rfl⟩⟩))
              go_ret
              exact ⟨by first | rfl | (simp; done) | (simp [*]; done), by repeat (first | (with_reducible first | exact HB.out | apply below_alloc | apply pw_below_drewN | apply below_drew1 | refine below_set ?_ GS.out | refine below_set ?_ GR.out) | exact HB.out)⟩
          · replace A6 : Aside0 (impl_in.f a0_2 lo hi = some t) := ⟨by have := A6.out; rw [hj] at this; exact this⟩
            rw [hj] at h
            cases t with
            | true =>
              have H' := Aside0.mk h
              clear h
              go_wp2_with (first | (go_at_call 14; (with_reducible refine (impl_fields.calls k a0_0 z _ G0.out).mono ?_); rintro e w' ⟨rfl, ⟨nd, rfl⟩⟩) | (go_at_call 15; (with_reducible refine (impl_Step_ranges.calls k1 a0_0 a0_1 a0_2 a0_3 a0_4 a0_5 (bt z x) lo hi _ A5.out).mono ?_); rintro e w7 ⟨rfl, hb⟩; have ngs_ := Aside0.mk (blk_below (g := gs) (o := .cells #[.int .i64 a0_0, .int .i64 a0_1, .int .i64 a0_2, .int .i64 a0_3, .int .i64 a0_4, .int .i64 a0_5] 26 (0, 0)) (by (with_reducible repeat (first | refine blk_drewN ?_ _ | refine blk_drew ?_ | refine blk_alloc ?_ _)); exact BS.out) hb); have ngr_ := Aside0.mk (blk_below (g := gr) (o := .cells #[.int .i64 0, .int .i64 r_1, .int .i64 r_2, .int .i64 r_3, .int .i64 r_4, .int .i64 r_5] 26 (0, 0)) (by (with_reducible repeat (first | refine blk_drewN ?_ _ | refine blk_drew ?_ | refine blk_alloc ?_ _)); exact BR.out) hb); have nb_ := Aside0.mk (below_step (by repeat (first | (with_reducible first | exact HB.out | apply below_alloc | apply pw_below_drewN | apply below_drew1 | refine below_set ?_ GS.out | refine below_set ?_ GR.out) | exact HB.out)) hb); clear BS BR HB; clear hcgs0 hfgs0 hcgs1 hfgs1 hcgs2 hfgs2 hcgs3 hfgs3 hcgs4 hfgs4 hcgs5 hfgs5; have BS := ngs_; have BR := ngr_; have HB := nb_; clear ngs_ ngr_ nb_ hb; have hcgs0 : w7.cell? ⟨gs, 0, none⟩ = some (.int .i64 a0_0) := (blk_cell BS.out 0).trans rfl; have hcgs1 : w7.cell? ⟨gs, 1, none⟩ = some (.int .i64 a0_1) := (blk_cell BS.out 1).trans rfl; have hcgs2 : w7.cell? ⟨gs, 2, none⟩ = some (.int .i64 a0_2) := (blk_cell BS.out 2).trans rfl; have hcgs3 : w7.cell? ⟨gs, 3, none⟩ = some (.int .i64 a0_3) := (blk_cell BS.out 3).trans rfl; have hcgs4 : w7.cell? ⟨gs, 4, none⟩ = some (.int .i64 a0_4) := (blk_cell BS.out 4).trans rfl; have hcgs5 : w7.cell? ⟨gs, 5, none⟩ = some (.int .i64 a0_5) := (blk_cell BS.out 5).trans rfl; have hfgs0 := blk_frozen BS.out 0; have hfgs1 := blk_frozen BS.out 1; have hfgs2 := blk_frozen BS.out 2; have hfgs3 := blk_frozen BS.out 3; have hfgs4 := blk_frozen BS.out 4; have hfgs5 := blk_frozen BS.out 5; have hcgr0 : w7.cell? ⟨gr, 0, none⟩ = some (.int .i64 0) := (blk_cell BR.out 0).trans rfl; have hcgr1 : w7.cell? ⟨gr, 1, none⟩ = some (.int .i64 r_1) := (blk_cell BR.out 1).trans rfl; have hcgr2 : w7.cell? ⟨gr, 2, none⟩ = some (.int .i64 r_2) := (blk_cell BR.out 2).trans rfl; have hcgr3 : w7.cell? ⟨gr, 3, none⟩ = some (.int .i64 r_3) := (blk_cell BR.out 3).trans rfl; have hcgr4 : w7.cell? ⟨gr, 4, none⟩ = some (.int .i64 r_4) := (blk_cell BR.out 4).trans rfl; have hcgr5 : w7.cell? ⟨gr, 5, none⟩ = some (.int .i64 r_5) := (blk_cell BR.out 5).trans rfl; have hfgr0 := blk_frozen BR.out 0; have hfgr1 := blk_frozen BR.out 1; have hfgr2 := blk_frozen BR.out 2; have hfgr3 := blk_frozen BR.out 3; have hfgr4 := blk_frozen BR.out 4; have hfgr5 := blk_frozen BR.out 5) | (go_at_call 17; (with_reducible refine (impl_Step_field.callsj gs (bt z x) 2 hj _).mono ?_); rintro e w' ⟨rfl, ⟨nd, rfl⟩⟩) | (go_at_call 17; (with_reducible refine (impl_Step_field.callsj gr (bt z x) 2 hj _).mono ?_); rintro e w' ⟨rfl, ⟨nd, rfl⟩⟩) | (go_at_call 16; (with_reducible refine (impl_in.calls a0_2 lo hi true _ A6.out).mono ?_); rintro e w' ⟨rfl, ⟨nd, rfl⟩⟩))
              go_roundg k1
              case measure => have := HK1.out; omega
              case rel => exact ⟨wrap64 (x + 1), zr_ 1 2 r_1, zr_ 2 2 r_2, zr_ 3 2 r_3, zr_ 4 2 r_4, zr_ 5 2 r_5, (by first | rfl | (simp; done) | (simp [*]; done)), H', ⟨by have := HK1.out; omega⟩, ⟨by (with_reducible repeat (first | refine blk_drewN ?_ _ | refine blk_drew ?_ | refine blk_alloc ?_ _)); refine blk_far ?_ NE.out _; (with_reducible repeat (first | refine blk_drewN ?_ _ | refine blk_drew ?_ | refine blk_alloc ?_ _)); exact BS.out⟩, ⟨by (with_reducible repeat (first | refine blk_drewN ?_ _ | refine blk_drew ?_ | refine blk_alloc ?_ _)); refine blk_put (cs := #[.int .i64 0, .int .i64 r_1, .int .i64 r_2, .int .i64 r_3, .int .i64 r_4, .int .i64 r_5]) ?_ 2 _ rfl; (with_reducible repeat (first | refine blk_drewN ?_ _ | refine blk_drew ?_ | refine blk_alloc ?_ _)); exact BR.out⟩, ⟨by repeat (first | (with_reducible first | exact HB.out | apply below_alloc | apply pw_below_drewN | apply below_drew1 | refine below_set ?_ GS.out | refine below_set ?_ GR.out) | exact HB.out)⟩⟩
            | false =>
              have h' : false = r := by simpa using h
              subst h'
              clear h
              go_wp2_with (first | (go_at_call 14; (with_reducible refine (impl_fields.calls k a0_0 z _ G0.out).mono ?_); rintro e w' ⟨rfl, ⟨nd, rfl⟩⟩) | (go_at_call 15; (with_reducible refine (impl_Step_ranges.calls k1 a0_0 a0_1 a0_2 a0_3 a0_4 a0_5 (bt z x) lo hi _ A5.out).mono ?_); rintro e w7 ⟨rfl, hb⟩; have ngs_ := Aside0.mk (blk_below (g := gs) (o := .cells #[.int .i64 a0_0, .int .i64 a0_1, .int .i64 a0_2, .int .i64 a0_3, .int .i64 a0_4, .int .i64 a0_5] 26 (0, 0)) (by (with_reducible repeat (first | refine blk_drewN ?_ _ | refine blk_drew ?_ | refine blk_alloc ?_ _)); exact BS.out) hb); have ngr_ := Aside0.mk (blk_below (g := gr) (o := .cells #[.int .i64 0, .int .i64 r_1, .int .i64 r_2, .int .i64 r_3, .int .i64 r_4, .int .i64 r_5] 26 (0, 0)) (by (with_reducible repeat (first | refine blk_drewN ?_ _ | refine blk_drew ?_ | refine blk_alloc ?_ _)); exact BR.out) hb); have nb_ := Aside0.mk (below_step (by repeat (first | (with_reducible first | exact HB.out | apply below_alloc | apply pw_below_drewN | apply below_drew1 | refine below_set ?_ GS.out | refine below_set ?_ GR.out) | exact HB.out)) hb); clear BS BR HB; clear hcgs0 hfgs0 hcgs1 hfgs1 hcgs2 hfgs2 hcgs3 hfgs3 hcgs4 hfgs4 hcgs5 hfgs5; have BS := ngs_; have BR := ngr_; have HB := nb_; clear ngs_ ngr_ nb_ hb; have hcgs0 : w7.cell? ⟨gs, 0, none⟩ = some (.int .i64 a0_0) := (blk_cell BS.out 0).trans rfl; have hcgs1 : w7.cell? ⟨gs, 1, none⟩ = some (.int .i64 a0_1) := (blk_cell BS.out 1).trans rfl; have hcgs2 : w7.cell? ⟨gs, 2, none⟩ = some (.int .i64 a0_2) := (blk_cell BS.out 2).trans rfl; have hcgs3 : w7.cell? ⟨gs, 3, none⟩ = some (.int .i64 a0_3) := (blk_cell BS.out 3).trans rfl; have hcgs4 : w7.cell? ⟨gs, 4, none⟩ = some (.int .i64 a0_4) := (blk_cell BS.out 4).trans rfl; have hcgs5 : w7.cell? ⟨gs, 5, none⟩ = some (.int .i64 a0_5) := (blk_cell BS.out 5).trans rfl; have hfgs0 := blk_frozen BS.out 0; have hfgs1 := blk_frozen BS.out 1; have hfgs2 := blk_frozen BS.out 2; have hfgs3 := blk_frozen BS.out 3; have hfgs4 := blk_frozen BS.out 4; have hfgs5 := blk_frozen BS.out 5; have hcgr0 : w7.cell? ⟨gr, 0, none⟩ = some (.int .i64 0) := (blk_cell BR.out 0).trans rfl; have hcgr1 : w7.cell? ⟨gr, 1, none⟩ = some (.int .i64 r_1) := (blk_cell BR.out 1).trans rfl; have hcgr2 : w7.cell? ⟨gr, 2, none⟩ = some (.int .i64 r_2) := (blk_cell BR.out 2).trans rfl; have hcgr3 : w7.cell? ⟨gr, 3, none⟩ = some (.int .i64 r_3) := (blk_cell BR.out 3).trans rfl; have hcgr4 : w7.cell? ⟨gr, 4, none⟩ = some (.int .i64 r_4) := (blk_cell BR.out 4).trans rfl; have hcgr5 : w7.cell? ⟨gr, 5, none⟩ = some (.int .i64 r_5) := (blk_cell BR.out 5).trans rfl; have hfgr0 := blk_frozen BR.out 0; have hfgr1 := blk_frozen BR.out 1; have hfgr2 := blk_frozen BR.out 2; have hfgr3 := blk_frozen BR.out 3; have hfgr4 := blk_frozen BR.out 4; have hfgr5 := blk_frozen BR.out 5) | (go_at_call 17; (with_reducible refine (impl_Step_field.callsj gs (bt z x) 2 hj _).mono ?_); rintro e w' ⟨rfl, ⟨nd, rfl⟩⟩) | (go_at_call 16; (with_reducible refine (impl_in.calls a0_2 lo hi false _ A6.out).mono ?_); rintro e w' ⟨rfl, ⟨nd, rfl⟩⟩))
              go_ret
              exact ⟨by first | rfl | (simp; done) | (simp [*]; done), by repeat (first | (with_reducible first | exact HB.out | apply below_alloc | apply pw_below_drewN | apply below_drew1 | refine below_set ?_ GS.out | refine below_set ?_ GR.out) | exact HB.out)⟩
          · replace A6 : Aside0 (impl_in.f a0_3 lo hi = some t) := ⟨by have := A6.out; rw [hj] at this; exact this⟩
            rw [hj] at h
            cases t with
            | true =>
              have H' := Aside0.mk h
              clear h
              go_wp2_with (first | (go_at_call 14; (with_reducible refine (impl_fields.calls k a0_0 z _ G0.out).mono ?_); rintro e w' ⟨rfl, ⟨nd, rfl⟩⟩) | (go_at_call 15; (with_reducible refine (impl_Step_ranges.calls k1 a0_0 a0_1 a0_2 a0_3 a0_4 a0_5 (bt z x) lo hi _ A5.out).mono ?_); rintro e w7 ⟨rfl, hb⟩; have ngs_ := Aside0.mk (blk_below (g := gs) (o := .cells #[.int .i64 a0_0, .int .i64 a0_1, .int .i64 a0_2, .int .i64 a0_3, .int .i64 a0_4, .int .i64 a0_5] 26 (0, 0)) (by (with_reducible repeat (first | refine blk_drewN ?_ _ | refine blk_drew ?_ | refine blk_alloc ?_ _)); exact BS.out) hb); have ngr_ := Aside0.mk (blk_below (g := gr) (o := .cells #[.int .i64 0, .int .i64 r_1, .int .i64 r_2, .int .i64 r_3, .int .i64 r_4, .int .i64 r_5] 26 (0, 0)) (by (with_reducible repeat (first | refine blk_drewN ?_ _ | refine blk_drew ?_ | refine blk_alloc ?_ _)); exact BR.out) hb); have nb_ := Aside0.mk (below_step (by repeat (first | (with_reducible first | exact HB.out | apply below_alloc | apply pw_below_drewN | apply below_drew1 | refine below_set ?_ GS.out | refine below_set ?_ GR.out) | exact HB.out)) hb); clear BS BR HB; clear hcgs0 hfgs0 hcgs1 hfgs1 hcgs2 hfgs2 hcgs3 hfgs3 hcgs4 hfgs4 hcgs5 hfgs5; have BS := ngs_; have BR := ngr_; have HB := nb_; clear ngs_ ngr_ nb_ hb; have hcgs0 : w7.cell? ⟨gs, 0, none⟩ = some (.int .i64 a0_0) := (blk_cell BS.out 0).trans rfl; have hcgs1 : w7.cell? ⟨gs, 1, none⟩ = some (.int .i64 a0_1) := (blk_cell BS.out 1).trans rfl; have hcgs2 : w7.cell? ⟨gs, 2, none⟩ = some (.int .i64 a0_2) := (blk_cell BS.out 2).trans rfl; have hcgs3 : w7.cell? ⟨gs, 3, none⟩ = some (.int .i64 a0_3) := (blk_cell BS.out 3).trans rfl; have hcgs4 : w7.cell? ⟨gs, 4, none⟩ = some (.int .i64 a0_4) := (blk_cell BS.out 4).trans rfl; have hcgs5 : w7.cell? ⟨gs, 5, none⟩ = some (.int .i64 a0_5) := (blk_cell BS.out 5).trans rfl; have hfgs0 := blk_frozen BS.out 0; have hfgs1 := blk_frozen BS.out 1; have hfgs2 := blk_frozen BS.out 2; have hfgs3 := blk_frozen BS.out 3; have hfgs4 := blk_frozen BS.out 4; have hfgs5 := blk_frozen BS.out 5; have hcgr0 : w7.cell? ⟨gr, 0, none⟩ = some (.int .i64 0) := (blk_cell BR.out 0).trans rfl; have hcgr1 : w7.cell? ⟨gr, 1, none⟩ = some (.int .i64 r_1) := (blk_cell BR.out 1).trans rfl; have hcgr2 : w7.cell? ⟨gr, 2, none⟩ = some (.int .i64 r_2) := (blk_cell BR.out 2).trans rfl; have hcgr3 : w7.cell? ⟨gr, 3, none⟩ = some (.int .i64 r_3) := (blk_cell BR.out 3).trans rfl; have hcgr4 : w7.cell? ⟨gr, 4, none⟩ = some (.int .i64 r_4) := (blk_cell BR.out 4).trans rfl; have hcgr5 : w7.cell? ⟨gr, 5, none⟩ = some (.int .i64 r_5) := (blk_cell BR.out 5).trans rfl; have hfgr0 := blk_frozen BR.out 0; have hfgr1 := blk_frozen BR.out 1; have hfgr2 := blk_frozen BR.out 2; have hfgr3 := blk_frozen BR.out 3; have hfgr4 := blk_frozen BR.out 4; have hfgr5 := blk_frozen BR.out 5) | (go_at_call 17; (with_reducible refine (impl_Step_field.callsj gs (bt z x) 3 hj _).mono ?_); rintro e w' ⟨rfl, ⟨nd, rfl⟩⟩) | (go_at_call 17; (with_reducible refine (impl_Step_field.callsj gr (bt z x) 3 hj _).mono ?_); rintro e w' ⟨rfl, ⟨nd, rfl⟩⟩) | (go_at_call 16; (with_reducible refine (impl_in.calls a0_3 lo hi true _ A6.out).mono ?_); rintro e w' ⟨rfl, ⟨nd, rfl⟩⟩))
              go_roundg k1
              case measure => have := HK1.out; omega
              case rel => exact ⟨wrap64 (x + 1), zr_ 1 3 r_1, zr_ 2 3 r_2, zr_ 3 3 r_3, zr_ 4 3 r_4, zr_ 5 3 r_5, (by first | rfl | (simp; done) | (simp [*]; done)), H', ⟨by have := HK1.out; omega⟩, ⟨by (with_reducible repeat (first | refine blk_drewN ?_ _ | refine blk_drew ?_ | refine blk_alloc ?_ _)); refine blk_far ?_ NE.out _; (with_reducible repeat (first | refine blk_drewN ?_ _ | refine blk_drew ?_ | refine blk_alloc ?_ _)); exact BS.out⟩, ⟨by (with_reducible repeat (first | refine blk_drewN ?_ _ | refine blk_drew ?_ | refine blk_alloc ?_ _)); refine blk_put (cs := #[.int .i64 0, .int .i64 r_1, .int .i64 r_2, .int .i64 r_3, .int .i64 r_4, .int .i64 r_5]) ?_ 3 _ rfl; (with_reducible repeat (first | refine blk_drewN ?_ _ | refine blk_drew ?_ | refine blk_alloc ?_ _)); exact BR.out⟩, ⟨by repeat (first | (with_reducible first | exact HB.out | apply below_alloc | apply pw_below_drewN | apply below_drew1 | refine below_set ?_ GS.out | refine below_set ?_ GR.out) | exact HB.out)⟩⟩
            | false =>
              have h' : false = r := by simpa using h
              subst h'
              clear h
              go_wp2_with (first | (go_at_call 14; (with_reducible refine (impl_fields.calls k a0_0 z _ G0.out).mono ?_); rintro e w' ⟨rfl, ⟨nd, rfl⟩⟩) | (go_at_call 15; (with_reducible refine (impl_Step_ranges.calls k1 a0_0 a0_1 a0_2 a0_3 a0_4 a0_5 (bt z x) lo hi _ A5.out).mono ?_); rintro e w7 ⟨rfl, hb⟩; have ngs_ := Aside0.mk (blk_below (g := gs) (o := .cells #[.int .i64 a0_0, .int .i64 a0_1, .int .i64 a0_2, .int .i64 a0_3, .int .i64 a0_4, .int .i64 a0_5] 26 (0, 0)) (by (with_reducible repeat (first | refine blk_drewN ?_ _ | refine blk_drew ?_ | refine blk_alloc ?_ _)); exact BS.out) hb); have ngr_ := Aside0.mk (blk_below (g := gr) (o := .cells #[.int .i64 0, .int .i64 r_1, .int .i64 r_2, .int .i64 r_3, .int .i64 r_4, .int .i64 r_5] 26 (0, 0)) (by (with_reducible repeat (first | refine blk_drewN ?_ _ | refine blk_drew ?_ | refine blk_alloc ?_ _)); exact BR.out) hb); have nb_ := Aside0.mk (below_step (by repeat (first | (with_reducible first | exact HB.out | apply below_alloc | apply pw_below_drewN | apply below_drew1 | refine below_set ?_ GS.out | refine below_set ?_ GR.out) | exact HB.out)) hb); clear BS BR HB; clear hcgs0 hfgs0 hcgs1 hfgs1 hcgs2 hfgs2 hcgs3 hfgs3 hcgs4 hfgs4 hcgs5 hfgs5; have BS := ngs_; have BR := ngr_; have HB := nb_; clear ngs_ ngr_ nb_ hb; have hcgs0 : w7.cell? ⟨gs, 0, none⟩ = some (.int .i64 a0_0) := (blk_cell BS.out 0).trans rfl; have hcgs1 : w7.cell? ⟨gs, 1, none⟩ = some (.int .i64 a0_1) := (blk_cell BS.out 1).trans rfl; have hcgs2 : w7.cell? ⟨gs, 2, none⟩ = some (.int .i64 a0_2) := (blk_cell BS.out 2).trans rfl; have hcgs3 : w7.cell? ⟨gs, 3, none⟩ = some (.int .i64 a0_3) := (blk_cell BS.out 3).trans rfl; have hcgs4 : w7.cell? ⟨gs, 4, none⟩ = some (.int .i64 a0_4) := (blk_cell BS.out 4).trans rfl; have hcgs5 : w7.cell? ⟨gs, 5, none⟩ = some (.int .i64 a0_5) := (blk_cell BS.out 5).trans rfl; have hfgs0 := blk_frozen BS.out 0; have hfgs1 := blk_frozen BS.out 1; have hfgs2 := blk_frozen BS.out 2; have hfgs3 := blk_frozen BS.out 3; have hfgs4 := blk_frozen BS.out 4; have hfgs5 := blk_frozen BS.out 5; have hcgr0 : w7.cell? ⟨gr, 0, none⟩ = some (.int .i64 0) := (blk_cell BR.out 0).trans rfl; have hcgr1 : w7.cell? ⟨gr, 1, none⟩ = some (.int .i64 r_1) := (blk_cell BR.out 1).trans rfl; have hcgr2 : w7.cell? ⟨gr, 2, none⟩ = some (.int .i64 r_2) := (blk_cell BR.out 2).trans rfl; have hcgr3 : w7.cell? ⟨gr, 3, none⟩ = some (.int .i64 r_3) := (blk_cell BR.out 3).trans rfl; have hcgr4 : w7.cell? ⟨gr, 4, none⟩ = some (.int .i64 r_4) := (blk_cell BR.out 4).trans rfl; have hcgr5 : w7.cell? ⟨gr, 5, none⟩ = some (.int .i64 r_5) := (blk_cell BR.out 5).trans rfl; have hfgr0 := blk_frozen BR.out 0; have hfgr1 := blk_frozen BR.out 1; have hfgr2 := blk_frozen BR.out 2; have hfgr3 := blk_frozen BR.out 3; have hfgr4 := blk_frozen BR.out 4; have hfgr5 := blk_frozen BR.out 5) | (go_at_call 17; (with_reducible refine (impl_Step_field.callsj gs (bt z x) 3 hj _).mono ?_); rintro e w' ⟨rfl, ⟨nd, rfl⟩⟩) | (go_at_call 16; (with_reducible refine (impl_in.calls a0_3 lo hi false _ A6.out).mono ?_); rintro e w' ⟨rfl, ⟨nd, rfl⟩⟩))
              go_ret
              exact ⟨by first | rfl | (simp; done) | (simp [*]; done), by repeat (first | (with_reducible first | exact HB.out | apply below_alloc | apply pw_below_drewN | apply below_drew1 | refine below_set ?_ GS.out | refine below_set ?_ GR.out) | exact HB.out)⟩
          · replace A6 : Aside0 (impl_in.f a0_4 lo hi = some t) := ⟨by have := A6.out; rw [hj] at this; exact this⟩
            rw [hj] at h
            cases t with
            | true =>
              have H' := Aside0.mk h
              clear h
              go_wp2_with (first | (go_at_call 14; (with_reducible refine (impl_fields.calls k a0_0 z _ G0.out).mono ?_); rintro e w' ⟨rfl, ⟨nd, rfl⟩⟩) | (go_at_call 15; (with_reducible refine (impl_Step_ranges.calls k1 a0_0 a0_1 a0_2 a0_3 a0_4 a0_5 (bt z x) lo hi _ A5.out).mono ?_); rintro e w7 ⟨rfl, hb⟩; have ngs_ := Aside0.mk (blk_below (g := gs) (o := .cells #[.int .i64 a0_0, .int .i64 a0_1, .int .i64 a0_2, .int .i64 a0_3, .int .i64 a0_4, .int .i64 a0_5] 26 (0, 0)) (by (with_reducible repeat (first | refine blk_drewN ?_ _ | refine blk_drew ?_ | refine blk_alloc ?_ _)); exact BS.out) hb); have ngr_ := Aside0.mk (blk_below (g := gr) (o := .cells #[.int .i64 0, .int .i64 r_1, .int .i64 r_2, .int .i64 r_3, .int .i64 r_4, .int .i64 r_5] 26 (0, 0)) (by (with_reducible repeat (first | refine blk_drewN ?_ _ | refine blk_drew ?_ | refine blk_alloc ?_ _)); exact BR.out) hb); have nb_ := Aside0.mk (below_step (by repeat (first | (with_reducible first | exact HB.out | apply below_alloc | apply pw_below_drewN | apply below_drew1 | refine below_set ?_ GS.out | refine below_set ?_ GR.out) | exact HB.out)) hb); clear BS BR HB; clear hcgs0 hfgs0 hcgs1 hfgs1 hcgs2 hfgs2 hcgs3 hfgs3 hcgs4 hfgs4 hcgs5 hfgs5; have BS := ngs_; have BR := ngr_; have HB := nb_; clear ngs_ ngr_ nb_ hb; have hcgs0 : w7.cell? ⟨gs, 0, none⟩ = some (.int .i64 a0_0) := (blk_cell BS.out 0).trans rfl; have hcgs1 : w7.cell? ⟨gs, 1, none⟩ = some (.int .i64 a0_1) := (blk_cell BS.out 1).trans rfl; have hcgs2 : w7.cell? ⟨gs, 2, none⟩ = some (.int .i64 a0_2) := (blk_cell BS.out 2).trans rfl; have hcgs3 : w7.cell? ⟨gs, 3, none⟩ = some (.int .i64 a0_3) := (blk_cell BS.out 3).trans rfl; have hcgs4 : w7.cell? ⟨gs, 4, none⟩ = some (.int .i64 a0_4) := (blk_cell BS.out 4).trans rfl; have hcgs5 : w7.cell? ⟨gs, 5, none⟩ = some (.int .i64 a0_5) := (blk_cell BS.out 5).trans rfl; have hfgs0 := blk_frozen BS.out 0; have hfgs1 := blk_frozen BS.out 1; have hfgs2 := blk_frozen BS.out 2; have hfgs3 := blk_frozen BS.out 3; have hfgs4 := blk_frozen BS.out 4; have hfgs5 := blk_frozen BS.out 5; have hcgr0 : w7.cell? ⟨gr, 0, none⟩ = some (.int .i64 0) := (blk_cell BR.out 0).trans rfl; have hcgr1 : w7.cell? ⟨gr, 1, none⟩ = some (.int .i64 r_1) := (blk_cell BR.out 1).trans rfl; have hcgr2 : w7.cell? ⟨gr, 2, none⟩ = some (.int .i64 r_2) := (blk_cell BR.out 2).trans rfl; have hcgr3 : w7.cell? ⟨gr, 3, none⟩ = some (.int .i64 r_3) := (blk_cell BR.out 3).trans rfl; have hcgr4 : w7.cell? ⟨gr, 4, none⟩ = some (.int .i64 r_4) := (blk_cell BR.out 4).trans rfl; have hcgr5 : w7.cell? ⟨gr, 5, none⟩ = some (.int .i64 r_5) := (blk_cell BR.out 5).trans rfl; have hfgr0 := blk_frozen BR.out 0; have hfgr1 := blk_frozen BR.out 1; have hfgr2 := blk_frozen BR.out 2; have hfgr3 := blk_frozen BR.out 3; have hfgr4 := blk_frozen BR.out 4; have hfgr5 := blk_frozen BR.out 5) | (go_at_call 17; (with_reducible refine (impl_Step_field.callsj gs (bt z x) 4 hj _).mono ?_); rintro e w' ⟨rfl, ⟨nd, rfl⟩⟩) | (go_at_call 17; (with_reducible refine (impl_Step_field.callsj gr (bt z x) 4 hj _).mono ?_); rintro e w' ⟨rfl, ⟨nd, rfl⟩⟩) | (go_at_call 16; (with_reducible refine (impl_in.calls a0_4 lo hi true _ A6.out).mono ?_); rintro e w' ⟨rfl, ⟨nd, rfl⟩⟩))
              go_roundg k1
              case measure => have := HK1.out; omega
              case rel => exact ⟨wrap64 (x + 1), zr_ 1 4 r_1, zr_ 2 4 r_2, zr_ 3 4 r_3, zr_ 4 4 r_4, zr_ 5 4 r_5, (by first | rfl | (simp; done) | (simp [*]; done)), H', ⟨by have := HK1.out; omega⟩, ⟨by (with_reducible repeat (first | refine blk_drewN ?_ _ | refine blk_drew ?_ | refine blk_alloc ?_ _)); refine blk_far ?_ NE.out _; (with_reducible repeat (first | refine blk_drewN ?_ _ | refine blk_drew ?_ | refine blk_alloc ?_ _)); exact BS.out⟩, ⟨by (with_reducible repeat (first | refine blk_drewN ?_ _ | refine blk_drew ?_ | refine blk_alloc ?_ _)); refine blk_put (cs := #[.int .i64 0, .int .i64 r_1, .int .i64 r_2, .int .i64 r_3, .int .i64 r_4, .int .i64 r_5]) ?_ 4 _ rfl; (with_reducible repeat (first | refine blk_drewN ?_ _ | refine blk_drew ?_ | refine blk_alloc ?_ _)); exact BR.out⟩, ⟨by repeat (first | (with_reducible first | exact HB.out | apply below_alloc | apply pw_below_drewN | apply below_drew1 | refine below_set ?_ GS.out | refine below_set ?_ GR.out) | exact HB.out)⟩⟩
            | false =>
              have h' : false = r := by simpa using h
              subst h'
              clear h
              go_wp2_with (first | (go_at_call 14; (with_reducible refine (impl_fields.calls k a0_0 z _ G0.out).mono ?_); rintro e w' ⟨rfl, ⟨nd, rfl⟩⟩) | (go_at_call 15; (with_reducible refine (impl_Step_ranges.calls k1 a0_0 a0_1 a0_2 a0_3 a0_4 a0_5 (bt z x) lo hi _ A5.out).mono ?_); rintro e w7 ⟨rfl, hb⟩; have ngs_ := Aside0.mk (blk_below (g := gs) (o := .cells #[.int .i64 a0_0, .int .i64 a0_1, .int .i64 a0_2, .int .i64 a0_3, .int .i64 a0_4, .int .i64 a0_5] 26 (0, 0)) (by (with_reducible repeat (first | refine blk_drewN ?_ _ | refine blk_drew ?_ | refine blk_alloc ?_ _)); exact BS.out) hb); have ngr_ := Aside0.mk (blk_below (g := gr) (o := .cells #[.int .i64 0, .int .i64 r_1, .int .i64 r_2, .int .i64 r_3, .int .i64 r_4, .int .i64 r_5] 26 (0, 0)) (by (with_reducible repeat (first | refine blk_drewN ?_ _ | refine blk_drew ?_ | refine blk_alloc ?_ _)); exact BR.out) hb); have nb_ := Aside0.mk (below_step (by repeat (first | (with_reducible first | exact HB.out | apply below_alloc | apply pw_below_drewN | apply below_drew1 | refine below_set ?_ GS.out | refine below_set ?_ GR.out) | exact HB.out)) hb); clear BS BR HB; clear hcgs0 hfgs0 hcgs1 hfgs1 hcgs2 hfgs2 hcgs3 hfgs3 hcgs4 hfgs4 hcgs5 hfgs5; have BS := ngs_; have BR := ngr_; have HB := nb_; clear ngs_ ngr_ nb_ hb; have hcgs0 : w7.cell? ⟨gs, 0, none⟩ = some (.int .i64 a0_0) := (blk_cell BS.out 0).trans rfl; have hcgs1 : w7.cell? ⟨gs, 1, none⟩ = some (.int .i64 a0_1) := (blk_cell BS.out 1).trans rfl; have hcgs2 : w7.cell? ⟨gs, 2, none⟩ = some (.int .i64 a0_2) := (blk_cell BS.out 2).trans rfl; have hcgs3 : w7.cell? ⟨gs, 3, none⟩ = some (.int .i64 a0_3) := (blk_cell BS.out 3).trans rfl; have hcgs4 : w7.cell? ⟨gs, 4, none⟩ = some (.int .i64 a0_4) := (blk_cell BS.out 4).trans rfl; have hcgs5 : w7.cell? ⟨gs, 5, none⟩ = some (.int .i64 a0_5) := (blk_cell BS.out 5).trans rfl; have hfgs0 := blk_frozen BS.out 0; have hfgs1 := blk_frozen BS.out 1; have hfgs2 := blk_frozen BS.out 2; have hfgs3 := blk_frozen BS.out 3; have hfgs4 := blk_frozen BS.out 4; have hfgs5 := blk_frozen BS.out 5; have hcgr0 : w7.cell? ⟨gr, 0, none⟩ = some (.int .i64 0) := (blk_cell BR.out 0).trans rfl; have hcgr1 : w7.cell? ⟨gr, 1, none⟩ = some (.int .i64 r_1) := (blk_cell BR.out 1).trans rfl; have hcgr2 : w7.cell? ⟨gr, 2, none⟩ = some (.int .i64 r_2) := (blk_cell BR.out 2).trans rfl; have hcgr3 : w7.cell? ⟨gr, 3, none⟩ = some (.int .i64 r_3) := (blk_cell BR.out 3).trans rfl; have hcgr4 : w7.cell? ⟨gr, 4, none⟩ = some (.int .i64 r_4) := (blk_cell BR.out 4).trans rfl; have hcgr5 : w7.cell? ⟨gr, 5, none⟩ = some (.int .i64 r_5) := (blk_cell BR.out 5).trans rfl; have hfgr0 := blk_frozen BR.out 0; have hfgr1 := blk_frozen BR.out 1; have hfgr2 := blk_frozen BR.out 2; have hfgr3 := blk_frozen BR.out 3; have hfgr4 := blk_frozen BR.out 4; have hfgr5 := blk_frozen BR.out 5) | (go_at_call 17; (with_reducible refine (impl_Step_field.callsj gs (bt z x) 4 hj _).mono ?_); rintro e w' ⟨rfl, ⟨nd, rfl⟩⟩) | (go_at_call 16; (with_reducible refine (impl_in.calls a0_4 lo hi false _ A6.out).mono ?_); rintro e w' ⟨rfl, ⟨nd, rfl⟩⟩))
              go_ret
              exact ⟨by first | rfl | (simp; done) | (simp [*]; done), by repeat (first | (with_reducible first | exact HB.out | apply below_alloc | apply pw_below_drewN | apply below_drew1 | refine below_set ?_ GS.out | refine below_set ?_ GR.out) | exact HB.out)⟩
          · replace A6 : Aside0 (impl_in.f a0_5 lo hi = some t) := ⟨by have := A6.out; rw [hj] at this; exact this⟩
            rw [hj] at h
            cases t with
            | true =>
              have H' := Aside0.mk h
              clear h
              go_wp2_with (first | (go_at_call 14; (with_reducible refine (impl_fields.calls k a0_0 z _ G0.out).mono ?_); rintro e w' ⟨rfl, ⟨nd, rfl⟩⟩) | (go_at_call 15; (with_reducible refine (impl_Step_ranges.calls k1 a0_0 a0_1 a0_2 a0_3 a0_4 a0_5 (bt z x) lo hi _ A5.out).mono ?_); rintro e w7 ⟨rfl, hb⟩; have ngs_ := Aside0.mk (blk_below (g := gs) (o := .cells #[.int .i64 a0_0, .int .i64 a0_1, .int .i64 a0_2, .int .i64 a0_3, .int .i64 a0_4, .int .i64 a0_5] 26 (0, 0)) (by (with_reducible repeat (first | refine blk_drewN ?_ _ | refine blk_drew ?_ | refine blk_alloc ?_ _)); exact BS.out) hb); have ngr_ := Aside0.mk (blk_below (g := gr) (o := .cells #[.int .i64 0, .int .i64 r_1, .int .i64 r_2, .int .i64 r_3, .int .i64 r_4, .int .i64 r_5] 26 (0, 0)) (by (with_reducible repeat (first | refine blk_drewN ?_ _ | refine blk_drew ?_ | refine blk_alloc ?_ _)); exact BR.out) hb); have nb_ := Aside0.mk (below_step (by repeat (first | (with_reducible first | exact HB.out | apply below_alloc | apply pw_below_drewN | apply below_drew1 | refine below_set ?_ GS.out | refine below_set ?_ GR.out) | exact HB.out)) hb); clear BS BR HB; clear hcgs0 hfgs0 hcgs1 hfgs1 hcgs2 hfgs2 hcgs3 hfgs3 hcgs4 hfgs4 hcgs5 hfgs5; have BS := ngs_; have BR := ngr_; have HB := nb_; clear ngs_ ngr_ nb_ hb; have hcgs0 : w7.cell? ⟨gs, 0, none⟩ = some (.int .i64 a0_0) := (blk_cell BS.out 0).trans rfl; have hcgs1 : w7.cell? ⟨gs, 1, none⟩ = some (.int .i64 a0_1) := (blk_cell BS.out 1).trans rfl; have hcgs2 : w7.cell? ⟨gs, 2, none⟩ = some (.int .i64 a0_2) := (blk_cell BS.out 2).trans rfl; have hcgs3 : w7.cell? ⟨gs, 3, none⟩ = some (.int .i64 a0_3) := (blk_cell BS.out 3).trans rfl; have hcgs4 : w7.cell? ⟨gs, 4, none⟩ = some (.int .i64 a0_4) := (blk_cell BS.out 4).trans rfl; have hcgs5 : w7.cell? ⟨gs, 5, none⟩ = some (.int .i64 a0_5) := (blk_cell BS.out 5).trans rfl; have hfgs0 := blk_frozen BS.out 0; have hfgs1 := blk_frozen BS.out 1; have hfgs2 := blk_frozen BS.out 2; have hfgs3 := blk_frozen BS.out 3; have hfgs4 := blk_frozen BS.out 4; have hfgs5 := blk_frozen BS.out 5; have hcgr0 : w7.cell? ⟨gr, 0, none⟩ = some (.int .i64 0) := (blk_cell BR.out 0).trans rfl; have hcgr1 : w7.cell? ⟨gr, 1, none⟩ = some (.int .i64 r_1) := (blk_cell BR.out 1).trans rfl; have hcgr2 : w7.cell? ⟨gr, 2, none⟩ = some (.int .i64 r_2) := (blk_cell BR.out 2).trans rfl; have hcgr3 : w7.cell? ⟨gr, 3, none⟩ = some (.int .i64 r_3) := (blk_cell BR.out 3).trans rfl; have hcgr4 : w7.cell? ⟨gr, 4, none⟩ = some (.int .i64 r_4) := (blk_cell BR.out 4).trans rfl; have hcgr5 : w7.cell? ⟨gr, 5, none⟩ = some (.int .i64 r_5) := (blk_cell BR.out 5).trans rfl; have hfgr0 := blk_frozen BR.out 0; have hfgr1 := blk_frozen BR.out 1; have hfgr2 := blk_frozen BR.out 2; have hfgr3 := blk_frozen BR.out 3; have hfgr4 := blk_frozen BR.out 4; have hfgr5 := blk_frozen BR.out 5) | (go_at_call 17; (with_reducible refine (impl_Step_field.callsj gs (bt z x) 5 hj _).mono ?_); rintro e w' ⟨rfl, ⟨nd, rfl⟩⟩) | (go_at_call 17; (with_reducible refine (impl_Step_field.callsj gr (bt z x) 5 hj _).mono ?_); rintro e w' ⟨rfl, ⟨nd, rfl⟩⟩) | (go_at_call 16; (with_reducible refine (impl_in.calls a0_5 lo hi true _ A6.out).mono ?_); rintro e w' ⟨rfl, ⟨nd, rfl⟩⟩))
              go_roundg k1
              case measure => have := HK1.out; omega
              case rel => exact ⟨wrap64 (x + 1), zr_ 1 5 r_1, zr_ 2 5 r_2, zr_ 3 5 r_3, zr_ 4 5 r_4, zr_ 5 5 r_5, (by first | rfl | (simp; done) | (simp [*]; done)), H', ⟨by have := HK1.out; omega⟩, ⟨by (with_reducible repeat (first | refine blk_drewN ?_ _ | refine blk_drew ?_ | refine blk_alloc ?_ _)); refine blk_far ?_ NE.out _; (with_reducible repeat (first | refine blk_drewN ?_ _ | refine blk_drew ?_ | refine blk_alloc ?_ _)); exact BS.out⟩, ⟨by (with_reducible repeat (first | refine blk_drewN ?_ _ | refine blk_drew ?_ | refine blk_alloc ?_ _)); refine blk_put (cs := #[.int .i64 0, .int .i64 r_1, .int .i64 r_2, .int .i64 r_3, .int .i64 r_4, .int .i64 r_5]) ?_ 5 _ rfl; (with_reducible repeat (first | refine blk_drewN ?_ _ | refine blk_drew ?_ | refine blk_alloc ?_ _)); exact BR.out⟩, ⟨by repeat (first | (with_reducible first | exact HB.out | apply below_alloc | apply pw_below_drewN | apply below_drew1 | refine below_set ?_ GS.out | refine below_set ?_ GR.out) | exact HB.out)⟩⟩
            | false =>
              have h' : false = r := by simpa using h
              subst h'
              clear h
              go_wp2_with (first | (go_at_call 14; (with_reducible refine (impl_fields.calls k a0_0 z _ G0.out).mono ?_); rintro e w' ⟨rfl, ⟨nd, rfl⟩⟩) | (go_at_call 15; (with_reducible refine (impl_Step_ranges.calls k1 a0_0 a0_1 a0_2 a0_3 a0_4 a0_5 (bt z x) lo hi _ A5.out).mono ?_); rintro e w7 ⟨rfl, hb⟩; have ngs_ := Aside0.mk (blk_below (g := gs) (o := .cells #[.int .i64 a0_0, .int .i64 a0_1, .int .i64 a0_2, .int .i64 a0_3, .int .i64 a0_4, .int .i64 a0_5] 26 (0, 0)) (by (with_reducible repeat (first | refine blk_drewN ?_ _ | refine blk_drew ?_ | refine blk_alloc ?_ _)); exact BS.out) hb); have ngr_ := Aside0.mk (blk_below (g := gr) (o := .cells #[.int .i64 0, .int .i64 r_1, .int .i64 r_2, .int .i64 r_3, .int .i64 r_4, .int .i64 r_5] 26 (0, 0)) (by (with_reducible repeat (first | refine blk_drewN ?_ _ | refine blk_drew ?_ | refine blk_alloc ?_ _)); exact BR.out) hb); have nb_ := Aside0.mk (below_step (by repeat (first | (with_reducible first | exact HB.out | apply below_alloc | apply pw_below_drewN | apply below_drew1 | refine below_set ?_ GS.out | refine below_set ?_ GR.out) | exact HB.out)) hb); clear BS BR HB; clear hcgs0 hfgs0 hcgs1 hfgs1 hcgs2 hfgs2 hcgs3 hfgs3 hcgs4 hfgs4 hcgs5 hfgs5; have BS := ngs_; have BR := ngr_; have HB := nb_; clear ngs_ ngr_ nb_ hb; have hcgs0 : w7.cell? ⟨gs, 0, none⟩ = some (.int .i64 a0_0) := (blk_cell BS.out 0).trans rfl; have hcgs1 : w7.cell? ⟨gs, 1, none⟩ = some (.int .i64 a0_1) := (blk_cell BS.out 1).trans rfl; have hcgs2 : w7.cell? ⟨gs, 2, none⟩ = some (.int .i64 a0_2) := (blk_cell BS.out 2).trans rfl; have hcgs3 : w7.cell? ⟨gs, 3, none⟩ = some (.int .i64 a0_3) := (blk_cell BS.out 3).trans rfl; have hcgs4 : w7.cell? ⟨gs, 4, none⟩ = some (.int .i64 a0_4) := (blk_cell BS.out 4).trans rfl; have hcgs5 : w7.cell? ⟨gs, 5, none⟩ = some (.int .i64 a0_5) := (blk_cell BS.out 5).trans rfl; have hfgs0 := blk_frozen BS.out 0; have hfgs1 := blk_frozen BS.out 1; have hfgs2 := blk_frozen BS.out 2; have hfgs3 := blk_frozen BS.out 3; have hfgs4 := blk_frozen BS.out 4; have hfgs5 := blk_frozen BS.out 5; have hcgr0 : w7.cell? ⟨gr, 0, none⟩ = some (.int .i64 0) := (blk_cell BR.out 0).trans rfl; have hcgr1 : w7.cell? ⟨gr, 1, none⟩ = some (.int .i64 r_1) := (blk_cell BR.out 1).trans rfl; have hcgr2 : w7.cell? ⟨gr, 2, none⟩ = some (.int .i64 r_2) := (blk_cell BR.out 2).trans rfl; have hcgr3 : w7.cell? ⟨gr, 3, none⟩ = some (.int .i64 r_3) := (blk_cell BR.out 3).trans rfl; have hcgr4 : w7.cell? ⟨gr, 4, none⟩ = some (.int .i64 r_4) := (blk_cell BR.out 4).trans rfl; have hcgr5 : w7.cell? ⟨gr, 5, none⟩ = some (.int .i64 r_5) := (blk_cell BR.out 5).trans rfl; have hfgr0 := blk_frozen BR.out 0; have hfgr1 := blk_frozen BR.out 1; have hfgr2 := blk_frozen BR.out 2; have hfgr3 := blk_frozen BR.out 3; have hfgr4 := blk_frozen BR.out 4; have hfgr5 := blk_frozen BR.out 5) | (go_at_call 17; (with_reducible refine (impl_Step_field.callsj gs (bt z x) 5 hj _).mono ?_); rintro e w' ⟨rfl, ⟨nd, rfl⟩⟩) | (go_at_call 16; (with_reducible refine (impl_in.calls a0_5 lo hi false _ A6.out).mono ?_); rintro e w' ⟨rfl, ⟨nd, rfl⟩⟩))
              go_ret
              exact ⟨by first | rfl | (simp; done) | (simp [*]; done), by repeat (first | (with_reducible first | exact HB.out | apply below_alloc | apply pw_below_drewN | apply below_drew1 | refine below_set ?_ GS.out | refine below_set ?_ GR.out) | exact HB.out)⟩
        · rw [if_neg c4] at h
          exact absurd h (by simp)
      · have c3b : decide (x < (z.size : Int)) = false := decide_eq_false c3
        rw [if_neg c3] at h
        clear c3
        replace h := Option.bind_eq_some_iff.mp h
        obtain ⟨t, A6', h⟩ := h
        have A6 := Aside0.mk A6'
        clear A6'
        have hcgs0 : wr.cell? ⟨gs, 0, none⟩ = some (.int .i64 a0_0) := (blk_cell BS.out 0).trans rfl
        have hcgs1 : wr.cell? ⟨gs, 1, none⟩ = some (.int .i64 a0_1) := (blk_cell BS.out 1).trans rfl
        have hcgs2 : wr.cell? ⟨gs, 2, none⟩ = some (.int .i64 a0_2) := (blk_cell BS.out 2).trans rfl
        have hcgs3 : wr.cell? ⟨gs, 3, none⟩ = some (.int .i64 a0_3) := (blk_cell BS.out 3).trans rfl
        have hcgs4 : wr.cell? ⟨gs, 4, none⟩ = some (.int .i64 a0_4) := (blk_cell BS.out 4).trans rfl
        have hcgs5 : wr.cell? ⟨gs, 5, none⟩ = some (.int .i64 a0_5) := (blk_cell BS.out 5).trans rfl
        have hfgs0 := blk_frozen BS.out 0
        have hfgs1 := blk_frozen BS.out 1
        have hfgs2 := blk_frozen BS.out 2
        have hfgs3 := blk_frozen BS.out 3
        have hfgs4 := blk_frozen BS.out 4
        have hfgs5 := blk_frozen BS.out 5
        have hcgr0 : wr.cell? ⟨gr, 0, none⟩ = some (.int .i64 0) := (blk_cell BR.out 0).trans rfl
        have hcgr1 : wr.cell? ⟨gr, 1, none⟩ = some (.int .i64 r_1) := (blk_cell BR.out 1).trans rfl
        have hcgr2 : wr.cell? ⟨gr, 2, none⟩ = some (.int .i64 r_2) := (blk_cell BR.out 2).trans rfl
        have hcgr3 : wr.cell? ⟨gr, 3, none⟩ = some (.int .i64 r_3) := (blk_cell BR.out 3).trans rfl
        have hcgr4 : wr.cell? ⟨gr, 4, none⟩ = some (.int .i64 r_4) := (blk_cell BR.out 4).trans rfl
        have hcgr5 : wr.cell? ⟨gr, 5, none⟩ = some (.int .i64 r_5) := (blk_cell BR.out 5).trans rfl
        have hfgr0 := blk_frozen BR.out 0
        have hfgr1 := blk_frozen BR.out 1
        have hfgr2 := blk_frozen BR.out 2
        have hfgr3 := blk_frozen BR.out 3
        have hfgr4 := blk_frozen BR.out 4
        have hfgr5 := blk_frozen BR.out 5
        cases t with
        | true =>
          rw [if_pos rfl] at h
          have hr := Option.some.inj h
          clear h
          have hr' := Aside0.mk hr
          clear hr
          go_wp2_with (go_at_call 16; (with_reducible refine (impl_in.calls a0_0 1 11 true _ A6.out).mono ?_); rintro e w' ⟨rfl, ⟨nd, rfl⟩⟩)
          all_goals
            go_ret
            exact ⟨by rw [← hr'.out]; (first | rfl | (simp; done) | (simp [*]; done)), by repeat (first | (with_reducible first | exact HB.out | apply below_alloc | apply pw_below_drewN | apply below_drew1 | refine below_set ?_ GS.out | refine below_set ?_ GR.out) | exact HB.out)⟩
        | false =>
          have h' : false = r := by simpa using h
          subst h'
          clear h
          go_wp2_with (go_at_call 16; (with_reducible refine (impl_in.calls a0_0 1 11 false _ A6.out).mono ?_); rintro e w' ⟨rfl, ⟨nd, rfl⟩⟩)
          go_ret
          exact ⟨by first | rfl | (simp; done) | (simp [*]; done), by repeat (first | (with_reducible first | exact HB.out | apply below_alloc | apply pw_below_drewN | apply below_drew1 | refine below_set ?_ GS.out | refine below_set ?_ GR.out) | exact HB.out)⟩


/-! ### strconv_Itoa: function 18 -/
-- IMPORT Derived.Shelf.Strconv.Itoa3
-- IMPORT Derived.Shelf.Lay
-- IMPORT Derived.Ground.NamesProg
-- IMPORT Derived.Lib.AppendIntMem
def Tryd.laysItoa_ren : Go.Shelf.Ren := ⟨fun | 171 => 18 | 243 => 19 | 246 => 20 | 283 => 21 | 284 => 22 | 285 => 23 | 286 => 24 | 129 => 26 | 317 => 25 | 318 => 27 | 319 => 28 | 320 => 29 | 337 => 30 | 338 => 31 | n => n, fun | 3 => 3 | 9 => 9 | 2 => 2 | 4 => 4 | 171 => 44 | 0 => 0 | 53 => 45 | 37 => 37 | 5 => 5 | 173 => 48 | 212 => 52 | 51 => 53 | 20 => 20 | 213 => 54 | 46 => 55 | 232 => 58 | 233 => 59 | n => n, fun | 17 => 0 | 18 => 1 | 19 => 2 | n => n⟩
theorem Tryd.laysItoa : Go.Proofs.LaysM.n171 Tryd.prog Tryd.laysItoa_ren := {
  mixed := by kernel_rfl
  f129 := Tryd.func26.trans (congrArg some (by kernel_rfl))
  f171 := Tryd.func18.trans (congrArg some (by kernel_rfl))
  f243 := Tryd.func19.trans (congrArg some (by kernel_rfl))
  f246 := Tryd.func20.trans (congrArg some (by kernel_rfl))
  f283 := Tryd.func21.trans (congrArg some (by kernel_rfl))
  f284 := Tryd.func22.trans (congrArg some (by kernel_rfl))
  f285 := Tryd.func23.trans (congrArg some (by kernel_rfl))
  f286 := Tryd.func24.trans (congrArg some (by kernel_rfl))
  f317 := Tryd.func25.trans (congrArg some (by kernel_rfl))
  f318 := Tryd.func27.trans (congrArg some (by kernel_rfl))
  f319 := Tryd.func28.trans (congrArg some (by kernel_rfl))
  f320 := Tryd.func29.trans (congrArg some (by kernel_rfl))
  f337 := Tryd.func30.trans (congrArg some (by kernel_rfl))
  f338 := Tryd.func31.trans (congrArg some (by kernel_rfl))
  t0 := Tryd.underlying0
  a0 := Tryd.isAgg0
  z0 := Tryd.sizeOf0
  v0 := Tryd.zeroValue0
  t2 := Tryd.underlying2
  a2 := Tryd.isAgg2
  z2 := Tryd.sizeOf2
  v2 := Tryd.zeroValue2
  t3 := Tryd.underlying3
  a3 := Tryd.isAgg3
  z3 := Tryd.sizeOf3
  v3 := Tryd.zeroValue3
  t4 := Tryd.underlying4
  a4 := Tryd.isAgg4
  z4 := Tryd.sizeOf4
  v4 := Tryd.zeroValue4
  t5 := Tryd.underlying5
  a5 := Tryd.isAgg5
  z5 := Tryd.sizeOf5
  v5 := Tryd.zeroValue5
  t9 := Tryd.underlying9
  a9 := Tryd.isAgg9
  z9 := Tryd.sizeOf9
  v9 := Tryd.zeroValue9
  t20 := Tryd.underlying20
  a20 := Tryd.isAgg20
  z20 := Tryd.sizeOf20
  v20 := Tryd.zeroValue20
  t37 := Tryd.underlying37
  a37 := Tryd.isAgg37
  z37 := Tryd.sizeOf37
  v37 := Tryd.zeroValue37
  t46 := Tryd.underlying55
  a46 := Tryd.isAgg55
  z46 := Tryd.sizeOf55
  v46 := Tryd.zeroValue55
  t51 := Tryd.underlying53
  a51 := Tryd.isAgg53
  z51 := Tryd.sizeOf53
  v51 := Tryd.zeroValue53
  t53 := Tryd.underlying45
  a53 := Tryd.isAgg45
  z53 := Tryd.sizeOf45
  v53 := Tryd.zeroValue45
  t171 := Tryd.underlying44
  a171 := Tryd.isAgg44
  z171 := Tryd.sizeOf44
  v171 := Tryd.zeroValue44
  t173 := Tryd.underlying48
  a173 := Tryd.isAgg48
  z173 := Tryd.sizeOf48
  v173 := Tryd.zeroValue48
  t212 := Tryd.underlying52
  a212 := Tryd.isAgg52
  z212 := Tryd.sizeOf52
  v212 := Tryd.zeroValue52
  t213 := Tryd.underlying54
  a213 := Tryd.isAgg54
  z213 := Tryd.sizeOf54
  t232 := Tryd.underlying58
  a232 := Tryd.isAgg58
  z232 := Tryd.sizeOf58
  v232 := Tryd.zeroValue58
  t233 := Tryd.underlying59
  a233 := Tryd.isAgg59
  z233 := Tryd.sizeOf59
  v233 := Tryd.zeroValue59
  g17 := by kernel_rfl
  g18 := by kernel_rfl
  g19 := by kernel_rfl
  i0 := by kernel_rfl
  i2 := by kernel_rfl
  i3 := by kernel_rfl
  i4 := by kernel_rfl
  i5 := by kernel_rfl
  i9 := by kernel_rfl
  i20 := by kernel_rfl
  i37 := by kernel_rfl
  i46 := by kernel_rfl
  i51 := by kernel_rfl
  i53 := by kernel_rfl
  i171 := by kernel_rfl
  i173 := by kernel_rfl
  i212 := by kernel_rfl
  i232 := by kernel_rfl
  i233 := by kernel_rfl
  m17 := by kernel_rfl
  m18 := by kernel_rfl
  m19 := by kernel_rfl }
def TabP_ (w : World) : Prop := Lib.TabIs Tryd.prog w "internal/strconv.uint64pow10" .u64 Lib.pow10Tab
theorem strconv_Itoa_.calls (n : Int) (h0 : -9223372036854775808 ≤ n) (h1 : n ≤ 9223372036854775807) (w : World) (htab : TabP_ w) :
    Calls Tryd.prog 18 #[.int .i64 n] w fun e w' => e = .returned (.string ⟨(Lib.itoa n).toArray⟩) ∧ Below w.heap.size w w' := by
  refine (Any.strconv_Itoa Tryd.laysItoa n h0 h1 w htab).mono fun e w' h => ?_
  obtain ⟨he, k, os, rfl⟩ := h
  exact ⟨he, Lib.below_grow _ w (Nat.le_refl _) k os⟩


end Go.Proofs.YtjopmdogdmdanaaDoor.PFnExactStepText
