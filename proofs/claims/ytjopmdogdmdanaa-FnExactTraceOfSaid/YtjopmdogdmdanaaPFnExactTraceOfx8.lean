-- Made by a program of this session (wip/tools), which leans on the kit's print: checked by Lean alone.
import Derived.Test.YtjopmdogdmdanaaPFnExactTraceOfx0
import Derived.Test.YtjopmdogdmdanaaPFnExactTraceOfx7
namespace Go.Proofs.Ytjopmdogdmdanaa.PFnExactTraceOf
open Go.RowKit Go.Proofs.YtjopmdogdmdanaaW.PrintWords Go.Proofs.YtjopmdogdmdanaaW.PrintLast Go.Proofs.YtjopmdogdmdanaaW.PrintMore
attribute [local go_sem] max2_int min2_int max_two min_two max_three min_three max_four min_four   -- for this text's walks alone
set_option linter.unusedVariables false
set_option linter.unusedSimpArgs false
def fieldAt_ (a : Int) : Nat := if a = 111 then 1 else if a = 100 then 2 else if a = 115 then 3 else if a = 105 then 4 else 5
theorem fieldAt_lt (a : Int) : fieldAt_ a < 6 := by
 unfold fieldAt_
 repeat' split
 all_goals omega
set_option maxHeartbeats 1000000 in
set_option maxRecDepth 100000 in
theorem impl_Step_field.calls (b : Nat) (a1 : Int) (w : World) :
  Calls Try.prog 82 #[.pointer (some ⟨b, 0, none⟩), .int .u8 a1] w fun e w' => e = .returned (.pointer (some ⟨b, fieldAt_ a1, none⟩)) ∧ Drawn0 w w' := by
 unfold fieldAt_
 by_cases c0 : a1 = 111
 ·rw [if_pos c0]
  have d0 : (a1 == 111) = true := beq_iff_eq.mpr c0
  clear c0
  go_enter Try.func82, Try.ntmps82
  go_wp2
  go_ret
  exact ⟨by first | rfl | (simp; done) | (simp [*]; done), by repeat (first | exact Drawn0.refl _ | apply Drawn0.step)⟩
 rw [if_neg c0]
 have d0 : (a1 == 111) = false := beq_eq_false_iff_ne.mpr c0
 clear c0
 by_cases c1 : a1 = 100
 ·rw [if_pos c1]
  have d1 : (a1 == 100) = true := beq_iff_eq.mpr c1
  clear c1
  go_enter Try.func82, Try.ntmps82
  go_wp2
  go_ret
  exact ⟨by first | rfl | (simp; done) | (simp [*]; done), by repeat (first | exact Drawn0.refl _ | apply Drawn0.step)⟩
 rw [if_neg c1]
 have d1 : (a1 == 100) = false := beq_eq_false_iff_ne.mpr c1
 clear c1
 by_cases c2 : a1 = 115
 ·rw [if_pos c2]
  have d2 : (a1 == 115) = true := beq_iff_eq.mpr c2
  clear c2
  go_enter Try.func82, Try.ntmps82
  go_wp2
  go_ret
  exact ⟨by first | rfl | (simp; done) | (simp [*]; done), by repeat (first | exact Drawn0.refl _ | apply Drawn0.step)⟩
 rw [if_neg c2]
 have d2 : (a1 == 115) = false := beq_eq_false_iff_ne.mpr c2
 clear c2
 by_cases c3 : a1 = 105
 ·rw [if_pos c3]
  have d3 : (a1 == 105) = true := beq_iff_eq.mpr c3
  clear c3
  go_enter Try.func82, Try.ntmps82
  go_wp2
  go_ret
  exact ⟨by first | rfl | (simp; done) | (simp [*]; done), by repeat (first | exact Drawn0.refl _ | apply Drawn0.step)⟩
 rw [if_neg c3]
 have d3 : (a1 == 105) = false := beq_eq_false_iff_ne.mpr c3
 clear c3
 go_enter Try.func82, Try.ntmps82
 go_wp2
 go_ret
 exact ⟨by first | rfl | (simp; done) | (simp [*]; done), by repeat (first | exact Drawn0.refl _ | apply Drawn0.step)⟩
theorem impl_Step_field.callsj (b : Nat) (a1 : Int) (j : Nat) (hj : fieldAt_ a1 = j) (w : World) :
  Calls Try.prog 82 #[.pointer (some ⟨b, 0, none⟩), .int .u8 a1] w fun e w' => e = .returned (.pointer (some ⟨b, j, none⟩)) ∧ Drawn0 w w' := by
 subst hj
 exact impl_Step_field.calls b a1 w
def fld_ (a0_0: Int) (a0_1: Int) (a0_2: Int) (a0_3: Int) (a0_4: Int) (a0_5: Int) : Nat → Int
 | 0 => a0_0
 | 1 => a0_1
 | 2 => a0_2
 | 3 => a0_3
 | 4 => a0_4
 | _ => a0_5
def zr_ (i j : Nat) (r : Int) : Int := if j = i then 0 else r
theorem fieldAt_cases (a : Int) : fieldAt_ a = 1 ∨ fieldAt_ a = 2 ∨ fieldAt_ a = 3 ∨ fieldAt_ a = 4 ∨ fieldAt_ a = 5 := by
 unfold fieldAt_
 repeat' split
 all_goals simp
def impl_Step_valid.l0 : Nat → Int → Int → Int → Int → Int → Int → ByteArray → Int → Int → Int → Int → Int → Int → Option Bool
 | 0, _, _, _, _, _, _, _, _, _, _, _, _, _ => none
 | k + 1, a0_0, a0_1, a0_2, a0_3, a0_4, a0_5, z, r_1, r_2, r_3, r_4, r_5, x => if x < (z.size : Int) then (if 0 ≤ x then ((impl_Step_ranges.f k a0_0 a0_1 a0_2 a0_3 a0_4 a0_5 (bt z x)).bind fun p => ((impl_in.f (fld_ a0_0 a0_1 a0_2 a0_3 a0_4 a0_5 (fieldAt_ (bt z x))) p.1 p.2).bind fun t => if t = true then impl_Step_valid.l0 k a0_0 a0_1 a0_2 a0_3 a0_4 a0_5 z (zr_ 1 (fieldAt_ (bt z x)) r_1) (zr_ 2 (fieldAt_ (bt z x)) r_2) (zr_ 3 (fieldAt_ (bt z x)) r_3) (zr_ 4 (fieldAt_ (bt z x)) r_4) (zr_ 5 (fieldAt_ (bt z x)) r_5) (wrap64 (x + 1)) else some false)) else none) else ((impl_in.f a0_0 1 11).bind fun t => if t = true then some (decide (r_1 = 0 ∧ r_2 = 0 ∧ r_3 = 0 ∧ r_4 = 0 ∧ r_5 = 0)) else some false)
def impl_Step_valid.f (k : Nat) (a0_0 : Int) (a0_1 : Int) (a0_2 : Int) (a0_3 : Int) (a0_4 : Int) (a0_5 : Int) : Option Bool := (impl_fields.f k a0_0).bind fun z => impl_Step_valid.l0 k a0_0 a0_1 a0_2 a0_3 a0_4 a0_5 z a0_1 a0_2 a0_3 a0_4 a0_5 0
theorem impl_Step_valid.mono_l : ∀ k, (∀ y0 y1 y2 y3 y4 y5 y6 y7 y8 y9 y10 y11 y12, LeO (impl_Step_valid.l0 k y0 y1 y2 y3 y4 y5 y6 y7 y8 y9 y10 y11 y12) (impl_Step_valid.l0 (k + 1) y0 y1 y2 y3 y4 y5 y6 y7 y8 y9 y10 y11 y12))
 | 0 => fun _ _ _ _ _ _ _ _ _ _ _ _ _ r h => by simp [impl_Step_valid.l0] at h
 | k + 1 => by
  have ih0 := impl_Step_valid.mono_l k
  intro y0 y1 y2 y3 y4 y5 y6 y7 y8 y9 y10 y11 y12
  unfold impl_Step_valid.l0
  repeat' first
  | (with_reducible exact ih0 _ _ _ _ _ _ _ _ _ _ _ _ _)
  | (with_reducible exact impl_Step_ranges.mono _ _ _ _ _ _ _ _)
  | (with_reducible exact LeO.refl _)
  | (with_reducible exact LeO.none _)
  | (with_reducible refine LeO.ite ?_ ?_)
  | (with_reducible refine LeO.bind ?_ (fun _ => ?_))
theorem impl_Step_valid.mono : ∀ a0 a1 a2 a3 a4 a5 k, LeO (impl_Step_valid.f k a0 a1 a2 a3 a4 a5) (impl_Step_valid.f (k + 1) a0 a1 a2 a3 a4 a5) := by
 intro a0 a1 a2 a3 a4 a5 k
 have ih0 := impl_Step_valid.mono_l k
 unfold impl_Step_valid.f
 repeat' first
 | (with_reducible exact ih0 _ _ _ _ _ _ _ _ _ _ _ _ _)
 | (with_reducible exact impl_fields.mono _ _)
 | (with_reducible exact LeO.refl _)
 | (with_reducible refine LeO.bind ?_ (fun _ => ?_))
set_option maxHeartbeats 1000000 in
set_option maxRecDepth 100000 in
theorem impl_Step_valid.calls (k : Nat) (a0_0 : Int) (a0_1 : Int) (a0_2 : Int) (a0_3 : Int) (a0_4 : Int) (a0_5 : Int) (r : Bool) (w : World) (h : impl_Step_valid.f k a0_0 a0_1 a0_2 a0_3 a0_4 a0_5 = some r) :
  Calls Try.prog 56 #[.agg #[.int .i64 a0_0, .int .i64 a0_1, .int .i64 a0_2, .int .i64 a0_3, .int .i64 a0_4, .int .i64 a0_5]] w fun e w' => e = .returned (.bool r) ∧ Below w.heap.size w w' := by
 have hu26 := Try.underlying26
 have HB := Aside0.mk (Below.refl w.heap.size w)
 unfold impl_Step_valid.f at h
 replace h := Option.bind_eq_some_iff.mp h
 obtain ⟨z, G0', h⟩ := h
 have G0 := Aside0.mk G0'
 have G1 := Aside0.mk h
 clear h G0'
 go_enter Try.func56, Try.ntmps56
 go_upto_region 3 with (first | ((with_reducible refine gate_dst (N := 1) rfl ?_); refine box_event ?hg (N := 1) ?hd (cs := #[.int .i64 a0_0, .int .i64 a0_1, .int .i64 a0_2, .int .i64 a0_3, .int .i64 a0_4, .int .i64 a0_5]) (t := 26) ?hr ?_; (case hd => rfl); (case hg => rfl); (case hr => first | (go_simp; done) | (go_simp; rfl)); intro gs hg w4 hbox hb; have n0_ := Aside0.mk (below_step (by repeat (first | (with_reducible first | exact HB.out | apply ba_ | apply bn_ | apply bd_ | refine bs_ ?_ GS.out | refine bs_ ?_ GR.out) | exact HB.out)) hb); have n1_ := Aside0.mk hbox; have n2_ := Aside0.mk ((by rw [hg]; exact (below_size (by repeat (first | (with_reducible first | exact HB.out | apply ba_ | apply bn_ | apply bd_ | refine bs_ ?_ GS.out | refine bs_ ?_ GR.out) | exact HB.out))) : w.heap.size ≤ gs)); clear HB; have HB := n0_; have BS := n1_; have GS := n2_; clear n0_ n1_ n2_ hb hg hbox; have hcgs0 : w4.cell? ⟨gs, 0, none⟩ = some (.int .i64 a0_0) := (blk_cell BS.out 0).trans rfl; have hcgs1 : w4.cell? ⟨gs, 1, none⟩ = some (.int .i64 a0_1) := (blk_cell BS.out 1).trans rfl; have hcgs2 : w4.cell? ⟨gs, 2, none⟩ = some (.int .i64 a0_2) := (blk_cell BS.out 2).trans rfl; have hcgs3 : w4.cell? ⟨gs, 3, none⟩ = some (.int .i64 a0_3) := (blk_cell BS.out 3).trans rfl; have hcgs4 : w4.cell? ⟨gs, 4, none⟩ = some (.int .i64 a0_4) := (blk_cell BS.out 4).trans rfl; have hcgs5 : w4.cell? ⟨gs, 5, none⟩ = some (.int .i64 a0_5) := (blk_cell BS.out 5).trans rfl; have hfgs0 := blk_frozen BS.out 0; have hfgs1 := blk_frozen BS.out 1; have hfgs2 := blk_frozen BS.out 2; have hfgs3 := blk_frozen BS.out 3; have hfgs4 := blk_frozen BS.out 4; have hfgs5 := blk_frozen BS.out 5))
 obtain ⟨w5, hw5⟩ : ∃ w5, w5 = w4.alloc (.cells #[.int .i64 0, .int .i64 a0_1, .int .i64 a0_2, .int .i64 a0_3, .int .i64 a0_4, .int .i64 a0_5] 26 (0, 0)) := ⟨_, rfl⟩
 obtain ⟨gr, hgr⟩ : ∃ g, g = w4.heap.size := ⟨_, rfl⟩
 have n0_ := Aside0.mk (show w5.heap[gs]? = some (.cells #[.int .i64 a0_0, .int .i64 a0_1, .int .i64 a0_2, .int .i64 a0_3, .int .i64 a0_4, .int .i64 a0_5] 26 (0, 0)) by subst hw5; exact blk_alloc BS.out _)
 have n1_ := Aside0.mk (show w5.heap[gr]? = some (.cells #[.int .i64 0, .int .i64 a0_1, .int .i64 a0_2, .int .i64 a0_3, .int .i64 a0_4, .int .i64 a0_5] 26 (0, 0)) by subst hw5 hgr; exact blk_new w4 _)
 have n2_ := Aside0.mk (show Below w.heap.size w w5 by subst hw5; exact below_alloc HB.out _)
 have GR := Aside0.mk (show w.heap.size ≤ gr by subst hgr; exact below_size HB.out)
 have NE := Aside0.mk (show gs ≠ gr by subst hgr; have := blk_lt BS.out; omega)
 rw [← hw5, ← hgr]
 clear hw5 hgr BS HB hcgs0 hfgs0 hcgs1 hfgs1 hcgs2 hfgs2 hcgs3 hfgs3 hcgs4 hfgs4 hcgs5 hfgs5
 have BS := n0_
 have BR := n1_
 have HB := n2_
 clear n0_ n1_ n2_
 have hcgs0 : w5.cell? ⟨gs, 0, none⟩ = some (.int .i64 a0_0) := (blk_cell BS.out 0).trans rfl
 have hcgs1 : w5.cell? ⟨gs, 1, none⟩ = some (.int .i64 a0_1) := (blk_cell BS.out 1).trans rfl
 have hcgs2 : w5.cell? ⟨gs, 2, none⟩ = some (.int .i64 a0_2) := (blk_cell BS.out 2).trans rfl
 have hcgs3 : w5.cell? ⟨gs, 3, none⟩ = some (.int .i64 a0_3) := (blk_cell BS.out 3).trans rfl
 have hcgs4 : w5.cell? ⟨gs, 4, none⟩ = some (.int .i64 a0_4) := (blk_cell BS.out 4).trans rfl
 have hcgs5 : w5.cell? ⟨gs, 5, none⟩ = some (.int .i64 a0_5) := (blk_cell BS.out 5).trans rfl
 have hfgs0 := blk_frozen BS.out 0
 have hfgs1 := blk_frozen BS.out 1
 have hfgs2 := blk_frozen BS.out 2
 have hfgs3 := blk_frozen BS.out 3
 have hfgs4 := blk_frozen BS.out 4
 have hfgs5 := blk_frozen BS.out 5
 go_wp2_with (go_at_call 80; (with_reducible refine (impl_fields.calls k a0_0 z _ G0.out).mono ?_); rintro e w' ⟨rfl, ⟨nd, rfl⟩⟩)
 go_loopg [4, 5, 6, 7, 14] k (fun kq v4 v5 v6 v7 v14 w' => ∃ (x r_1 r_2 r_3 r_4 r_5 : Int), v14 = .int .i64 x ∧ Aside0 (impl_Step_valid.l0 kq a0_0 a0_1 a0_2 a0_3 a0_4 a0_5 z r_1 r_2 r_3 r_4 r_5 x = some r) ∧ Aside0 (kq ≤ k) ∧ Aside0 (w'.heap[gs]? = some (.cells #[.int .i64 a0_0, .int .i64 a0_1, .int .i64 a0_2, .int .i64 a0_3, .int .i64 a0_4, .int .i64 a0_5] 26 (0, 0))) ∧ Aside0 (w'.heap[gr]? = some (.cells #[.int .i64 0, .int .i64 r_1, .int .i64 r_2, .int .i64 r_3, .int .i64 r_4, .int .i64 r_5] 26 (0, 0))) ∧ Aside0 (Below w.heap.size w w'))
 case atStart => exact ⟨0, a0_1, a0_2, a0_3, a0_4, a0_5, rfl, G1, ⟨Nat.le_refl _⟩, ⟨zO_ BS.out⟩, ⟨zO_ BR.out⟩, ⟨by repeat (first | (with_reducible first | exact HB.out | apply ba_ | apply bn_ | apply bd_ | refine bs_ ?_ GS.out | refine bs_ ?_ GR.out) | exact HB.out)⟩⟩
 case round =>
  clear G1 BS BR HB hcgs0 hfgs0 hcgs1 hfgs1 hcgs2 hfgs2 hcgs3 hfgs3 hcgs4 hfgs4 hcgs5 hfgs5
  obtain ⟨x, r_1, r_2, r_3, r_4, r_5, rfl, HA, HK1, BS, BR, HB⟩ := hrel
  cases gk with
  | zero => exact absurd HA.out (by simp [impl_Step_valid.l0])
  | succ k1 =>
   have h := HA.out
   clear HA
   simp only [impl_Step_valid.l0] at h
   by_cases c3 : x < (z.size : Int)
   ·have c3b : decide (x < (z.size : Int)) = true := decide_eq_true c3
    rw [if_pos c3] at h
    by_cases c4 : 0 ≤ x
    ·rw [if_pos c4] at h
     have p6 := eq_true c4
     have q6 := eq_true c3
     have hx6 := bt_at z x
     clear c3 c4
     replace h := Option.bind_eq_some_iff.mp h
     obtain ⟨⟨lo, hi⟩, A5', h⟩ := h
     have A5 := Aside0.mk A5'
     clear A5'
     replace h := Option.bind_eq_some_iff.mp h
     obtain ⟨t, A6', h⟩ := h
     have A6 := Aside0.mk A6'
     clear A6'
     have hj := fieldAt_cases (bt z x)
     have hcgs0 : wr.cell? ⟨gs, 0, none⟩ = some (.int .i64 a0_0) := (blk_cell BS.out 0).trans rfl
     have hcgs1 : wr.cell? ⟨gs, 1, none⟩ = some (.int .i64 a0_1) := (blk_cell BS.out 1).trans rfl
     have hcgs2 : wr.cell? ⟨gs, 2, none⟩ = some (.int .i64 a0_2) := (blk_cell BS.out 2).trans rfl
     have hcgs3 : wr.cell? ⟨gs, 3, none⟩ = some (.int .i64 a0_3) := (blk_cell BS.out 3).trans rfl
     have hcgs4 : wr.cell? ⟨gs, 4, none⟩ = some (.int .i64 a0_4) := (blk_cell BS.out 4).trans rfl
     have hcgs5 : wr.cell? ⟨gs, 5, none⟩ = some (.int .i64 a0_5) := (blk_cell BS.out 5).trans rfl
     have hfgs0 := blk_frozen BS.out 0
     have hfgs1 := blk_frozen BS.out 1
     have hfgs2 := blk_frozen BS.out 2
     have hfgs3 := blk_frozen BS.out 3
     have hfgs4 := blk_frozen BS.out 4
     have hfgs5 := blk_frozen BS.out 5
     rcases hj with hj | hj | hj | hj | hj
     ·replace A6 : Aside0 (impl_in.f a0_1 lo hi = some t) := ⟨by have := A6.out; rw [hj] at this; exact this⟩
      rw [hj] at h
      cases t with
      | true =>
       have H' := Aside0.mk h
       clear h
       go_wp2_with (first | (go_at_call 80; (with_reducible refine (impl_fields.calls k a0_0 z _ G0.out).mono ?_); rintro e w' ⟨rfl, ⟨nd, rfl⟩⟩) | (go_at_call 81; (with_reducible refine (impl_Step_ranges.calls k1 a0_0 a0_1 a0_2 a0_3 a0_4 a0_5 (bt z x) lo hi _ A5.out).mono ?_); rintro e w7 ⟨rfl, hb⟩; have ngs_ := Aside0.mk (blk_below (g := gs) (o := .cells #[.int .i64 a0_0, .int .i64 a0_1, .int .i64 a0_2, .int .i64 a0_3, .int .i64 a0_4, .int .i64 a0_5] 26 (0, 0)) (zO_ BS.out) hb); have ngr_ := Aside0.mk (blk_below (g := gr) (o := .cells #[.int .i64 0, .int .i64 r_1, .int .i64 r_2, .int .i64 r_3, .int .i64 r_4, .int .i64 r_5] 26 (0, 0)) (zO_ BR.out) hb); have nb_ := Aside0.mk (below_step (by repeat (first | (with_reducible first | exact HB.out | apply ba_ | apply bn_ | apply bd_ | refine bs_ ?_ GS.out | refine bs_ ?_ GR.out) | exact HB.out)) hb); clear BS BR HB; clear hcgs0 hfgs0 hcgs1 hfgs1 hcgs2 hfgs2 hcgs3 hfgs3 hcgs4 hfgs4 hcgs5 hfgs5; have BS := ngs_; have BR := ngr_; have HB := nb_; clear ngs_ ngr_ nb_ hb; have hcgs0 : w7.cell? ⟨gs, 0, none⟩ = some (.int .i64 a0_0) := (blk_cell BS.out 0).trans rfl; have hcgs1 : w7.cell? ⟨gs, 1, none⟩ = some (.int .i64 a0_1) := (blk_cell BS.out 1).trans rfl; have hcgs2 : w7.cell? ⟨gs, 2, none⟩ = some (.int .i64 a0_2) := (blk_cell BS.out 2).trans rfl; have hcgs3 : w7.cell? ⟨gs, 3, none⟩ = some (.int .i64 a0_3) := (blk_cell BS.out 3).trans rfl; have hcgs4 : w7.cell? ⟨gs, 4, none⟩ = some (.int .i64 a0_4) := (blk_cell BS.out 4).trans rfl; have hcgs5 : w7.cell? ⟨gs, 5, none⟩ = some (.int .i64 a0_5) := (blk_cell BS.out 5).trans rfl; have hfgs0 := blk_frozen BS.out 0; have hfgs1 := blk_frozen BS.out 1; have hfgs2 := blk_frozen BS.out 2; have hfgs3 := blk_frozen BS.out 3; have hfgs4 := blk_frozen BS.out 4; have hfgs5 := blk_frozen BS.out 5; have hcgr0 : w7.cell? ⟨gr, 0, none⟩ = some (.int .i64 0) := (blk_cell BR.out 0).trans rfl; have hcgr1 : w7.cell? ⟨gr, 1, none⟩ = some (.int .i64 r_1) := (blk_cell BR.out 1).trans rfl; have hcgr2 : w7.cell? ⟨gr, 2, none⟩ = some (.int .i64 r_2) := (blk_cell BR.out 2).trans rfl; have hcgr3 : w7.cell? ⟨gr, 3, none⟩ = some (.int .i64 r_3) := (blk_cell BR.out 3).trans rfl; have hcgr4 : w7.cell? ⟨gr, 4, none⟩ = some (.int .i64 r_4) := (blk_cell BR.out 4).trans rfl; have hcgr5 : w7.cell? ⟨gr, 5, none⟩ = some (.int .i64 r_5) := (blk_cell BR.out 5).trans rfl; have hfgr0 := blk_frozen BR.out 0; have hfgr1 := blk_frozen BR.out 1; have hfgr2 := blk_frozen BR.out 2; have hfgr3 := blk_frozen BR.out 3; have hfgr4 := blk_frozen BR.out 4; have hfgr5 := blk_frozen BR.out 5) | (go_at_call 82; (with_reducible refine (impl_Step_field.callsj gs (bt z x) 1 hj _).mono ?_); rintro e w' ⟨rfl, ⟨nd, rfl⟩⟩) | (go_at_call 82; (with_reducible refine (impl_Step_field.callsj gr (bt z x) 1 hj _).mono ?_); rintro e w' ⟨rfl, ⟨nd, rfl⟩⟩) | (go_at_call 59; (with_reducible refine (impl_in.calls a0_1 lo hi true _ A6.out).mono ?_); rintro e w' ⟨rfl, ⟨nd, rfl⟩⟩))
       go_roundg k1
       case measure => have := HK1.out; omega
       case rel => exact ⟨wrap64 (x + 1), zr_ 1 1 r_1, zr_ 2 1 r_2, zr_ 3 1 r_3, zr_ 4 1 r_4, zr_ 5 1 r_5, (by first | rfl | (simp; done) | (simp [*]; done)), H', ⟨by have := HK1.out; omega⟩, ⟨by (with_reducible repeat (first | refine on_ ?_ _ | refine od_ ?_ | refine oa_ ?_ _)); refine blk_far ?_ NE.out _; (with_reducible repeat (first | refine on_ ?_ _ | refine od_ ?_ | refine oa_ ?_ _)); exact BS.out⟩, ⟨by (with_reducible repeat (first | refine on_ ?_ _ | refine od_ ?_ | refine oa_ ?_ _)); refine blk_put (cs := #[.int .i64 0, .int .i64 r_1, .int .i64 r_2, .int .i64 r_3, .int .i64 r_4, .int .i64 r_5]) ?_ 1 _ rfl; (with_reducible repeat (first | refine on_ ?_ _ | refine od_ ?_ | refine oa_ ?_ _)); exact BR.out⟩, ⟨by repeat (first | (with_reducible first | exact HB.out | apply ba_ | apply bn_ | apply bd_ | refine bs_ ?_ GS.out | refine bs_ ?_ GR.out) | exact HB.out)⟩⟩
      | false =>
       have h' : false = r := by simpa using h
       subst h'
       clear h
       go_wp2_with (first | (go_at_call 80; (with_reducible refine (impl_fields.calls k a0_0 z _ G0.out).mono ?_); rintro e w' ⟨rfl, ⟨nd, rfl⟩⟩) | (go_at_call 81; (with_reducible refine (impl_Step_ranges.calls k1 a0_0 a0_1 a0_2 a0_3 a0_4 a0_5 (bt z x) lo hi _ A5.out).mono ?_); rintro e w7 ⟨rfl, hb⟩; have ngs_ := Aside0.mk (blk_below (g := gs) (o := .cells #[.int .i64 a0_0, .int .i64 a0_1, .int .i64 a0_2, .int .i64 a0_3, .int .i64 a0_4, .int .i64 a0_5] 26 (0, 0)) (zO_ BS.out) hb); have ngr_ := Aside0.mk (blk_below (g := gr) (o := .cells #[.int .i64 0, .int .i64 r_1, .int .i64 r_2, .int .i64 r_3, .int .i64 r_4, .int .i64 r_5] 26 (0, 0)) (zO_ BR.out) hb); have nb_ := Aside0.mk (below_step (by repeat (first | (with_reducible first | exact HB.out | apply ba_ | apply bn_ | apply bd_ | refine bs_ ?_ GS.out | refine bs_ ?_ GR.out) | exact HB.out)) hb); clear BS BR HB; clear hcgs0 hfgs0 hcgs1 hfgs1 hcgs2 hfgs2 hcgs3 hfgs3 hcgs4 hfgs4 hcgs5 hfgs5; have BS := ngs_; have BR := ngr_; have HB := nb_; clear ngs_ ngr_ nb_ hb; have hcgs0 : w7.cell? ⟨gs, 0, none⟩ = some (.int .i64 a0_0) := (blk_cell BS.out 0).trans rfl; have hcgs1 : w7.cell? ⟨gs, 1, none⟩ = some (.int .i64 a0_1) := (blk_cell BS.out 1).trans rfl; have hcgs2 : w7.cell? ⟨gs, 2, none⟩ = some (.int .i64 a0_2) := (blk_cell BS.out 2).trans rfl; have hcgs3 : w7.cell? ⟨gs, 3, none⟩ = some (.int .i64 a0_3) := (blk_cell BS.out 3).trans rfl; have hcgs4 : w7.cell? ⟨gs, 4, none⟩ = some (.int .i64 a0_4) := (blk_cell BS.out 4).trans rfl; have hcgs5 : w7.cell? ⟨gs, 5, none⟩ = some (.int .i64 a0_5) := (blk_cell BS.out 5).trans rfl; have hfgs0 := blk_frozen BS.out 0; have hfgs1 := blk_frozen BS.out 1; have hfgs2 := blk_frozen BS.out 2; have hfgs3 := blk_frozen BS.out 3; have hfgs4 := blk_frozen BS.out 4; have hfgs5 := blk_frozen BS.out 5; have hcgr0 : w7.cell? ⟨gr, 0, none⟩ = some (.int .i64 0) := (blk_cell BR.out 0).trans rfl; have hcgr1 : w7.cell? ⟨gr, 1, none⟩ = some (.int .i64 r_1) := (blk_cell BR.out 1).trans rfl; have hcgr2 : w7.cell? ⟨gr, 2, none⟩ = some (.int .i64 r_2) := (blk_cell BR.out 2).trans rfl; have hcgr3 : w7.cell? ⟨gr, 3, none⟩ = some (.int .i64 r_3) := (blk_cell BR.out 3).trans rfl; have hcgr4 : w7.cell? ⟨gr, 4, none⟩ = some (.int .i64 r_4) := (blk_cell BR.out 4).trans rfl; have hcgr5 : w7.cell? ⟨gr, 5, none⟩ = some (.int .i64 r_5) := (blk_cell BR.out 5).trans rfl; have hfgr0 := blk_frozen BR.out 0; have hfgr1 := blk_frozen BR.out 1; have hfgr2 := blk_frozen BR.out 2; have hfgr3 := blk_frozen BR.out 3; have hfgr4 := blk_frozen BR.out 4; have hfgr5 := blk_frozen BR.out 5) | (go_at_call 82; (with_reducible refine (impl_Step_field.callsj gs (bt z x) 1 hj _).mono ?_); rintro e w' ⟨rfl, ⟨nd, rfl⟩⟩) | (go_at_call 59; (with_reducible refine (impl_in.calls a0_1 lo hi false _ A6.out).mono ?_); rintro e w' ⟨rfl, ⟨nd, rfl⟩⟩))
       go_ret
       exact ⟨by first | rfl | (simp; done) | (simp [*]; done), by repeat (first | (with_reducible first | exact HB.out | apply ba_ | apply bn_ | apply bd_ | refine bs_ ?_ GS.out | refine bs_ ?_ GR.out) | exact HB.out)⟩
     ·replace A6 : Aside0 (impl_in.f a0_2 lo hi = some t) := ⟨by have := A6.out; rw [hj] at this; exact this⟩
      rw [hj] at h
      cases t with
      | true =>
       have H' := Aside0.mk h
       clear h
       go_wp2_with (first | (go_at_call 80; (with_reducible refine (impl_fields.calls k a0_0 z _ G0.out).mono ?_); rintro e w' ⟨rfl, ⟨nd, rfl⟩⟩) | (go_at_call 81; (with_reducible refine (impl_Step_ranges.calls k1 a0_0 a0_1 a0_2 a0_3 a0_4 a0_5 (bt z x) lo hi _ A5.out).mono ?_); rintro e w7 ⟨rfl, hb⟩; have ngs_ := Aside0.mk (blk_below (g := gs) (o := .cells #[.int .i64 a0_0, .int .i64 a0_1, .int .i64 a0_2, .int .i64 a0_3, .int .i64 a0_4, .int .i64 a0_5] 26 (0, 0)) (zO_ BS.out) hb); have ngr_ := Aside0.mk (blk_below (g := gr) (o := .cells #[.int .i64 0, .int .i64 r_1, .int .i64 r_2, .int .i64 r_3, .int .i64 r_4, .int .i64 r_5] 26 (0, 0)) (zO_ BR.out) hb); have nb_ := Aside0.mk (below_step (by repeat (first | (with_reducible first | exact HB.out | apply ba_ | apply bn_ | apply bd_ | refine bs_ ?_ GS.out | refine bs_ ?_ GR.out) | exact HB.out)) hb); clear BS BR HB; clear hcgs0 hfgs0 hcgs1 hfgs1 hcgs2 hfgs2 hcgs3 hfgs3 hcgs4 hfgs4 hcgs5 hfgs5; have BS := ngs_; have BR := ngr_; have HB := nb_; clear ngs_ ngr_ nb_ hb; have hcgs0 : w7.cell? ⟨gs, 0, none⟩ = some (.int .i64 a0_0) := (blk_cell BS.out 0).trans rfl; have hcgs1 : w7.cell? ⟨gs, 1, none⟩ = some (.int .i64 a0_1) := (blk_cell BS.out 1).trans rfl; have hcgs2 : w7.cell? ⟨gs, 2, none⟩ = some (.int .i64 a0_2) := (blk_cell BS.out 2).trans rfl; have hcgs3 : w7.cell? ⟨gs, 3, none⟩ = some (.int .i64 a0_3) := (blk_cell BS.out 3).trans rfl; have hcgs4 : w7.cell? ⟨gs, 4, none⟩ = some (.int .i64 a0_4) := (blk_cell BS.out 4).trans rfl; have hcgs5 : w7.cell? ⟨gs, 5, none⟩ = some (.int .i64 a0_5) := (blk_cell BS.out 5).trans rfl; have hfgs0 := blk_frozen BS.out 0; have hfgs1 := blk_frozen BS.out 1; have hfgs2 := blk_frozen BS.out 2; have hfgs3 := blk_frozen BS.out 3; have hfgs4 := blk_frozen BS.out 4; have hfgs5 := blk_frozen BS.out 5; have hcgr0 : w7.cell? ⟨gr, 0, none⟩ = some (.int .i64 0) := (blk_cell BR.out 0).trans rfl; have hcgr1 : w7.cell? ⟨gr, 1, none⟩ = some (.int .i64 r_1) := (blk_cell BR.out 1).trans rfl; have hcgr2 : w7.cell? ⟨gr, 2, none⟩ = some (.int .i64 r_2) := (blk_cell BR.out 2).trans rfl; have hcgr3 : w7.cell? ⟨gr, 3, none⟩ = some (.int .i64 r_3) := (blk_cell BR.out 3).trans rfl; have hcgr4 : w7.cell? ⟨gr, 4, none⟩ = some (.int .i64 r_4) := (blk_cell BR.out 4).trans rfl; have hcgr5 : w7.cell? ⟨gr, 5, none⟩ = some (.int .i64 r_5) := (blk_cell BR.out 5).trans rfl; have hfgr0 := blk_frozen BR.out 0; have hfgr1 := blk_frozen BR.out 1; have hfgr2 := blk_frozen BR.out 2; have hfgr3 := blk_frozen BR.out 3; have hfgr4 := blk_frozen BR.out 4; have hfgr5 := blk_frozen BR.out 5) | (go_at_call 82; (with_reducible refine (impl_Step_field.callsj gs (bt z x) 2 hj _).mono ?_); rintro e w' ⟨rfl, ⟨nd, rfl⟩⟩) | (go_at_call 82; (with_reducible refine (impl_Step_field.callsj gr (bt z x) 2 hj _).mono ?_); rintro e w' ⟨rfl, ⟨nd, rfl⟩⟩) | (go_at_call 59; (with_reducible refine (impl_in.calls a0_2 lo hi true _ A6.out).mono ?_); rintro e w' ⟨rfl, ⟨nd, rfl⟩⟩))
       go_roundg k1
       case measure => have := HK1.out; omega
       case rel => exact ⟨wrap64 (x + 1), zr_ 1 2 r_1, zr_ 2 2 r_2, zr_ 3 2 r_3, zr_ 4 2 r_4, zr_ 5 2 r_5, (by first | rfl | (simp; done) | (simp [*]; done)), H', ⟨by have := HK1.out; omega⟩, ⟨by (with_reducible repeat (first | refine on_ ?_ _ | refine od_ ?_ | refine oa_ ?_ _)); refine blk_far ?_ NE.out _; (with_reducible repeat (first | refine on_ ?_ _ | refine od_ ?_ | refine oa_ ?_ _)); exact BS.out⟩, ⟨by (with_reducible repeat (first | refine on_ ?_ _ | refine od_ ?_ | refine oa_ ?_ _)); refine blk_put (cs := #[.int .i64 0, .int .i64 r_1, .int .i64 r_2, .int .i64 r_3, .int .i64 r_4, .int .i64 r_5]) ?_ 2 _ rfl; (with_reducible repeat (first | refine on_ ?_ _ | refine od_ ?_ | refine oa_ ?_ _)); exact BR.out⟩, ⟨by repeat (first | (with_reducible first | exact HB.out | apply ba_ | apply bn_ | apply bd_ | refine bs_ ?_ GS.out | refine bs_ ?_ GR.out) | exact HB.out)⟩⟩
      | false =>
       have h' : false = r := by simpa using h
       subst h'
       clear h
       go_wp2_with (first | (go_at_call 80; (with_reducible refine (impl_fields.calls k a0_0 z _ G0.out).mono ?_); rintro e w' ⟨rfl, ⟨nd, rfl⟩⟩) | (go_at_call 81; (with_reducible refine (impl_Step_ranges.calls k1 a0_0 a0_1 a0_2 a0_3 a0_4 a0_5 (bt z x) lo hi _ A5.out).mono ?_); rintro e w7 ⟨rfl, hb⟩; have ngs_ := Aside0.mk (blk_below (g := gs) (o := .cells #[.int .i64 a0_0, .int .i64 a0_1, .int .i64 a0_2, .int .i64 a0_3, .int .i64 a0_4, .int .i64 a0_5] 26 (0, 0)) (zO_ BS.out) hb); have ngr_ := Aside0.mk (blk_below (g := gr) (o := .cells #[.int .i64 0, .int .i64 r_1, .int .i64 r_2, .int .i64 r_3, .int .i64 r_4, .int .i64 r_5] 26 (0, 0)) (zO_ BR.out) hb); have nb_ := Aside0.mk (below_step (by repeat (first | (with_reducible first | exact HB.out | apply ba_ | apply bn_ | apply bd_ | refine bs_ ?_ GS.out | refine bs_ ?_ GR.out) | exact HB.out)) hb); clear BS BR HB; clear hcgs0 hfgs0 hcgs1 hfgs1 hcgs2 hfgs2 hcgs3 hfgs3 hcgs4 hfgs4 hcgs5 hfgs5; have BS := ngs_; have BR := ngr_; have HB := nb_; clear ngs_ ngr_ nb_ hb; have hcgs0 : w7.cell? ⟨gs, 0, none⟩ = some (.int .i64 a0_0) := (blk_cell BS.out 0).trans rfl; have hcgs1 : w7.cell? ⟨gs, 1, none⟩ = some (.int .i64 a0_1) := (blk_cell BS.out 1).trans rfl; have hcgs2 : w7.cell? ⟨gs, 2, none⟩ = some (.int .i64 a0_2) := (blk_cell BS.out 2).trans rfl; have hcgs3 : w7.cell? ⟨gs, 3, none⟩ = some (.int .i64 a0_3) := (blk_cell BS.out 3).trans rfl; have hcgs4 : w7.cell? ⟨gs, 4, none⟩ = some (.int .i64 a0_4) := (blk_cell BS.out 4).trans rfl; have hcgs5 : w7.cell? ⟨gs, 5, none⟩ = some (.int .i64 a0_5) := (blk_cell BS.out 5).trans rfl; have hfgs0 := blk_frozen BS.out 0; have hfgs1 := blk_frozen BS.out 1; have hfgs2 := blk_frozen BS.out 2; have hfgs3 := blk_frozen BS.out 3; have hfgs4 := blk_frozen BS.out 4; have hfgs5 := blk_frozen BS.out 5; have hcgr0 : w7.cell? ⟨gr, 0, none⟩ = some (.int .i64 0) := (blk_cell BR.out 0).trans rfl; have hcgr1 : w7.cell? ⟨gr, 1, none⟩ = some (.int .i64 r_1) := (blk_cell BR.out 1).trans rfl; have hcgr2 : w7.cell? ⟨gr, 2, none⟩ = some (.int .i64 r_2) := (blk_cell BR.out 2).trans rfl; have hcgr3 : w7.cell? ⟨gr, 3, none⟩ = some (.int .i64 r_3) := (blk_cell BR.out 3).trans rfl; have hcgr4 : w7.cell? ⟨gr, 4, none⟩ = some (.int .i64 r_4) := (blk_cell BR.out 4).trans rfl; have hcgr5 : w7.cell? ⟨gr, 5, none⟩ = some (.int .i64 r_5) := (blk_cell BR.out 5).trans rfl; have hfgr0 := blk_frozen BR.out 0; have hfgr1 := blk_frozen BR.out 1; have hfgr2 := blk_frozen BR.out 2; have hfgr3 := blk_frozen BR.out 3; have hfgr4 := blk_frozen BR.out 4; have hfgr5 := blk_frozen BR.out 5) | (go_at_call 82; (with_reducible refine (impl_Step_field.callsj gs (bt z x) 2 hj _).mono ?_); rintro e w' ⟨rfl, ⟨nd, rfl⟩⟩) | (go_at_call 59; (with_reducible refine (impl_in.calls a0_2 lo hi false _ A6.out).mono ?_); rintro e w' ⟨rfl, ⟨nd, rfl⟩⟩))
       go_ret
       exact ⟨by first | rfl | (simp; done) | (simp [*]; done), by repeat (first | (with_reducible first | exact HB.out | apply ba_ | apply bn_ | apply bd_ | refine bs_ ?_ GS.out | refine bs_ ?_ GR.out) | exact HB.out)⟩
     ·replace A6 : Aside0 (impl_in.f a0_3 lo hi = some t) := ⟨by have := A6.out; rw [hj] at this; exact this⟩
      rw [hj] at h
      cases t with
      | true =>
       have H' := Aside0.mk h
       clear h
       go_wp2_with (first | (go_at_call 80; (with_reducible refine (impl_fields.calls k a0_0 z _ G0.out).mono ?_); rintro e w' ⟨rfl, ⟨nd, rfl⟩⟩) | (go_at_call 81; (with_reducible refine (impl_Step_ranges.calls k1 a0_0 a0_1 a0_2 a0_3 a0_4 a0_5 (bt z x) lo hi _ A5.out).mono ?_); rintro e w7 ⟨rfl, hb⟩; have ngs_ := Aside0.mk (blk_below (g := gs) (o := .cells #[.int .i64 a0_0, .int .i64 a0_1, .int .i64 a0_2, .int .i64 a0_3, .int .i64 a0_4, .int .i64 a0_5] 26 (0, 0)) (zO_ BS.out) hb); have ngr_ := Aside0.mk (blk_below (g := gr) (o := .cells #[.int .i64 0, .int .i64 r_1, .int .i64 r_2, .int .i64 r_3, .int .i64 r_4, .int .i64 r_5] 26 (0, 0)) (zO_ BR.out) hb); have nb_ := Aside0.mk (below_step (by repeat (first | (with_reducible first | exact HB.out | apply ba_ | apply bn_ | apply bd_ | refine bs_ ?_ GS.out | refine bs_ ?_ GR.out) | exact HB.out)) hb); clear BS BR HB; clear hcgs0 hfgs0 hcgs1 hfgs1 hcgs2 hfgs2 hcgs3 hfgs3 hcgs4 hfgs4 hcgs5 hfgs5; have BS := ngs_; have BR := ngr_; have HB := nb_; clear ngs_ ngr_ nb_ hb; have hcgs0 : w7.cell? ⟨gs, 0, none⟩ = some (.int .i64 a0_0) := (blk_cell BS.out 0).trans rfl; have hcgs1 : w7.cell? ⟨gs, 1, none⟩ = some (.int .i64 a0_1) := (blk_cell BS.out 1).trans rfl; have hcgs2 : w7.cell? ⟨gs, 2, none⟩ = some (.int .i64 a0_2) := (blk_cell BS.out 2).trans rfl; have hcgs3 : w7.cell? ⟨gs, 3, none⟩ = some (.int .i64 a0_3) := (blk_cell BS.out 3).trans rfl; have hcgs4 : w7.cell? ⟨gs, 4, none⟩ = some (.int .i64 a0_4) := (blk_cell BS.out 4).trans rfl; have hcgs5 : w7.cell? ⟨gs, 5, none⟩ = some (.int .i64 a0_5) := (blk_cell BS.out 5).trans rfl; have hfgs0 := blk_frozen BS.out 0; have hfgs1 := blk_frozen BS.out 1; have hfgs2 := blk_frozen BS.out 2; have hfgs3 := blk_frozen BS.out 3; have hfgs4 := blk_frozen BS.out 4; have hfgs5 := blk_frozen BS.out 5; have hcgr0 : w7.cell? ⟨gr, 0, none⟩ = some (.int .i64 0) := (blk_cell BR.out 0).trans rfl; have hcgr1 : w7.cell? ⟨gr, 1, none⟩ = some (.int .i64 r_1) := (blk_cell BR.out 1).trans rfl; have hcgr2 : w7.cell? ⟨gr, 2, none⟩ = some (.int .i64 r_2) := (blk_cell BR.out 2).trans rfl; have hcgr3 : w7.cell? ⟨gr, 3, none⟩ = some (.int .i64 r_3) := (blk_cell BR.out 3).trans rfl; have hcgr4 : w7.cell? ⟨gr, 4, none⟩ = some (.int .i64 r_4) := (blk_cell BR.out 4).trans rfl; have hcgr5 : w7.cell? ⟨gr, 5, none⟩ = some (.int .i64 r_5) := (blk_cell BR.out 5).trans rfl; have hfgr0 := blk_frozen BR.out 0; have hfgr1 := blk_frozen BR.out 1; have hfgr2 := blk_frozen BR.out 2; have hfgr3 := blk_frozen BR.out 3; have hfgr4 := blk_frozen BR.out 4; have hfgr5 := blk_frozen BR.out 5) | (go_at_call 82; (with_reducible refine (impl_Step_field.callsj gs (bt z x) 3 hj _).mono ?_); rintro e w' ⟨rfl, ⟨nd, rfl⟩⟩) | (go_at_call 82; (with_reducible refine (impl_Step_field.callsj gr (bt z x) 3 hj _).mono ?_); rintro e w' ⟨rfl, ⟨nd, rfl⟩⟩) | (go_at_call 59; (with_reducible refine (impl_in.calls a0_3 lo hi true _ A6.out).mono ?_); rintro e w' ⟨rfl, ⟨nd, rfl⟩⟩))
       go_roundg k1
       case measure => have := HK1.out; omega
       case rel => exact ⟨wrap64 (x + 1), zr_ 1 3 r_1, zr_ 2 3 r_2, zr_ 3 3 r_3, zr_ 4 3 r_4, zr_ 5 3 r_5, (by first | rfl | (simp; done) | (simp [*]; done)), H', ⟨by have := HK1.out; omega⟩, ⟨by (with_reducible repeat (first | refine on_ ?_ _ | refine od_ ?_ | refine oa_ ?_ _)); refine blk_far ?_ NE.out _; (with_reducible repeat (first | refine on_ ?_ _ | refine od_ ?_ | refine oa_ ?_ _)); exact BS.out⟩, ⟨by (with_reducible repeat (first | refine on_ ?_ _ | refine od_ ?_ | refine oa_ ?_ _)); refine blk_put (cs := #[.int .i64 0, .int .i64 r_1, .int .i64 r_2, .int .i64 r_3, .int .i64 r_4, .int .i64 r_5]) ?_ 3 _ rfl; (with_reducible repeat (first | refine on_ ?_ _ | refine od_ ?_ | refine oa_ ?_ _)); exact BR.out⟩, ⟨by repeat (first | (with_reducible first | exact HB.out | apply ba_ | apply bn_ | apply bd_ | refine bs_ ?_ GS.out | refine bs_ ?_ GR.out) | exact HB.out)⟩⟩
      | false =>
       have h' : false = r := by simpa using h
       subst h'
       clear h
       go_wp2_with (first | (go_at_call 80; (with_reducible refine (impl_fields.calls k a0_0 z _ G0.out).mono ?_); rintro e w' ⟨rfl, ⟨nd, rfl⟩⟩) | (go_at_call 81; (with_reducible refine (impl_Step_ranges.calls k1 a0_0 a0_1 a0_2 a0_3 a0_4 a0_5 (bt z x) lo hi _ A5.out).mono ?_); rintro e w7 ⟨rfl, hb⟩; have ngs_ := Aside0.mk (blk_below (g := gs) (o := .cells #[.int .i64 a0_0, .int .i64 a0_1, .int .i64 a0_2, .int .i64 a0_3, .int .i64 a0_4, .int .i64 a0_5] 26 (0, 0)) (zO_ BS.out) hb); have ngr_ := Aside0.mk (blk_below (g := gr) (o := .cells #[.int .i64 0, .int .i64 r_1, .int .i64 r_2, .int .i64 r_3, .int .i64 r_4, .int .i64 r_5] 26 (0, 0)) (zO_ BR.out) hb); have nb_ := Aside0.mk (below_step (by repeat (first | (with_reducible first | exact HB.out | apply ba_ | apply bn_ | apply bd_ | refine bs_ ?_ GS.out | refine bs_ ?_ GR.out) | exact HB.out)) hb); clear BS BR HB; clear hcgs0 hfgs0 hcgs1 hfgs1 hcgs2 hfgs2 hcgs3 hfgs3 hcgs4 hfgs4 hcgs5 hfgs5; have BS := ngs_; have BR := ngr_; have HB := nb_; clear ngs_ ngr_ nb_ hb; have hcgs0 : w7.cell? ⟨gs, 0, none⟩ = some (.int .i64 a0_0) := (blk_cell BS.out 0).trans rfl; have hcgs1 : w7.cell? ⟨gs, 1, none⟩ = some (.int .i64 a0_1) := (blk_cell BS.out 1).trans rfl; have hcgs2 : w7.cell? ⟨gs, 2, none⟩ = some (.int .i64 a0_2) := (blk_cell BS.out 2).trans rfl; have hcgs3 : w7.cell? ⟨gs, 3, none⟩ = some (.int .i64 a0_3) := (blk_cell BS.out 3).trans rfl; have hcgs4 : w7.cell? ⟨gs, 4, none⟩ = some (.int .i64 a0_4) := (blk_cell BS.out 4).trans rfl; have hcgs5 : w7.cell? ⟨gs, 5, none⟩ = some (.int .i64 a0_5) := (blk_cell BS.out 5).trans rfl; have hfgs0 := blk_frozen BS.out 0; have hfgs1 := blk_frozen BS.out 1; have hfgs2 := blk_frozen BS.out 2; have hfgs3 := blk_frozen BS.out 3; have hfgs4 := blk_frozen BS.out 4; have hfgs5 := blk_frozen BS.out 5; have hcgr0 : w7.cell? ⟨gr, 0, none⟩ = some (.int .i64 0) := (blk_cell BR.out 0).trans rfl; have hcgr1 : w7.cell? ⟨gr, 1, none⟩ = some (.int .i64 r_1) := (blk_cell BR.out 1).trans rfl; have hcgr2 : w7.cell? ⟨gr, 2, none⟩ = some (.int .i64 r_2) := (blk_cell BR.out 2).trans rfl; have hcgr3 : w7.cell? ⟨gr, 3, none⟩ = some (.int .i64 r_3) := (blk_cell BR.out 3).trans rfl; have hcgr4 : w7.cell? ⟨gr, 4, none⟩ = some (.int .i64 r_4) := (blk_cell BR.out 4).trans rfl; have hcgr5 : w7.cell? ⟨gr, 5, none⟩ = some (.int .i64 r_5) := (blk_cell BR.out 5).trans rfl; have hfgr0 := blk_frozen BR.out 0; have hfgr1 := blk_frozen BR.out 1; have hfgr2 := blk_frozen BR.out 2; have hfgr3 := blk_frozen BR.out 3; have hfgr4 := blk_frozen BR.out 4; have hfgr5 := blk_frozen BR.out 5) | (go_at_call 82; (with_reducible refine (impl_Step_field.callsj gs (bt z x) 3 hj _).mono ?_); rintro e w' ⟨rfl, ⟨nd, rfl⟩⟩) | (go_at_call 59; (with_reducible refine (impl_in.calls a0_3 lo hi false _ A6.out).mono ?_); rintro e w' ⟨rfl, ⟨nd, rfl⟩⟩))
       go_ret
       exact ⟨by first | rfl | (simp; done) | (simp [*]; done), by repeat (first | (with_reducible first | exact HB.out | apply ba_ | apply bn_ | apply bd_ | refine bs_ ?_ GS.out | refine bs_ ?_ GR.out) | exact HB.out)⟩
     ·replace A6 : Aside0 (impl_in.f a0_4 lo hi = some t) := ⟨by have := A6.out; rw [hj] at this; exact this⟩
      rw [hj] at h
      cases t with
      | true =>
       have H' := Aside0.mk h
       clear h
       go_wp2_with (first | (go_at_call 80; (with_reducible refine (impl_fields.calls k a0_0 z _ G0.out).mono ?_); rintro e w' ⟨rfl, ⟨nd, rfl⟩⟩) | (go_at_call 81; (with_reducible refine (impl_Step_ranges.calls k1 a0_0 a0_1 a0_2 a0_3 a0_4 a0_5 (bt z x) lo hi _ A5.out).mono ?_); rintro e w7 ⟨rfl, hb⟩; have ngs_ := Aside0.mk (blk_below (g := gs) (o := .cells #[.int .i64 a0_0, .int .i64 a0_1, .int .i64 a0_2, .int .i64 a0_3, .int .i64 a0_4, .int .i64 a0_5] 26 (0, 0)) (zO_ BS.out) hb); have ngr_ := Aside0.mk (blk_below (g := gr) (o := .cells #[.int .i64 0, .int .i64 r_1, .int .i64 r_2, .int .i64 r_3, .int .i64 r_4, .int .i64 r_5] 26 (0, 0)) (zO_ BR.out) hb); have nb_ := Aside0.mk (below_step (by repeat (first | (with_reducible first | exact HB.out | apply ba_ | apply bn_ | apply bd_ | refine bs_ ?_ GS.out | refine bs_ ?_ GR.out) | exact HB.out)) hb); clear BS BR HB; clear hcgs0 hfgs0 hcgs1 hfgs1 hcgs2 hfgs2 hcgs3 hfgs3 hcgs4 hfgs4 hcgs5 hfgs5; have BS := ngs_; have BR := ngr_; have HB := nb_; clear ngs_ ngr_ nb_ hb; have hcgs0 : w7.cell? ⟨gs, 0, none⟩ = some (.int .i64 a0_0) := (blk_cell BS.out 0).trans rfl; have hcgs1 : w7.cell? ⟨gs, 1, none⟩ = some (.int .i64 a0_1) := (blk_cell BS.out 1).trans rfl; have hcgs2 : w7.cell? ⟨gs, 2, none⟩ = some (.int .i64 a0_2) := (blk_cell BS.out 2).trans rfl; have hcgs3 : w7.cell? ⟨gs, 3, none⟩ = some (.int .i64 a0_3) := (blk_cell BS.out 3).trans rfl; have hcgs4 : w7.cell? ⟨gs, 4, none⟩ = some (.int .i64 a0_4) := (blk_cell BS.out 4).trans rfl; have hcgs5 : w7.cell? ⟨gs, 5, none⟩ = some (.int .i64 a0_5) := (blk_cell BS.out 5).trans rfl; have hfgs0 := blk_frozen BS.out 0; have hfgs1 := blk_frozen BS.out 1; have hfgs2 := blk_frozen BS.out 2; have hfgs3 := blk_frozen BS.out 3; have hfgs4 := blk_frozen BS.out 4; have hfgs5 := blk_frozen BS.out 5; have hcgr0 : w7.cell? ⟨gr, 0, none⟩ = some (.int .i64 0) := (blk_cell BR.out 0).trans rfl; have hcgr1 : w7.cell? ⟨gr, 1, none⟩ = some (.int .i64 r_1) := (blk_cell BR.out 1).trans rfl; have hcgr2 : w7.cell? ⟨gr, 2, none⟩ = some (.int .i64 r_2) := (blk_cell BR.out 2).trans rfl; have hcgr3 : w7.cell? ⟨gr, 3, none⟩ = some (.int .i64 r_3) := (blk_cell BR.out 3).trans rfl; have hcgr4 : w7.cell? ⟨gr, 4, none⟩ = some (.int .i64 r_4) := (blk_cell BR.out 4).trans rfl; have hcgr5 : w7.cell? ⟨gr, 5, none⟩ = some (.int .i64 r_5) := (blk_cell BR.out 5).trans rfl; have hfgr0 := blk_frozen BR.out 0; have hfgr1 := blk_frozen BR.out 1; have hfgr2 := blk_frozen BR.out 2; have hfgr3 := blk_frozen BR.out 3; have hfgr4 := blk_frozen BR.out 4; have hfgr5 := blk_frozen BR.out 5) | (go_at_call 82; (with_reducible refine (impl_Step_field.callsj gs (bt z x) 4 hj _).mono ?_); rintro e w' ⟨rfl, ⟨nd, rfl⟩⟩) | (go_at_call 82; (with_reducible refine (impl_Step_field.callsj gr (bt z x) 4 hj _).mono ?_); rintro e w' ⟨rfl, ⟨nd, rfl⟩⟩) | (go_at_call 59; (with_reducible refine (impl_in.calls a0_4 lo hi true _ A6.out).mono ?_); rintro e w' ⟨rfl, ⟨nd, rfl⟩⟩))
       go_roundg k1
       case measure => have := HK1.out; omega
       case rel => exact ⟨wrap64 (x + 1), zr_ 1 4 r_1, zr_ 2 4 r_2, zr_ 3 4 r_3, zr_ 4 4 r_4, zr_ 5 4 r_5, (by first | rfl | (simp; done) | (simp [*]; done)), H', ⟨by have := HK1.out; omega⟩, ⟨by (with_reducible repeat (first | refine on_ ?_ _ | refine od_ ?_ | refine oa_ ?_ _)); refine blk_far ?_ NE.out _; (with_reducible repeat (first | refine on_ ?_ _ | refine od_ ?_ | refine oa_ ?_ _)); exact BS.out⟩, ⟨by (with_reducible repeat (first | refine on_ ?_ _ | refine od_ ?_ | refine oa_ ?_ _)); refine blk_put (cs := #[.int .i64 0, .int .i64 r_1, .int .i64 r_2, .int .i64 r_3, .int .i64 r_4, .int .i64 r_5]) ?_ 4 _ rfl; (with_reducible repeat (first | refine on_ ?_ _ | refine od_ ?_ | refine oa_ ?_ _)); exact BR.out⟩, ⟨by repeat (first | (with_reducible first | exact HB.out | apply ba_ | apply bn_ | apply bd_ | refine bs_ ?_ GS.out | refine bs_ ?_ GR.out) | exact HB.out)⟩⟩
      | false =>
       have h' : false = r := by simpa using h
       subst h'
       clear h
       go_wp2_with (first | (go_at_call 80; (with_reducible refine (impl_fields.calls k a0_0 z _ G0.out).mono ?_); rintro e w' ⟨rfl, ⟨nd, rfl⟩⟩) | (go_at_call 81; (with_reducible refine (impl_Step_ranges.calls k1 a0_0 a0_1 a0_2 a0_3 a0_4 a0_5 (bt z x) lo hi _ A5.out).mono ?_); rintro e w7 ⟨rfl, hb⟩; have ngs_ := Aside0.mk (blk_below (g := gs) (o := .cells #[.int .i64 a0_0, .int .i64 a0_1, .int .i64 a0_2, .int .i64 a0_3, .int .i64 a0_4, .int .i64 a0_5] 26 (0, 0)) (zO_ BS.out) hb); have ngr_ := Aside0.mk (blk_below (g := gr) (o := .cells #[.int .i64 0, .int .i64 r_1, .int .i64 r_2, .int .i64 r_3, .int .i64 r_4, .int .i64 r_5] 26 (0, 0)) (zO_ BR.out) hb); have nb_ := Aside0.mk (below_step (by repeat (first | (with_reducible first | exact HB.out | apply ba_ | apply bn_ | apply bd_ | refine bs_ ?_ GS.out | refine bs_ ?_ GR.out) | exact HB.out)) hb); clear BS BR HB; clear hcgs0 hfgs0 hcgs1 hfgs1 hcgs2 hfgs2 hcgs3 hfgs3 hcgs4 hfgs4 hcgs5 hfgs5; have BS := ngs_; have BR := ngr_; have HB := nb_; clear ngs_ ngr_ nb_ hb; have hcgs0 : w7.cell? ⟨gs, 0, none⟩ = some (.int .i64 a0_0) := (blk_cell BS.out 0).trans rfl; have hcgs1 : w7.cell? ⟨gs, 1, none⟩ = some (.int .i64 a0_1) := (blk_cell BS.out 1).trans rfl; have hcgs2 : w7.cell? ⟨gs, 2, none⟩ = some (.int .i64 a0_2) := (blk_cell BS.out 2).trans rfl; have hcgs3 : w7.cell? ⟨gs, 3, none⟩ = some (.int .i64 a0_3) := (blk_cell BS.out 3).trans rfl; have hcgs4 : w7.cell? ⟨gs, 4, none⟩ = some (.int .i64 a0_4) := (blk_cell BS.out 4).trans rfl; have hcgs5 : w7.cell? ⟨gs, 5, none⟩ = some (.int .i64 a0_5) := (blk_cell BS.out 5).trans rfl; have hfgs0 := blk_frozen BS.out 0; have hfgs1 := blk_frozen BS.out 1; have hfgs2 := blk_frozen BS.out 2; have hfgs3 := blk_frozen BS.out 3; have hfgs4 := blk_frozen BS.out 4; have hfgs5 := blk_frozen BS.out 5; have hcgr0 : w7.cell? ⟨gr, 0, none⟩ = some (.int .i64 0) := (blk_cell BR.out 0).trans rfl; have hcgr1 : w7.cell? ⟨gr, 1, none⟩ = some (.int .i64 r_1) := (blk_cell BR.out 1).trans rfl; have hcgr2 : w7.cell? ⟨gr, 2, none⟩ = some (.int .i64 r_2) := (blk_cell BR.out 2).trans rfl; have hcgr3 : w7.cell? ⟨gr, 3, none⟩ = some (.int .i64 r_3) := (blk_cell BR.out 3).trans rfl; have hcgr4 : w7.cell? ⟨gr, 4, none⟩ = some (.int .i64 r_4) := (blk_cell BR.out 4).trans rfl; have hcgr5 : w7.cell? ⟨gr, 5, none⟩ = some (.int .i64 r_5) := (blk_cell BR.out 5).trans rfl; have hfgr0 := blk_frozen BR.out 0; have hfgr1 := blk_frozen BR.out 1; have hfgr2 := blk_frozen BR.out 2; have hfgr3 := blk_frozen BR.out 3; have hfgr4 := blk_frozen BR.out 4; have hfgr5 := blk_frozen BR.out 5) | (go_at_call 82; (with_reducible refine (impl_Step_field.callsj gs (bt z x) 4 hj _).mono ?_); rintro e w' ⟨rfl, ⟨nd, rfl⟩⟩) | (go_at_call 59; (with_reducible refine (impl_in.calls a0_4 lo hi false _ A6.out).mono ?_); rintro e w' ⟨rfl, ⟨nd, rfl⟩⟩))
       go_ret
       exact ⟨by first | rfl | (simp; done) | (simp [*]; done), by repeat (first | (with_reducible first | exact HB.out | apply ba_ | apply bn_ | apply bd_ | refine bs_ ?_ GS.out | refine bs_ ?_ GR.out) | exact HB.out)⟩
     ·replace A6 : Aside0 (impl_in.f a0_5 lo hi = some t) := ⟨by have := A6.out; rw [hj] at this; exact this⟩
      rw [hj] at h
      cases t with
      | true =>
       have H' := Aside0.mk h
       clear h
       go_wp2_with (first | (go_at_call 80; (with_reducible refine (impl_fields.calls k a0_0 z _ G0.out).mono ?_); rintro e w' ⟨rfl, ⟨nd, rfl⟩⟩) | (go_at_call 81; (with_reducible refine (impl_Step_ranges.calls k1 a0_0 a0_1 a0_2 a0_3 a0_4 a0_5 (bt z x) lo hi _ A5.out).mono ?_); rintro e w7 ⟨rfl, hb⟩; have ngs_ := Aside0.mk (blk_below (g := gs) (o := .cells #[.int .i64 a0_0, .int .i64 a0_1, .int .i64 a0_2, .int .i64 a0_3, .int .i64 a0_4, .int .i64 a0_5] 26 (0, 0)) (zO_ BS.out) hb); have ngr_ := Aside0.mk (blk_below (g := gr) (o := .cells #[.int .i64 0, .int .i64 r_1, .int .i64 r_2, .int .i64 r_3, .int .i64 r_4, .int .i64 r_5] 26 (0, 0)) (zO_ BR.out) hb); have nb_ := Aside0.mk (below_step (by repeat (first | (with_reducible first | exact HB.out | apply ba_ | apply bn_ | apply bd_ | refine bs_ ?_ GS.out | refine bs_ ?_ GR.out) | exact HB.out)) hb); clear BS BR HB; clear hcgs0 hfgs0 hcgs1 hfgs1 hcgs2 hfgs2 hcgs3 hfgs3 hcgs4 hfgs4 hcgs5 hfgs5; have BS := ngs_; have BR := ngr_; have HB := nb_; clear ngs_ ngr_ nb_ hb; have hcgs0 : w7.cell? ⟨gs, 0, none⟩ = some (.int .i64 a0_0) := (blk_cell BS.out 0).trans rfl; have hcgs1 : w7.cell? ⟨gs, 1, none⟩ = some (.int .i64 a0_1) := (blk_cell BS.out 1).trans rfl; have hcgs2 : w7.cell? ⟨gs, 2, none⟩ = some (.int .i64 a0_2) := (blk_cell BS.out 2).trans rfl; have hcgs3 : w7.cell? ⟨gs, 3, none⟩ = some (.int .i64 a0_3) := (blk_cell BS.out 3).trans rfl; have hcgs4 : w7.cell? ⟨gs, 4, none⟩ = some (.int .i64 a0_4) := (blk_cell BS.out 4).trans rfl; have hcgs5 : w7.cell? ⟨gs, 5, none⟩ = some (.int .i64 a0_5) := (blk_cell BS.out 5).trans rfl; have hfgs0 := blk_frozen BS.out 0; have hfgs1 := blk_frozen BS.out 1; have hfgs2 := blk_frozen BS.out 2; have hfgs3 := blk_frozen BS.out 3; have hfgs4 := blk_frozen BS.out 4; have hfgs5 := blk_frozen BS.out 5; have hcgr0 : w7.cell? ⟨gr, 0, none⟩ = some (.int .i64 0) := (blk_cell BR.out 0).trans rfl; have hcgr1 : w7.cell? ⟨gr, 1, none⟩ = some (.int .i64 r_1) := (blk_cell BR.out 1).trans rfl; have hcgr2 : w7.cell? ⟨gr, 2, none⟩ = some (.int .i64 r_2) := (blk_cell BR.out 2).trans rfl; have hcgr3 : w7.cell? ⟨gr, 3, none⟩ = some (.int .i64 r_3) := (blk_cell BR.out 3).trans rfl; have hcgr4 : w7.cell? ⟨gr, 4, none⟩ = some (.int .i64 r_4) := (blk_cell BR.out 4).trans rfl; have hcgr5 : w7.cell? ⟨gr, 5, none⟩ = some (.int .i64 r_5) := (blk_cell BR.out 5).trans rfl; have hfgr0 := blk_frozen BR.out 0; have hfgr1 := blk_frozen BR.out 1; have hfgr2 := blk_frozen BR.out 2; have hfgr3 := blk_frozen BR.out 3; have hfgr4 := blk_frozen BR.out 4; have hfgr5 := blk_frozen BR.out 5) | (go_at_call 82; (with_reducible refine (impl_Step_field.callsj gs (bt z x) 5 hj _).mono ?_); rintro e w' ⟨rfl, ⟨nd, rfl⟩⟩) | (go_at_call 82; (with_reducible refine (impl_Step_field.callsj gr (bt z x) 5 hj _).mono ?_); rintro e w' ⟨rfl, ⟨nd, rfl⟩⟩) | (go_at_call 59; (with_reducible refine (impl_in.calls a0_5 lo hi true _ A6.out).mono ?_); rintro e w' ⟨rfl, ⟨nd, rfl⟩⟩))
       go_roundg k1
       case measure => have := HK1.out; omega
       case rel => exact ⟨wrap64 (x + 1), zr_ 1 5 r_1, zr_ 2 5 r_2, zr_ 3 5 r_3, zr_ 4 5 r_4, zr_ 5 5 r_5, (by first | rfl | (simp; done) | (simp [*]; done)), H', ⟨by have := HK1.out; omega⟩, ⟨by (with_reducible repeat (first | refine on_ ?_ _ | refine od_ ?_ | refine oa_ ?_ _)); refine blk_far ?_ NE.out _; (with_reducible repeat (first | refine on_ ?_ _ | refine od_ ?_ | refine oa_ ?_ _)); exact BS.out⟩, ⟨by (with_reducible repeat (first | refine on_ ?_ _ | refine od_ ?_ | refine oa_ ?_ _)); refine blk_put (cs := #[.int .i64 0, .int .i64 r_1, .int .i64 r_2, .int .i64 r_3, .int .i64 r_4, .int .i64 r_5]) ?_ 5 _ rfl; (with_reducible repeat (first | refine on_ ?_ _ | refine od_ ?_ | refine oa_ ?_ _)); exact BR.out⟩, ⟨by repeat (first | (with_reducible first | exact HB.out | apply ba_ | apply bn_ | apply bd_ | refine bs_ ?_ GS.out | refine bs_ ?_ GR.out) | exact HB.out)⟩⟩
      | false =>
       have h' : false = r := by simpa using h
       subst h'
       clear h
       go_wp2_with (first | (go_at_call 80; (with_reducible refine (impl_fields.calls k a0_0 z _ G0.out).mono ?_); rintro e w' ⟨rfl, ⟨nd, rfl⟩⟩) | (go_at_call 81; (with_reducible refine (impl_Step_ranges.calls k1 a0_0 a0_1 a0_2 a0_3 a0_4 a0_5 (bt z x) lo hi _ A5.out).mono ?_); rintro e w7 ⟨rfl, hb⟩; have ngs_ := Aside0.mk (blk_below (g := gs) (o := .cells #[.int .i64 a0_0, .int .i64 a0_1, .int .i64 a0_2, .int .i64 a0_3, .int .i64 a0_4, .int .i64 a0_5] 26 (0, 0)) (zO_ BS.out) hb); have ngr_ := Aside0.mk (blk_below (g := gr) (o := .cells #[.int .i64 0, .int .i64 r_1, .int .i64 r_2, .int .i64 r_3, .int .i64 r_4, .int .i64 r_5] 26 (0, 0)) (zO_ BR.out) hb); have nb_ := Aside0.mk (below_step (by repeat (first | (with_reducible first | exact HB.out | apply ba_ | apply bn_ | apply bd_ | refine bs_ ?_ GS.out | refine bs_ ?_ GR.out) | exact HB.out)) hb); clear BS BR HB; clear hcgs0 hfgs0 hcgs1 hfgs1 hcgs2 hfgs2 hcgs3 hfgs3 hcgs4 hfgs4 hcgs5 hfgs5; have BS := ngs_; have BR := ngr_; have HB := nb_; clear ngs_ ngr_ nb_ hb; have hcgs0 : w7.cell? ⟨gs, 0, none⟩ = some (.int .i64 a0_0) := (blk_cell BS.out 0).trans rfl; have hcgs1 : w7.cell? ⟨gs, 1, none⟩ = some (.int .i64 a0_1) := (blk_cell BS.out 1).trans rfl; have hcgs2 : w7.cell? ⟨gs, 2, none⟩ = some (.int .i64 a0_2) := (blk_cell BS.out 2).trans rfl; have hcgs3 : w7.cell? ⟨gs, 3, none⟩ = some (.int .i64 a0_3) := (blk_cell BS.out 3).trans rfl; have hcgs4 : w7.cell? ⟨gs, 4, none⟩ = some (.int .i64 a0_4) := (blk_cell BS.out 4).trans rfl; have hcgs5 : w7.cell? ⟨gs, 5, none⟩ = some (.int .i64 a0_5) := (blk_cell BS.out 5).trans rfl; have hfgs0 := blk_frozen BS.out 0; have hfgs1 := blk_frozen BS.out 1; have hfgs2 := blk_frozen BS.out 2; have hfgs3 := blk_frozen BS.out 3; have hfgs4 := blk_frozen BS.out 4; have hfgs5 := blk_frozen BS.out 5; have hcgr0 : w7.cell? ⟨gr, 0, none⟩ = some (.int .i64 0) := (blk_cell BR.out 0).trans rfl; have hcgr1 : w7.cell? ⟨gr, 1, none⟩ = some (.int .i64 r_1) := (blk_cell BR.out 1).trans rfl; have hcgr2 : w7.cell? ⟨gr, 2, none⟩ = some (.int .i64 r_2) := (blk_cell BR.out 2).trans rfl; have hcgr3 : w7.cell? ⟨gr, 3, none⟩ = some (.int .i64 r_3) := (blk_cell BR.out 3).trans rfl; have hcgr4 : w7.cell? ⟨gr, 4, none⟩ = some (.int .i64 r_4) := (blk_cell BR.out 4).trans rfl; have hcgr5 : w7.cell? ⟨gr, 5, none⟩ = some (.int .i64 r_5) := (blk_cell BR.out 5).trans rfl; have hfgr0 := blk_frozen BR.out 0; have hfgr1 := blk_frozen BR.out 1; have hfgr2 := blk_frozen BR.out 2; have hfgr3 := blk_frozen BR.out 3; have hfgr4 := blk_frozen BR.out 4; have hfgr5 := blk_frozen BR.out 5) | (go_at_call 82; (with_reducible refine (impl_Step_field.callsj gs (bt z x) 5 hj _).mono ?_); rintro e w' ⟨rfl, ⟨nd, rfl⟩⟩) | (go_at_call 59; (with_reducible refine (impl_in.calls a0_5 lo hi false _ A6.out).mono ?_); rintro e w' ⟨rfl, ⟨nd, rfl⟩⟩))
       go_ret
       exact ⟨by first | rfl | (simp; done) | (simp [*]; done), by repeat (first | (with_reducible first | exact HB.out | apply ba_ | apply bn_ | apply bd_ | refine bs_ ?_ GS.out | refine bs_ ?_ GR.out) | exact HB.out)⟩
    rw [if_neg c4] at h
    exact absurd h (by simp)
   ·have c3b : decide (x < (z.size : Int)) = false := decide_eq_false c3
    rw [if_neg c3] at h
    clear c3
    replace h := Option.bind_eq_some_iff.mp h
    obtain ⟨t, A6', h⟩ := h
    have A6 := Aside0.mk A6'
    clear A6'
    have hcgs0 : wr.cell? ⟨gs, 0, none⟩ = some (.int .i64 a0_0) := (blk_cell BS.out 0).trans rfl
    have hcgs1 : wr.cell? ⟨gs, 1, none⟩ = some (.int .i64 a0_1) := (blk_cell BS.out 1).trans rfl
    have hcgs2 : wr.cell? ⟨gs, 2, none⟩ = some (.int .i64 a0_2) := (blk_cell BS.out 2).trans rfl
    have hcgs3 : wr.cell? ⟨gs, 3, none⟩ = some (.int .i64 a0_3) := (blk_cell BS.out 3).trans rfl
    have hcgs4 : wr.cell? ⟨gs, 4, none⟩ = some (.int .i64 a0_4) := (blk_cell BS.out 4).trans rfl
    have hcgs5 : wr.cell? ⟨gs, 5, none⟩ = some (.int .i64 a0_5) := (blk_cell BS.out 5).trans rfl
    have hfgs0 := blk_frozen BS.out 0
    have hfgs1 := blk_frozen BS.out 1
    have hfgs2 := blk_frozen BS.out 2
    have hfgs3 := blk_frozen BS.out 3
    have hfgs4 := blk_frozen BS.out 4
    have hfgs5 := blk_frozen BS.out 5
    have hcgr0 : wr.cell? ⟨gr, 0, none⟩ = some (.int .i64 0) := (blk_cell BR.out 0).trans rfl
    have hcgr1 : wr.cell? ⟨gr, 1, none⟩ = some (.int .i64 r_1) := (blk_cell BR.out 1).trans rfl
    have hcgr2 : wr.cell? ⟨gr, 2, none⟩ = some (.int .i64 r_2) := (blk_cell BR.out 2).trans rfl
    have hcgr3 : wr.cell? ⟨gr, 3, none⟩ = some (.int .i64 r_3) := (blk_cell BR.out 3).trans rfl
    have hcgr4 : wr.cell? ⟨gr, 4, none⟩ = some (.int .i64 r_4) := (blk_cell BR.out 4).trans rfl
    have hcgr5 : wr.cell? ⟨gr, 5, none⟩ = some (.int .i64 r_5) := (blk_cell BR.out 5).trans rfl
    have hfgr0 := blk_frozen BR.out 0
    have hfgr1 := blk_frozen BR.out 1
    have hfgr2 := blk_frozen BR.out 2
    have hfgr3 := blk_frozen BR.out 3
    have hfgr4 := blk_frozen BR.out 4
    have hfgr5 := blk_frozen BR.out 5
    cases t with
    | true =>
     rw [if_pos rfl] at h
     have hr := Option.some.inj h
     clear h
     have hr' := Aside0.mk hr
     clear hr
     go_wp2_with (go_at_call 59; (with_reducible refine (impl_in.calls a0_0 1 11 true _ A6.out).mono ?_); rintro e w' ⟨rfl, ⟨nd, rfl⟩⟩)
     all_goals
      go_ret
      exact ⟨by rw [← hr'.out]; (first | rfl | (simp; done) | (simp [*]; done)), by repeat (first | (with_reducible first | exact HB.out | apply ba_ | apply bn_ | apply bd_ | refine bs_ ?_ GS.out | refine bs_ ?_ GR.out) | exact HB.out)⟩
    | false =>
     have h' : false = r := by simpa using h
     subst h'
     clear h
     go_wp2_with (go_at_call 59; (with_reducible refine (impl_in.calls a0_0 1 11 false _ A6.out).mono ?_); rintro e w' ⟨rfl, ⟨nd, rfl⟩⟩)
     go_ret
     exact ⟨by first | rfl | (simp; done) | (simp [*]; done), by repeat (first | (with_reducible first | exact HB.out | apply ba_ | apply bn_ | apply bd_ | refine bs_ ?_ GS.out | refine bs_ ?_ GR.out) | exact HB.out)⟩
def impl_Step_jumps.f (a0_0 : Int) (a0_1 : Int) (a0_2 : Int) (a0_3 : Int) (a0_4 : Int) (a0_5 : Int) : Option (Bool) := if a0_0 = 8 then (some true) else (if a0_0 = 9 then (some true) else (some (a0_0 == 10)))
set_option maxHeartbeats 8000000 in
set_option maxRecDepth 100000 in
theorem impl_Step_jumps.calls (a0_0 : Int) (a0_1 : Int) (a0_2 : Int) (a0_3 : Int) (a0_4 : Int) (a0_5 : Int) (r : Bool) (w : World) (h : impl_Step_jumps.f a0_0 a0_1 a0_2 a0_3 a0_4 a0_5 = some r) :
  Calls Try.prog 60 #[.agg #[.int .i64 a0_0, .int .i64 a0_1, .int .i64 a0_2, .int .i64 a0_3, .int .i64 a0_4, .int .i64 a0_5]] w fun e w' => e = .returned (.bool r) ∧ Below w.heap.size w w' := by
 have hu26 := Try.underlying26
 have HB := Aside0.mk (Below.refl w.heap.size w)
 have H : (if a0_0 = 8 then (some true) else (if a0_0 = 9 then (some true) else (some (a0_0 == 10)))) = some r := h
 clear h
 by_cases c2 : a0_0 = 8
 ·rw [if_pos c2] at H
  have c2b0 : (a0_0 == 8) = true := beq_iff_eq.mpr c2
  have c2b1 : (a0_0 != 8) = false := bne_eq_false_iff_eq.mpr c2
  clear c2
  obtain rfl := Option.some.inj H
  go_enter Try.func60, Try.ntmps60
  go_wp2_with (first | ((with_reducible refine gate_dst (N := 1) rfl ?_); refine box_event ?hg (N := 1) ?hd (cs := #[.int .i64 a0_0, .int .i64 a0_1, .int .i64 a0_2, .int .i64 a0_3, .int .i64 a0_4, .int .i64 a0_5]) (t := 26) ?hr ?_; (case hd => rfl); (case hg => rfl); (case hr => first | (go_simp; done) | (go_simp; rfl)); intro gb230 hg w3 hbox hb; have n0_ := Aside0.mk (below_step (zb_ HB.out) hb); have n1_ := Aside0.mk (hbox); have n2_ := Aside0.mk ((by rw [hg]; exact (below_size (zb_ HB.out)) : w.heap.size ≤ gb230)); have n3_ := Aside0.mk ((by rw [hg]; exact (below_size (zb_ HB.out)) : w.heap.size ≤ gb230)); clear HB; have HB := n0_; have BK230 := n1_; have GW230 := n2_; have GE230 := n3_; clear n0_ n1_ n2_ n3_; clear hb hbox hg; have hcz4_0 : w3.cell? ⟨gb230, 0, none⟩ = some (.int .i64 a0_0) := (blk_cell BK230.out 0).trans rfl; have hcz4_1 : w3.cell? ⟨gb230, 1, none⟩ = some (.int .i64 a0_1) := (blk_cell BK230.out 1).trans rfl; have hcz4_2 : w3.cell? ⟨gb230, 2, none⟩ = some (.int .i64 a0_2) := (blk_cell BK230.out 2).trans rfl; have hcz4_3 : w3.cell? ⟨gb230, 3, none⟩ = some (.int .i64 a0_3) := (blk_cell BK230.out 3).trans rfl; have hcz4_4 : w3.cell? ⟨gb230, 4, none⟩ = some (.int .i64 a0_4) := (blk_cell BK230.out 4).trans rfl; have hcz4_5 : w3.cell? ⟨gb230, 5, none⟩ = some (.int .i64 a0_5) := (blk_cell BK230.out 5).trans rfl; have hfz4_0 := blk_frozen BK230.out 0; have hfz4_1 := blk_frozen BK230.out 1; have hfz4_2 := blk_frozen BK230.out 2; have hfz4_3 := blk_frozen BK230.out 3; have hfz4_4 := blk_frozen BK230.out 4; have hfz4_5 := blk_frozen BK230.out 5))
  go_ret
  exact ⟨by first | rfl | (simp <;> rfl) | (simp [*] <;> rfl), by repeat (first | (with_reducible first | exact HB.out | apply ba_ | apply bn_ | apply bd_ | refine bs_ ?_ GE230.out) | exact HB.out)⟩
 rw [if_neg c2] at H
 have c2b0 : (a0_0 == 8) = false := beq_eq_false_iff_ne.mpr c2
 have c2b1 : (a0_0 != 8) = true := bne_iff_ne.mpr c2
 by_cases c5 : a0_0 = 9
 ·rw [if_pos c5] at H
  have c5b0 : (a0_0 == 9) = true := beq_iff_eq.mpr c5
  have c5b1 : (a0_0 != 9) = false := bne_eq_false_iff_eq.mpr c5
  clear c5
  obtain rfl := Option.some.inj H
  go_enter Try.func60, Try.ntmps60
  go_wp2_with (first | ((with_reducible refine gate_dst (N := 1) rfl ?_); refine box_event ?hg (N := 1) ?hd (cs := #[.int .i64 a0_0, .int .i64 a0_1, .int .i64 a0_2, .int .i64 a0_3, .int .i64 a0_4, .int .i64 a0_5]) (t := 26) ?hr ?_; (case hd => rfl); (case hg => rfl); (case hr => first | (go_simp; done) | (go_simp; rfl)); intro gb230 hg w6 hbox hb; have n0_ := Aside0.mk (below_step (zb_ HB.out) hb); have n1_ := Aside0.mk (hbox); have n2_ := Aside0.mk ((by rw [hg]; exact (below_size (zb_ HB.out)) : w.heap.size ≤ gb230)); have n3_ := Aside0.mk ((by rw [hg]; exact (below_size (zb_ HB.out)) : w.heap.size ≤ gb230)); clear HB; have HB := n0_; have BK230 := n1_; have GW230 := n2_; have GE230 := n3_; clear n0_ n1_ n2_ n3_; clear hb hbox hg; have hcz7_0 : w6.cell? ⟨gb230, 0, none⟩ = some (.int .i64 a0_0) := (blk_cell BK230.out 0).trans rfl; have hcz7_1 : w6.cell? ⟨gb230, 1, none⟩ = some (.int .i64 a0_1) := (blk_cell BK230.out 1).trans rfl; have hcz7_2 : w6.cell? ⟨gb230, 2, none⟩ = some (.int .i64 a0_2) := (blk_cell BK230.out 2).trans rfl; have hcz7_3 : w6.cell? ⟨gb230, 3, none⟩ = some (.int .i64 a0_3) := (blk_cell BK230.out 3).trans rfl; have hcz7_4 : w6.cell? ⟨gb230, 4, none⟩ = some (.int .i64 a0_4) := (blk_cell BK230.out 4).trans rfl; have hcz7_5 : w6.cell? ⟨gb230, 5, none⟩ = some (.int .i64 a0_5) := (blk_cell BK230.out 5).trans rfl; have hfz7_0 := blk_frozen BK230.out 0; have hfz7_1 := blk_frozen BK230.out 1; have hfz7_2 := blk_frozen BK230.out 2; have hfz7_3 := blk_frozen BK230.out 3; have hfz7_4 := blk_frozen BK230.out 4; have hfz7_5 := blk_frozen BK230.out 5))
  go_ret
  exact ⟨by first | rfl | (simp <;> rfl) | (simp [*] <;> rfl), by repeat (first | (with_reducible first | exact HB.out | apply ba_ | apply bn_ | apply bd_ | refine bs_ ?_ GE230.out) | exact HB.out)⟩
 rw [if_neg c5] at H
 have c5b0 : (a0_0 == 9) = false := beq_eq_false_iff_ne.mpr c5
 have c5b1 : (a0_0 != 9) = true := bne_iff_ne.mpr c5
 obtain rfl := Option.some.inj H
 go_enter Try.func60, Try.ntmps60
 go_wp2_with (first | ((with_reducible refine gate_dst (N := 1) rfl ?_); refine box_event ?hg (N := 1) ?hd (cs := #[.int .i64 a0_0, .int .i64 a0_1, .int .i64 a0_2, .int .i64 a0_3, .int .i64 a0_4, .int .i64 a0_5]) (t := 26) ?hr ?_; (case hd => rfl); (case hg => rfl); (case hr => first | (go_simp; done) | (go_simp; rfl)); intro gb230 hg w8 hbox hb; have n0_ := Aside0.mk (below_step (zb_ HB.out) hb); have n1_ := Aside0.mk (hbox); have n2_ := Aside0.mk ((by rw [hg]; exact (below_size (zb_ HB.out)) : w.heap.size ≤ gb230)); have n3_ := Aside0.mk ((by rw [hg]; exact (below_size (zb_ HB.out)) : w.heap.size ≤ gb230)); clear HB; have HB := n0_; have BK230 := n1_; have GW230 := n2_; have GE230 := n3_; clear n0_ n1_ n2_ n3_; clear hb hbox hg; have hcz9_0 : w8.cell? ⟨gb230, 0, none⟩ = some (.int .i64 a0_0) := (blk_cell BK230.out 0).trans rfl; have hcz9_1 : w8.cell? ⟨gb230, 1, none⟩ = some (.int .i64 a0_1) := (blk_cell BK230.out 1).trans rfl; have hcz9_2 : w8.cell? ⟨gb230, 2, none⟩ = some (.int .i64 a0_2) := (blk_cell BK230.out 2).trans rfl; have hcz9_3 : w8.cell? ⟨gb230, 3, none⟩ = some (.int .i64 a0_3) := (blk_cell BK230.out 3).trans rfl; have hcz9_4 : w8.cell? ⟨gb230, 4, none⟩ = some (.int .i64 a0_4) := (blk_cell BK230.out 4).trans rfl; have hcz9_5 : w8.cell? ⟨gb230, 5, none⟩ = some (.int .i64 a0_5) := (blk_cell BK230.out 5).trans rfl; have hfz9_0 := blk_frozen BK230.out 0; have hfz9_1 := blk_frozen BK230.out 1; have hfz9_2 := blk_frozen BK230.out 2; have hfz9_3 := blk_frozen BK230.out 3; have hfz9_4 := blk_frozen BK230.out 4; have hfz9_5 := blk_frozen BK230.out 5))
 go_ret
 exact ⟨by first | rfl | (simp <;> rfl) | (simp [*] <;> rfl), by repeat (first | (with_reducible first | exact HB.out | apply ba_ | apply bn_ | apply bd_ | refine bs_ ?_ GE230.out) | exact HB.out)⟩
mutual
def impl_GoodProgram.j0 : Nat → List (S26) → Bool → Option (Bool)
 | 0, _, _ => none
 | k + 1, x0, x18 => if x18 = true then (some false) else (impl_GoodProgram.l0 k x0 x0 (x0.length : Int) 0)
def impl_GoodProgram.l0 : Nat → List (S26) → List (S26) → Int → Int → Option (Bool)
 | 0, _, _, _, _ => none
 | k + 1, x0, x19, x20, x21 => if x21 < x20 then (if 0 ≤ x21 then (if x21 < (x19.length : Int) then ((impl_Step_valid.f k ((rd_T26 x19 x21).f0) ((rd_T26 x19 x21).f1) ((rd_T26 x19 x21).f2) ((rd_T26 x19 x21).f3) ((rd_T26 x19 x21).f4) ((rd_T26 x19 x21).f5)).bind fun t235 => (if t235 = true then ((impl_Step_jumps.f ((rd_T26 x19 x21).f0) ((rd_T26 x19 x21).f1) ((rd_T26 x19 x21).f2) ((rd_T26 x19 x21).f3) ((rd_T26 x19 x21).f4) ((rd_T26 x19 x21).f5)).bind fun t236 => (if t236 = true then (impl_GoodProgram.j2 k x0 x19 x20 x21 (decide ((wrap64 ((wrap64 (x21 + ((rd_T26 x19 x21).f5))) + 1)) ≥ (x0.length : Int)))) else (impl_GoodProgram.j2 k x0 x19 x20 x21 false))) else (impl_GoodProgram.j2 k x0 x19 x20 x21 true))) else (none)) else (none)) else (some true)
def impl_GoodProgram.j2 : Nat → List (S26) → List (S26) → Int → Int → Bool → Option (Bool)
 | 0, _, _, _, _, _ => none
 | k + 1, x0, x19, x20, x21, x42 => if x42 = true then (some false) else (impl_GoodProgram.l0 k x0 x19 x20 (wrap64 (x21 + 1)))
end
def impl_GoodProgram.f (k : Nat) (l0 : List (S26)) : Option (Bool) := (impl_in.f (l0.length : Int) 1 20).bind fun t231 => (if t231 = true then (if 0 ≤ (wrap64 ((l0.length : Int) - 1)) then (if (wrap64 ((l0.length : Int) - 1)) < (l0.length : Int) then (impl_GoodProgram.j0 k l0 (((rd_T26 l0 (wrap64 ((l0.length : Int) - 1))).f0) != 11)) else (none)) else (none)) else (impl_GoodProgram.j0 k l0 true))
theorem impl_GoodProgram.mono_l : ∀ k, (∀ y0 y1, LeO (impl_GoodProgram.j0 k y0 y1) (impl_GoodProgram.j0 (k + 1) y0 y1)) ∧ (∀ y0 y1 y2 y3, LeO (impl_GoodProgram.l0 k y0 y1 y2 y3) (impl_GoodProgram.l0 (k + 1) y0 y1 y2 y3)) ∧ (∀ y0 y1 y2 y3 y4, LeO (impl_GoodProgram.j2 k y0 y1 y2 y3 y4) (impl_GoodProgram.j2 (k + 1) y0 y1 y2 y3 y4))
 | 0 => ⟨fun _ _ r h => by simp [impl_GoodProgram.j0] at h, fun _ _ _ _ r h => by simp [impl_GoodProgram.l0] at h, fun _ _ _ _ _ r h => by simp [impl_GoodProgram.j2] at h⟩
 | k + 1 => by
  obtain ⟨ih0, ih1, ih2⟩ := impl_GoodProgram.mono_l k
  refine ⟨?_, ?_, ?_⟩
  ·intro y0 y1
   unfold impl_GoodProgram.j0
   repeat' first
   | (with_reducible exact ih0 _ _)
   | (with_reducible exact ih1 _ _ _ _)
   | (with_reducible exact ih2 _ _ _ _ _)
   | (with_reducible exact impl_Step_valid.mono _ _ _ _ _ _ _)
   | (with_reducible exact LeO.refl _)
   | (with_reducible exact LeO.none _)
   | (with_reducible refine LeO.ite ?_ ?_)
   | (with_reducible refine LeO.bind ?_ (fun _ => ?_))
   | exact ih0 _ _
   | exact ih1 _ _ _ _
   | exact ih2 _ _ _ _ _
   | exact impl_Step_valid.mono _ _ _ _ _ _ _
   | exact LeO.none _
   | refine LeO.ite ?_ ?_
   | refine LeO.bind ?_ (fun _ => ?_)
  ·intro y0 y1 y2 y3
   unfold impl_GoodProgram.l0
   repeat' first
   | (with_reducible exact ih0 _ _)
   | (with_reducible exact ih1 _ _ _ _)
   | (with_reducible exact ih2 _ _ _ _ _)
   | (with_reducible exact impl_Step_valid.mono _ _ _ _ _ _ _)
   | (with_reducible exact LeO.refl _)
   | (with_reducible exact LeO.none _)
   | (with_reducible refine LeO.ite ?_ ?_)
   | (with_reducible refine LeO.bind ?_ (fun _ => ?_))
   | exact ih0 _ _
   | exact ih1 _ _ _ _
   | exact ih2 _ _ _ _ _
   | exact impl_Step_valid.mono _ _ _ _ _ _ _
   | exact LeO.none _
   | refine LeO.ite ?_ ?_
   | refine LeO.bind ?_ (fun _ => ?_)
  ·intro y0 y1 y2 y3 y4
   unfold impl_GoodProgram.j2
   repeat' first
   | (with_reducible exact ih0 _ _)
   | (with_reducible exact ih1 _ _ _ _)
   | (with_reducible exact ih2 _ _ _ _ _)
   | (with_reducible exact impl_Step_valid.mono _ _ _ _ _ _ _)
   | (with_reducible exact LeO.refl _)
   | (with_reducible exact LeO.none _)
   | (with_reducible refine LeO.ite ?_ ?_)
   | (with_reducible refine LeO.bind ?_ (fun _ => ?_))
   | exact ih0 _ _
   | exact ih1 _ _ _ _
   | exact ih2 _ _ _ _ _
   | exact impl_Step_valid.mono _ _ _ _ _ _ _
   | exact LeO.none _
   | refine LeO.ite ?_ ?_
   | refine LeO.bind ?_ (fun _ => ?_)
theorem impl_GoodProgram.mono : ∀ a0 k, LeO (impl_GoodProgram.f k a0) (impl_GoodProgram.f (k + 1) a0) := by
 intro a0 k
 obtain ⟨ih0, ih1, ih2⟩ := impl_GoodProgram.mono_l k
 unfold impl_GoodProgram.f
 repeat' first
   | (with_reducible exact ih0 _ _)
   | (with_reducible exact ih1 _ _ _ _)
   | (with_reducible exact ih2 _ _ _ _ _)
   | (with_reducible exact impl_Step_valid.mono _ _ _ _ _ _ _)
   | (with_reducible exact LeO.refl _)
   | (with_reducible exact LeO.none _)
   | (with_reducible refine LeO.ite ?_ ?_)
   | (with_reducible refine LeO.bind ?_ (fun _ => ?_))
   | exact ih0 _ _
   | exact ih1 _ _ _ _
   | exact ih2 _ _ _ _ _
   | exact impl_Step_valid.mono _ _ _ _ _ _ _
   | exact LeO.none _
   | refine LeO.ite ?_ ?_
   | refine LeO.bind ?_ (fun _ => ?_)
set_option maxHeartbeats 8000000 in
set_option maxRecDepth 100000 in
theorem impl_GoodProgram.calls (k : Nat) (A0 : Option Addr) (c0 : Nat) (l0 : List (S26)) (r : Bool) (w : World) (hr0 : Kd.C k26 w A0 l0.length l0) (hc0 : l0.length ≤ c0) (h : impl_GoodProgram.f k l0 = some r) :
  Calls Try.prog 20 #[.slice A0 l0.length c0] w fun e w' => e = .returned (.bool r) ∧ Below w.heap.size w w' := by
 have hu26 := Try.underlying26
 have HR0 := Aside0.mk hr0
 have HC0 := Aside0.mk hc0
 clear hr0 hc0
 have HB := Aside0.mk (Below.refl w.heap.size w)
 have H : ((impl_in.f (l0.length : Int) 1 20).bind fun t231 => (if t231 = true then (if 0 ≤ (wrap64 ((l0.length : Int) - 1)) then (if (wrap64 ((l0.length : Int) - 1)) < (l0.length : Int) then (impl_GoodProgram.j0 k l0 (((rd_T26 l0 (wrap64 ((l0.length : Int) - 1))).f0) != 11)) else (none)) else (none)) else (impl_GoodProgram.j0 k l0 true))) = some r := h
 clear h
 have HC2 := Aside0.mk H
 clear H
 go_enter Try.func20, Try.ntmps20
 go_upto_region 1 with (fail)
 go_cut [18] (fun v18 wc => ∃ (kq : Nat) (x18_1 : Bool), v18 = .bool x18_1 ∧ Aside0 (impl_GoodProgram.j0 kq l0 x18_1 = some r) ∧ Aside0 (kq ≤ k) ∧ Aside0 (Below w.heap.size w wc))
 case first =>
  have H := HC2.out
  clear HC2
  replace H := Option.bind_eq_some_iff.mp H
  obtain ⟨t231, A30, H⟩ := H
  (try dsimp only at H)
  have A3 := Aside0.mk A30
  clear A30
  by_cases c4 : t231 = true
  ·subst c4
   have H1 : (if 0 ≤ (wrap64 ((l0.length : Int) - 1)) then (if (wrap64 ((l0.length : Int) - 1)) < (l0.length : Int) then (impl_GoodProgram.j0 k l0 (((rd_T26 l0 (wrap64 ((l0.length : Int) - 1))).f0) != 11)) else (none)) else (none)) = some r := by rw [if_pos rfl] at H; exact H
   clear H
   have H := H1
   clear H1
   obtain ⟨ji5, hji5⟩ : ∃ j_ : Int, (wrap64 ((l0.length : Int) - 1)) = j_ := ⟨_, rfl⟩
   replace H : (if 0 ≤ (ji5) then (if (ji5) < (l0.length : Int) then (impl_GoodProgram.j0 k l0 (((rd_T26 l0 (ji5)).f0) != 11)) else (none)) else (none)) = some r := by first | (rw [hji5] at H; exact H) | (simp only [hji5] at H ⊢; exact H)
   (try rw [hji5] at A3)
   have hji5w : (IntKind.i64.wrap ((l0.length : Int) - 1)) = ji5 := (i64_w _).trans hji5
   by_cases c6 : 0 ≤ (ji5)
   ·rw [if_pos c6] at H
    have c6b0 : decide (0 ≤ (ji5)) = true := decide_eq_true c6
    clear c6
    (first | rw [c6b0] | (simp only [i64_w, i32_w]; rw [c6b0]) | skip)
    by_cases c7 : (ji5) < (l0.length : Int)
    ·rw [if_pos c7] at H
     have c7b0 : decide ((ji5) < (l0.length : Int)) = true := decide_eq_true c7
     clear c7
     have H' := Aside0.mk H
     clear H
     go_wp2_with (first | ((with_reducible refine gate_callee (f := 59) rfl ?_); refine goesL_ (some 7) rfl rfl Try.func59 (by kernel_rfl) rfl #[.int .i64 (l0.length : Int), .int .i64 1, .int .i64 20] rfl (by simp only [zA_, zB_, zD_] <;> rfl) ?_; (with_reducible refine (impl_in.calls (l0.length : Int) 1 20 true _ A3.out).mono ?_); rintro e w' ⟨rfl, ⟨nd, rfl⟩⟩; refine ⟨_, rfl, ?_⟩; have p232 : 0 ≤ ((ji5) : Int) := dt_; have q232 : (ji5) < (l0.length : Int) := dt_; obtain ⟨ad232, e232, hx232_0, hx232_1, hx232_2, hx232_3, hx232_4, hx232_5⟩ := at_T26 HR0.out (ji5) p232 q232; cases e232; replace hx232_0 := (HB.out.cell (World.block_lt_of_cell? w _ hx232_0)).trans hx232_0; replace hx232_1 := (HB.out.cell (World.block_lt_of_cell? w _ hx232_1)).trans hx232_1; replace hx232_2 := (HB.out.cell (World.block_lt_of_cell? w _ hx232_2)).trans hx232_2; replace hx232_3 := (HB.out.cell (World.block_lt_of_cell? w _ hx232_3)).trans hx232_3; replace hx232_4 := (HB.out.cell (World.block_lt_of_cell? w _ hx232_4)).trans hx232_4; replace hx232_5 := (HB.out.cell (World.block_lt_of_cell? w _ hx232_5)).trans hx232_5; replace p232 := eq_true p232; replace q232 := eq_true q232))
     go_meet
     case rel => exact ⟨_, ((((rd_T26 l0 (ji5)).f0) != 11)), (by first | rfl | (simp; done) | (simp only [← hji5] <;> (first | rfl | simp)) | (simp [*]; done)), H', ⟨by first | omega | exact Nat.le_refl _⟩, ⟨zb_ HB.out⟩⟩
    rw [if_neg c7] at H
    exact absurd H (by simp)
   rw [if_neg c6] at H
   exact absurd H (by simp)
  ·replace c4 := Bool.eq_false_iff.mpr c4
   subst c4
   have H1 : (impl_GoodProgram.j0 k l0 true) = some r := by rw [if_neg (show ¬ (false = true) by decide)] at H; exact H
   clear H
   have H := H1
   clear H1
   have H' := Aside0.mk H
   clear H
   go_wp2_with (first | ((with_reducible refine gate_callee (f := 59) rfl ?_); refine goesL_ (some 7) rfl rfl Try.func59 (by kernel_rfl) rfl #[.int .i64 (l0.length : Int), .int .i64 1, .int .i64 20] rfl (by simp only [zA_, zB_, zD_] <;> rfl) ?_; (with_reducible refine (impl_in.calls (l0.length : Int) 1 20 false _ A3.out).mono ?_); rintro e w' ⟨rfl, ⟨nd, rfl⟩⟩; refine ⟨_, rfl, ?_⟩))
   go_meet
   case rel => exact ⟨_, (true), (by first | rfl | (simp; done) | (simp [*]; done)), H', ⟨by first | omega | exact Nat.le_refl _⟩, ⟨zb_ HB.out⟩⟩
 case rest =>
  clear HC2
  obtain ⟨kq, x18_1, rfl, HA, HJ1, HB⟩ := hcut
  cases kq with
  | zero => exact absurd HA.out (by simp [impl_GoodProgram.j0])
  | succ kj1 =>
   have H := HA.out
   clear HA
   simp only [impl_GoodProgram.j0] at H
   by_cases c8 : x18_1 = true
   ·subst c8
    have H1 : (some false) = some r := by rw [if_pos rfl] at H; exact H
    clear H
    have H := H1
    clear H1
    obtain rfl := Option.some.inj H
    go_wp2
    go_ret
    exact ⟨by first | rfl | (simp <;> rfl) | (simp [*] <;> rfl), zb_ HB.out⟩
   ·replace c8 := Bool.eq_false_iff.mpr c8
    subst c8
    have H1 : (impl_GoodProgram.l0 kj1 l0 l0 (l0.length : Int) 0) = some r := by rw [if_neg (show ¬ (false = true) by decide)] at H; exact H
    clear H
    have H := H1
    clear H1
    have H' := Aside0.mk H
    clear H
    go_wp2
    go_loopg [21] kj1 (fun kq v21 w' => ∃ (x21_2 : Int), v21 = .int .i64 x21_2 ∧ Aside0 (impl_GoodProgram.l0 kq l0 l0 (l0.length : Int) x21_2 = some r) ∧ Aside0 (kq ≤ kj1) ∧ Aside0 (Below w.heap.size w w'))
    case atStart => exact ⟨(0), (by first | rfl | (simp; done) | (simp [*]; done)), H', ⟨Nat.le_refl _⟩, ⟨zb_ HB.out⟩⟩
    case round =>
     clear H'
     obtain ⟨x21_2, rfl, HA, HK2, HB⟩ := hrel
     cases gk with
     | zero => exact absurd HA.out (by simp [impl_GoodProgram.l0])
     | succ k2 =>
      have H := HA.out
      clear HA
      simp only [impl_GoodProgram.l0] at H
      by_cases c9 : x21_2 < (l0.length : Int)
      ·rw [if_pos c9] at H
       have c9b0 : decide (x21_2 < (l0.length : Int)) = true := decide_eq_true c9
       clear c9
       by_cases c10 : 0 ≤ x21_2
       ·rw [if_pos c10] at H
        have c10b0 : decide (0 ≤ x21_2) = true := decide_eq_true c10
        clear c10
        by_cases c11 : x21_2 < (l0.length : Int)
        ·rw [if_pos c11] at H
         have c11b0 : decide (x21_2 < (l0.length : Int)) = true := decide_eq_true c11
         clear c11
         have HC12 := Aside0.mk H
         clear H
         have p233 : 0 ≤ (x21_2 : Int) := dt_
         have q233 : x21_2 < (l0.length : Int) := dt_
         obtain ⟨ad233, e233, hx233_0, hx233_1, hx233_2, hx233_3, hx233_4, hx233_5⟩ := at_T26 HR0.out x21_2 p233 q233
         cases e233
         (try replace hx233_0 := (HB.out.cell (World.block_lt_of_cell? w _ hx233_0)).trans hx233_0)
         (try replace hx233_1 := (HB.out.cell (World.block_lt_of_cell? w _ hx233_1)).trans hx233_1)
         (try replace hx233_2 := (HB.out.cell (World.block_lt_of_cell? w _ hx233_2)).trans hx233_2)
         (try replace hx233_3 := (HB.out.cell (World.block_lt_of_cell? w _ hx233_3)).trans hx233_3)
         (try replace hx233_4 := (HB.out.cell (World.block_lt_of_cell? w _ hx233_4)).trans hx233_4)
         (try replace hx233_5 := (HB.out.cell (World.block_lt_of_cell? w _ hx233_5)).trans hx233_5)
         replace p233 := eq_true p233
         replace q233 := eq_true q233
         go_upto_region 6 with (first | ((with_reducible refine gate_dst (N := 4) rfl ?_); (try (refine gate_guard (by rfl) ?_; dsimp only)); refine box_event ?hg (N := 4) ?hd (cs := #[.int .i64 0, .int .i64 0, .int .i64 0, .int .i64 0, .int .i64 0, .int .i64 0]) (t := 26) ?hr ?_; (case hd => rfl); (case hg => rfl); (case hr => first | (go_simp; done) | (go_simp; rfl)); intro gb234 hg w13 hbox hb; have n0_ := Aside0.mk (below_step (zb_ HB.out) hb); have n1_ := Aside0.mk (hbox); have n2_ := Aside0.mk ((by rw [hg]; exact (below_size (zb_ HB.out)) : w.heap.size ≤ gb234)); have n3_ := Aside0.mk ((by rw [hg]; exact (below_size (zb_ HB.out)) : w.heap.size ≤ gb234)); clear HB; have HB := n0_; have BK234 := n1_; have GW234 := n2_; have GE234 := n3_; clear n0_ n1_ n2_ n3_; clear hb hbox hg; have hcz14_0 : w13.cell? ⟨gb234, 0, none⟩ = some (.int .i64 0) := (blk_cell BK234.out 0).trans rfl; have hcz14_1 : w13.cell? ⟨gb234, 1, none⟩ = some (.int .i64 0) := (blk_cell BK234.out 1).trans rfl; have hcz14_2 : w13.cell? ⟨gb234, 2, none⟩ = some (.int .i64 0) := (blk_cell BK234.out 2).trans rfl; have hcz14_3 : w13.cell? ⟨gb234, 3, none⟩ = some (.int .i64 0) := (blk_cell BK234.out 3).trans rfl; have hcz14_4 : w13.cell? ⟨gb234, 4, none⟩ = some (.int .i64 0) := (blk_cell BK234.out 4).trans rfl; have hcz14_5 : w13.cell? ⟨gb234, 5, none⟩ = some (.int .i64 0) := (blk_cell BK234.out 5).trans rfl; have hfz14_0 := blk_frozen BK234.out 0; have hfz14_1 := blk_frozen BK234.out 1; have hfz14_2 := blk_frozen BK234.out 2; have hfz14_3 := blk_frozen BK234.out 3; have hfz14_4 := blk_frozen BK234.out 4; have hfz14_5 := blk_frozen BK234.out 5))
         (try simp only [Act.put, List.setIfInBounds_toArray, List.set_cons_zero, List.set_cons_succ])
         go_cut [42] (fun v42 wc => ∃ (kq : Nat) (x42_11 : Bool), v42 = .bool x42_11 ∧ Aside0 (impl_GoodProgram.j2 kq l0 l0 (l0.length : Int) x21_2 x42_11 = some r) ∧ Aside0 (kq ≤ k2) ∧ Aside0 (wc.heap[gb234]? = some (.cells #[.int .i64 ((rd_T26 l0 x21_2).f0), .int .i64 ((rd_T26 l0 x21_2).f1), .int .i64 ((rd_T26 l0 x21_2).f2), .int .i64 ((rd_T26 l0 x21_2).f3), .int .i64 ((rd_T26 l0 x21_2).f4), .int .i64 ((rd_T26 l0 x21_2).f5)] 26 (0, 0))) ∧ Aside0 (Below w.heap.size w wc))
         case first =>
          have H := HC12.out
          clear HC12
          replace H := Option.bind_eq_some_iff.mp H
          obtain ⟨t235, A150, H⟩ := H
          (try dsimp only at H)
          have A15 := Aside0.mk A150
          clear A150
          by_cases c16 : t235 = true
          ·subst c16
           have H1 : ((impl_Step_jumps.f ((rd_T26 l0 x21_2).f0) ((rd_T26 l0 x21_2).f1) ((rd_T26 l0 x21_2).f2) ((rd_T26 l0 x21_2).f3) ((rd_T26 l0 x21_2).f4) ((rd_T26 l0 x21_2).f5)).bind fun t236 => (if t236 = true then (impl_GoodProgram.j2 k2 l0 l0 (l0.length : Int) x21_2 (decide ((wrap64 ((wrap64 (x21_2 + ((rd_T26 l0 x21_2).f5))) + 1)) ≥ (l0.length : Int)))) else (impl_GoodProgram.j2 k2 l0 l0 (l0.length : Int) x21_2 false))) = some r := by rw [if_pos rfl] at H; exact H
           clear H
           have H := H1
           clear H1
           replace H := Option.bind_eq_some_iff.mp H
           obtain ⟨t236, A170, H⟩ := H
           (try dsimp only at H)
           have A17 := Aside0.mk A170
           clear A170
           by_cases c18 : t236 = true
           ·subst c18
            have H1 : (impl_GoodProgram.j2 k2 l0 l0 (l0.length : Int) x21_2 (decide ((wrap64 ((wrap64 (x21_2 + ((rd_T26 l0 x21_2).f5))) + 1)) ≥ (l0.length : Int)))) = some r := by rw [if_pos rfl] at H; exact H
            clear H
            have H := H1
            clear H1
            have H' := Aside0.mk H
            clear H
            have hcz19_0 : w13.cell? ⟨gb234, 0, none⟩ = some (.int .i64 0) := (blk_cell BK234.out 0).trans rfl
            have hcz19_1 : w13.cell? ⟨gb234, 1, none⟩ = some (.int .i64 0) := (blk_cell BK234.out 1).trans rfl
            have hcz19_2 : w13.cell? ⟨gb234, 2, none⟩ = some (.int .i64 0) := (blk_cell BK234.out 2).trans rfl
            have hcz19_3 : w13.cell? ⟨gb234, 3, none⟩ = some (.int .i64 0) := (blk_cell BK234.out 3).trans rfl
            have hcz19_4 : w13.cell? ⟨gb234, 4, none⟩ = some (.int .i64 0) := (blk_cell BK234.out 4).trans rfl
            have hcz19_5 : w13.cell? ⟨gb234, 5, none⟩ = some (.int .i64 0) := (blk_cell BK234.out 5).trans rfl
            have hfz19_0 := blk_frozen BK234.out 0
            have hfz19_1 := blk_frozen BK234.out 1
            have hfz19_2 := blk_frozen BK234.out 2
            have hfz19_3 := blk_frozen BK234.out 3
            have hfz19_4 := blk_frozen BK234.out 4
            have hfz19_5 := blk_frozen BK234.out 5
            go_wp2_with (first | ((with_reducible refine gate_callee (f := 56) rfl ?_); refine goesL_ (some 27) rfl rfl Try.func56 (by kernel_rfl) rfl #[.agg #[.int .i64 ((rd_T26 l0 x21_2).f0), .int .i64 ((rd_T26 l0 x21_2).f1), .int .i64 ((rd_T26 l0 x21_2).f2), .int .i64 ((rd_T26 l0 x21_2).f3), .int .i64 ((rd_T26 l0 x21_2).f4), .int .i64 ((rd_T26 l0 x21_2).f5)]] rfl (by simp only [zA_, zB_, zD_] <;> rfl) ?_; (with_reducible refine (impl_Step_valid.calls k2 ((rd_T26 l0 x21_2).f0) ((rd_T26 l0 x21_2).f1) ((rd_T26 l0 x21_2).f2) ((rd_T26 l0 x21_2).f3) ((rd_T26 l0 x21_2).f4) ((rd_T26 l0 x21_2).f5) true _ A15.out).mono ?_); rintro e w20 ⟨rfl, hb⟩; refine ⟨_, rfl, ?_⟩; have n0_ := Aside0.mk (blk_below (g := gb234) (o := .cells #[.int .i64 ((rd_T26 l0 x21_2).f0), .int .i64 ((rd_T26 l0 x21_2).f1), .int .i64 ((rd_T26 l0 x21_2).f2), .int .i64 ((rd_T26 l0 x21_2).f3), .int .i64 ((rd_T26 l0 x21_2).f4), .int .i64 ((rd_T26 l0 x21_2).f5)] 26 (0, 0)) (by (with_reducible repeat (first | refine on_ ?_ _ | refine od_ ?_ | refine oa_ ?_ _)); refine blk_put (cs := #[.int .i64 ((rd_T26 l0 x21_2).f0), .int .i64 ((rd_T26 l0 x21_2).f1), .int .i64 ((rd_T26 l0 x21_2).f2), .int .i64 ((rd_T26 l0 x21_2).f3), .int .i64 ((rd_T26 l0 x21_2).f4), .int .i64 0]) ?_ 5 _ rfl; refine blk_put (cs := #[.int .i64 ((rd_T26 l0 x21_2).f0), .int .i64 ((rd_T26 l0 x21_2).f1), .int .i64 ((rd_T26 l0 x21_2).f2), .int .i64 ((rd_T26 l0 x21_2).f3), .int .i64 0, .int .i64 0]) ?_ 4 _ rfl; refine blk_put (cs := #[.int .i64 ((rd_T26 l0 x21_2).f0), .int .i64 ((rd_T26 l0 x21_2).f1), .int .i64 ((rd_T26 l0 x21_2).f2), .int .i64 0, .int .i64 0, .int .i64 0]) ?_ 3 _ rfl; refine blk_put (cs := #[.int .i64 ((rd_T26 l0 x21_2).f0), .int .i64 ((rd_T26 l0 x21_2).f1), .int .i64 0, .int .i64 0, .int .i64 0, .int .i64 0]) ?_ 2 _ rfl; refine blk_put (cs := #[.int .i64 ((rd_T26 l0 x21_2).f0), .int .i64 0, .int .i64 0, .int .i64 0, .int .i64 0, .int .i64 0]) ?_ 1 _ rfl; refine blk_put (cs := #[.int .i64 0, .int .i64 0, .int .i64 0, .int .i64 0, .int .i64 0, .int .i64 0]) ?_ 0 _ rfl; (with_reducible repeat (first | refine on_ ?_ _ | refine od_ ?_ | refine oa_ ?_ _)); exact BK234.out) hb); have n1_ := Aside0.mk (below_step (by repeat (first | (with_reducible first | exact HB.out | apply ba_ | apply bn_ | apply bd_ | refine bs_ ?_ GE234.out) | exact HB.out)) hb); clear BK234; clear HB; have BK234 := n0_; have HB := n1_; clear n0_ n1_; (try clear hb); (try clear hb2); (try clear hk); (try clear hi); have hcz21_0 : w20.cell? ⟨gb234, 0, none⟩ = some (.int .i64 ((rd_T26 l0 x21_2).f0)) := (blk_cell BK234.out 0).trans rfl; have hcz21_1 : w20.cell? ⟨gb234, 1, none⟩ = some (.int .i64 ((rd_T26 l0 x21_2).f1)) := (blk_cell BK234.out 1).trans rfl; have hcz21_2 : w20.cell? ⟨gb234, 2, none⟩ = some (.int .i64 ((rd_T26 l0 x21_2).f2)) := (blk_cell BK234.out 2).trans rfl; have hcz21_3 : w20.cell? ⟨gb234, 3, none⟩ = some (.int .i64 ((rd_T26 l0 x21_2).f3)) := (blk_cell BK234.out 3).trans rfl; have hcz21_4 : w20.cell? ⟨gb234, 4, none⟩ = some (.int .i64 ((rd_T26 l0 x21_2).f4)) := (blk_cell BK234.out 4).trans rfl; have hcz21_5 : w20.cell? ⟨gb234, 5, none⟩ = some (.int .i64 ((rd_T26 l0 x21_2).f5)) := (blk_cell BK234.out 5).trans rfl; have hfz21_0 := blk_frozen BK234.out 0; have hfz21_1 := blk_frozen BK234.out 1; have hfz21_2 := blk_frozen BK234.out 2; have hfz21_3 := blk_frozen BK234.out 3; have hfz21_4 := blk_frozen BK234.out 4; have hfz21_5 := blk_frozen BK234.out 5) | (go_at_call 60; (with_reducible refine (impl_Step_jumps.calls ((rd_T26 l0 x21_2).f0) ((rd_T26 l0 x21_2).f1) ((rd_T26 l0 x21_2).f2) ((rd_T26 l0 x21_2).f3) ((rd_T26 l0 x21_2).f4) ((rd_T26 l0 x21_2).f5) true _ A17.out).mono ?_); rintro e w22 ⟨rfl, hb⟩; have n0_ := Aside0.mk (blk_below (g := gb234) (o := .cells #[.int .i64 ((rd_T26 l0 x21_2).f0), .int .i64 ((rd_T26 l0 x21_2).f1), .int .i64 ((rd_T26 l0 x21_2).f2), .int .i64 ((rd_T26 l0 x21_2).f3), .int .i64 ((rd_T26 l0 x21_2).f4), .int .i64 ((rd_T26 l0 x21_2).f5)] 26 (0, 0)) (zO_ BK234.out) hb); have n1_ := Aside0.mk (below_step (by repeat (first | (with_reducible first | exact HB.out | apply ba_ | apply bn_ | apply bd_ | refine bs_ ?_ GE234.out) | exact HB.out)) hb); clear BK234; clear HB; have BK234 := n0_; have HB := n1_; clear n0_ n1_; (try clear hb); (try clear hb2); (try clear hk); (try clear hi); have hcz23_0 : w22.cell? ⟨gb234, 0, none⟩ = some (.int .i64 ((rd_T26 l0 x21_2).f0)) := (blk_cell BK234.out 0).trans rfl; have hcz23_1 : w22.cell? ⟨gb234, 1, none⟩ = some (.int .i64 ((rd_T26 l0 x21_2).f1)) := (blk_cell BK234.out 1).trans rfl; have hcz23_2 : w22.cell? ⟨gb234, 2, none⟩ = some (.int .i64 ((rd_T26 l0 x21_2).f2)) := (blk_cell BK234.out 2).trans rfl; have hcz23_3 : w22.cell? ⟨gb234, 3, none⟩ = some (.int .i64 ((rd_T26 l0 x21_2).f3)) := (blk_cell BK234.out 3).trans rfl; have hcz23_4 : w22.cell? ⟨gb234, 4, none⟩ = some (.int .i64 ((rd_T26 l0 x21_2).f4)) := (blk_cell BK234.out 4).trans rfl; have hcz23_5 : w22.cell? ⟨gb234, 5, none⟩ = some (.int .i64 ((rd_T26 l0 x21_2).f5)) := (blk_cell BK234.out 5).trans rfl; have hfz23_0 := blk_frozen BK234.out 0; have hfz23_1 := blk_frozen BK234.out 1; have hfz23_2 := blk_frozen BK234.out 2; have hfz23_3 := blk_frozen BK234.out 3; have hfz23_4 := blk_frozen BK234.out 4; have hfz23_5 := blk_frozen BK234.out 5))
            go_meet
            case rel => exact ⟨_, (decide ((wrap64 ((wrap64 (x21_2 + ((rd_T26 l0 x21_2).f5))) + 1)) ≥ (l0.length : Int))), (by first | rfl | (simp; done) | (simp [*]; done)), H', ⟨by have := HJ1.out; have := HK2.out; first | omega | exact Nat.le_refl _⟩, ⟨zO_ BK234.out⟩, ⟨by repeat (first | (with_reducible first | exact HB.out | apply ba_ | apply bn_ | apply bd_ | refine bs_ ?_ GE234.out) | exact HB.out)⟩⟩
           ·replace c18 := Bool.eq_false_iff.mpr c18
            subst c18
            have H1 : (impl_GoodProgram.j2 k2 l0 l0 (l0.length : Int) x21_2 false) = some r := by rw [if_neg (show ¬ (false = true) by decide)] at H; exact H
            clear H
            have H := H1
            clear H1
            have H' := Aside0.mk H
            clear H
            have hcz24_0 : w13.cell? ⟨gb234, 0, none⟩ = some (.int .i64 0) := (blk_cell BK234.out 0).trans rfl
            have hcz24_1 : w13.cell? ⟨gb234, 1, none⟩ = some (.int .i64 0) := (blk_cell BK234.out 1).trans rfl
            have hcz24_2 : w13.cell? ⟨gb234, 2, none⟩ = some (.int .i64 0) := (blk_cell BK234.out 2).trans rfl
            have hcz24_3 : w13.cell? ⟨gb234, 3, none⟩ = some (.int .i64 0) := (blk_cell BK234.out 3).trans rfl
            have hcz24_4 : w13.cell? ⟨gb234, 4, none⟩ = some (.int .i64 0) := (blk_cell BK234.out 4).trans rfl
            have hcz24_5 : w13.cell? ⟨gb234, 5, none⟩ = some (.int .i64 0) := (blk_cell BK234.out 5).trans rfl
            have hfz24_0 := blk_frozen BK234.out 0
            have hfz24_1 := blk_frozen BK234.out 1
            have hfz24_2 := blk_frozen BK234.out 2
            have hfz24_3 := blk_frozen BK234.out 3
            have hfz24_4 := blk_frozen BK234.out 4
            have hfz24_5 := blk_frozen BK234.out 5
            go_wp2_with (first | ((with_reducible refine gate_callee (f := 56) rfl ?_); refine goesL_ (some 27) rfl rfl Try.func56 (by kernel_rfl) rfl #[.agg #[.int .i64 ((rd_T26 l0 x21_2).f0), .int .i64 ((rd_T26 l0 x21_2).f1), .int .i64 ((rd_T26 l0 x21_2).f2), .int .i64 ((rd_T26 l0 x21_2).f3), .int .i64 ((rd_T26 l0 x21_2).f4), .int .i64 ((rd_T26 l0 x21_2).f5)]] rfl (by simp only [zA_, zB_, zD_] <;> rfl) ?_; (with_reducible refine (impl_Step_valid.calls k2 ((rd_T26 l0 x21_2).f0) ((rd_T26 l0 x21_2).f1) ((rd_T26 l0 x21_2).f2) ((rd_T26 l0 x21_2).f3) ((rd_T26 l0 x21_2).f4) ((rd_T26 l0 x21_2).f5) true _ A15.out).mono ?_); rintro e w25 ⟨rfl, hb⟩; refine ⟨_, rfl, ?_⟩; have n0_ := Aside0.mk (blk_below (g := gb234) (o := .cells #[.int .i64 ((rd_T26 l0 x21_2).f0), .int .i64 ((rd_T26 l0 x21_2).f1), .int .i64 ((rd_T26 l0 x21_2).f2), .int .i64 ((rd_T26 l0 x21_2).f3), .int .i64 ((rd_T26 l0 x21_2).f4), .int .i64 ((rd_T26 l0 x21_2).f5)] 26 (0, 0)) (by (with_reducible repeat (first | refine on_ ?_ _ | refine od_ ?_ | refine oa_ ?_ _)); refine blk_put (cs := #[.int .i64 ((rd_T26 l0 x21_2).f0), .int .i64 ((rd_T26 l0 x21_2).f1), .int .i64 ((rd_T26 l0 x21_2).f2), .int .i64 ((rd_T26 l0 x21_2).f3), .int .i64 ((rd_T26 l0 x21_2).f4), .int .i64 0]) ?_ 5 _ rfl; refine blk_put (cs := #[.int .i64 ((rd_T26 l0 x21_2).f0), .int .i64 ((rd_T26 l0 x21_2).f1), .int .i64 ((rd_T26 l0 x21_2).f2), .int .i64 ((rd_T26 l0 x21_2).f3), .int .i64 0, .int .i64 0]) ?_ 4 _ rfl; refine blk_put (cs := #[.int .i64 ((rd_T26 l0 x21_2).f0), .int .i64 ((rd_T26 l0 x21_2).f1), .int .i64 ((rd_T26 l0 x21_2).f2), .int .i64 0, .int .i64 0, .int .i64 0]) ?_ 3 _ rfl; refine blk_put (cs := #[.int .i64 ((rd_T26 l0 x21_2).f0), .int .i64 ((rd_T26 l0 x21_2).f1), .int .i64 0, .int .i64 0, .int .i64 0, .int .i64 0]) ?_ 2 _ rfl; refine blk_put (cs := #[.int .i64 ((rd_T26 l0 x21_2).f0), .int .i64 0, .int .i64 0, .int .i64 0, .int .i64 0, .int .i64 0]) ?_ 1 _ rfl; refine blk_put (cs := #[.int .i64 0, .int .i64 0, .int .i64 0, .int .i64 0, .int .i64 0, .int .i64 0]) ?_ 0 _ rfl; (with_reducible repeat (first | refine on_ ?_ _ | refine od_ ?_ | refine oa_ ?_ _)); exact BK234.out) hb); have n1_ := Aside0.mk (below_step (by repeat (first | (with_reducible first | exact HB.out | apply ba_ | apply bn_ | apply bd_ | refine bs_ ?_ GE234.out) | exact HB.out)) hb); clear BK234; clear HB; have BK234 := n0_; have HB := n1_; clear n0_ n1_; (try clear hb); (try clear hb2); (try clear hk); (try clear hi); have hcz26_0 : w25.cell? ⟨gb234, 0, none⟩ = some (.int .i64 ((rd_T26 l0 x21_2).f0)) := (blk_cell BK234.out 0).trans rfl; have hcz26_1 : w25.cell? ⟨gb234, 1, none⟩ = some (.int .i64 ((rd_T26 l0 x21_2).f1)) := (blk_cell BK234.out 1).trans rfl; have hcz26_2 : w25.cell? ⟨gb234, 2, none⟩ = some (.int .i64 ((rd_T26 l0 x21_2).f2)) := (blk_cell BK234.out 2).trans rfl; have hcz26_3 : w25.cell? ⟨gb234, 3, none⟩ = some (.int .i64 ((rd_T26 l0 x21_2).f3)) := (blk_cell BK234.out 3).trans rfl; have hcz26_4 : w25.cell? ⟨gb234, 4, none⟩ = some (.int .i64 ((rd_T26 l0 x21_2).f4)) := (blk_cell BK234.out 4).trans rfl; have hcz26_5 : w25.cell? ⟨gb234, 5, none⟩ = some (.int .i64 ((rd_T26 l0 x21_2).f5)) := (blk_cell BK234.out 5).trans rfl; have hfz26_0 := blk_frozen BK234.out 0; have hfz26_1 := blk_frozen BK234.out 1; have hfz26_2 := blk_frozen BK234.out 2; have hfz26_3 := blk_frozen BK234.out 3; have hfz26_4 := blk_frozen BK234.out 4; have hfz26_5 := blk_frozen BK234.out 5) | (go_at_call 60; (with_reducible refine (impl_Step_jumps.calls ((rd_T26 l0 x21_2).f0) ((rd_T26 l0 x21_2).f1) ((rd_T26 l0 x21_2).f2) ((rd_T26 l0 x21_2).f3) ((rd_T26 l0 x21_2).f4) ((rd_T26 l0 x21_2).f5) false _ A17.out).mono ?_); rintro e w27 ⟨rfl, hb⟩; have n0_ := Aside0.mk (blk_below (g := gb234) (o := .cells #[.int .i64 ((rd_T26 l0 x21_2).f0), .int .i64 ((rd_T26 l0 x21_2).f1), .int .i64 ((rd_T26 l0 x21_2).f2), .int .i64 ((rd_T26 l0 x21_2).f3), .int .i64 ((rd_T26 l0 x21_2).f4), .int .i64 ((rd_T26 l0 x21_2).f5)] 26 (0, 0)) (zO_ BK234.out) hb); have n1_ := Aside0.mk (below_step (by repeat (first | (with_reducible first | exact HB.out | apply ba_ | apply bn_ | apply bd_ | refine bs_ ?_ GE234.out) | exact HB.out)) hb); clear BK234; clear HB; have BK234 := n0_; have HB := n1_; clear n0_ n1_; (try clear hb); (try clear hb2); (try clear hk); (try clear hi)))
            go_meet
            case rel => exact ⟨_, (false), (by first | rfl | (simp; done) | (simp [*]; done)), H', ⟨by have := HJ1.out; have := HK2.out; first | omega | exact Nat.le_refl _⟩, ⟨zO_ BK234.out⟩, ⟨by repeat (first | (with_reducible first | exact HB.out | apply ba_ | apply bn_ | apply bd_ | refine bs_ ?_ GE234.out) | exact HB.out)⟩⟩
          ·replace c16 := Bool.eq_false_iff.mpr c16
           subst c16
           have H1 : (impl_GoodProgram.j2 k2 l0 l0 (l0.length : Int) x21_2 true) = some r := by rw [if_neg (show ¬ (false = true) by decide)] at H; exact H
           clear H
           have H := H1
           clear H1
           have H' := Aside0.mk H
           clear H
           have hcz28_0 : w13.cell? ⟨gb234, 0, none⟩ = some (.int .i64 0) := (blk_cell BK234.out 0).trans rfl
           have hcz28_1 : w13.cell? ⟨gb234, 1, none⟩ = some (.int .i64 0) := (blk_cell BK234.out 1).trans rfl
           have hcz28_2 : w13.cell? ⟨gb234, 2, none⟩ = some (.int .i64 0) := (blk_cell BK234.out 2).trans rfl
           have hcz28_3 : w13.cell? ⟨gb234, 3, none⟩ = some (.int .i64 0) := (blk_cell BK234.out 3).trans rfl
           have hcz28_4 : w13.cell? ⟨gb234, 4, none⟩ = some (.int .i64 0) := (blk_cell BK234.out 4).trans rfl
           have hcz28_5 : w13.cell? ⟨gb234, 5, none⟩ = some (.int .i64 0) := (blk_cell BK234.out 5).trans rfl
           have hfz28_0 := blk_frozen BK234.out 0
           have hfz28_1 := blk_frozen BK234.out 1
           have hfz28_2 := blk_frozen BK234.out 2
           have hfz28_3 := blk_frozen BK234.out 3
           have hfz28_4 := blk_frozen BK234.out 4
           have hfz28_5 := blk_frozen BK234.out 5
           go_wp2_with (first | ((with_reducible refine gate_callee (f := 56) rfl ?_); refine goesL_ (some 27) rfl rfl Try.func56 (by kernel_rfl) rfl #[.agg #[.int .i64 ((rd_T26 l0 x21_2).f0), .int .i64 ((rd_T26 l0 x21_2).f1), .int .i64 ((rd_T26 l0 x21_2).f2), .int .i64 ((rd_T26 l0 x21_2).f3), .int .i64 ((rd_T26 l0 x21_2).f4), .int .i64 ((rd_T26 l0 x21_2).f5)]] rfl (by simp only [zA_, zB_, zD_] <;> rfl) ?_; (with_reducible refine (impl_Step_valid.calls k2 ((rd_T26 l0 x21_2).f0) ((rd_T26 l0 x21_2).f1) ((rd_T26 l0 x21_2).f2) ((rd_T26 l0 x21_2).f3) ((rd_T26 l0 x21_2).f4) ((rd_T26 l0 x21_2).f5) false _ A15.out).mono ?_); rintro e w29 ⟨rfl, hb⟩; refine ⟨_, rfl, ?_⟩; have n0_ := Aside0.mk (blk_below (g := gb234) (o := .cells #[.int .i64 ((rd_T26 l0 x21_2).f0), .int .i64 ((rd_T26 l0 x21_2).f1), .int .i64 ((rd_T26 l0 x21_2).f2), .int .i64 ((rd_T26 l0 x21_2).f3), .int .i64 ((rd_T26 l0 x21_2).f4), .int .i64 ((rd_T26 l0 x21_2).f5)] 26 (0, 0)) (by (with_reducible repeat (first | refine on_ ?_ _ | refine od_ ?_ | refine oa_ ?_ _)); refine blk_put (cs := #[.int .i64 ((rd_T26 l0 x21_2).f0), .int .i64 ((rd_T26 l0 x21_2).f1), .int .i64 ((rd_T26 l0 x21_2).f2), .int .i64 ((rd_T26 l0 x21_2).f3), .int .i64 ((rd_T26 l0 x21_2).f4), .int .i64 0]) ?_ 5 _ rfl; refine blk_put (cs := #[.int .i64 ((rd_T26 l0 x21_2).f0), .int .i64 ((rd_T26 l0 x21_2).f1), .int .i64 ((rd_T26 l0 x21_2).f2), .int .i64 ((rd_T26 l0 x21_2).f3), .int .i64 0, .int .i64 0]) ?_ 4 _ rfl; refine blk_put (cs := #[.int .i64 ((rd_T26 l0 x21_2).f0), .int .i64 ((rd_T26 l0 x21_2).f1), .int .i64 ((rd_T26 l0 x21_2).f2), .int .i64 0, .int .i64 0, .int .i64 0]) ?_ 3 _ rfl; refine blk_put (cs := #[.int .i64 ((rd_T26 l0 x21_2).f0), .int .i64 ((rd_T26 l0 x21_2).f1), .int .i64 0, .int .i64 0, .int .i64 0, .int .i64 0]) ?_ 2 _ rfl; refine blk_put (cs := #[.int .i64 ((rd_T26 l0 x21_2).f0), .int .i64 0, .int .i64 0, .int .i64 0, .int .i64 0, .int .i64 0]) ?_ 1 _ rfl; refine blk_put (cs := #[.int .i64 0, .int .i64 0, .int .i64 0, .int .i64 0, .int .i64 0, .int .i64 0]) ?_ 0 _ rfl; (with_reducible repeat (first | refine on_ ?_ _ | refine od_ ?_ | refine oa_ ?_ _)); exact BK234.out) hb); have n1_ := Aside0.mk (below_step (by repeat (first | (with_reducible first | exact HB.out | apply ba_ | apply bn_ | apply bd_ | refine bs_ ?_ GE234.out) | exact HB.out)) hb); clear BK234; clear HB; have BK234 := n0_; have HB := n1_; clear n0_ n1_; (try clear hb); (try clear hb2); (try clear hk); (try clear hi)))
           go_meet
           case rel => exact ⟨_, (true), (by first | rfl | (simp; done) | (simp [*]; done)), H', ⟨by have := HJ1.out; have := HK2.out; first | omega | exact Nat.le_refl _⟩, ⟨zO_ BK234.out⟩, ⟨by repeat (first | (with_reducible first | exact HB.out | apply ba_ | apply bn_ | apply bd_ | refine bs_ ?_ GE234.out) | exact HB.out)⟩⟩
         case rest =>
          clear HC12
          obtain ⟨kq, x42_11, rfl, HA, HJ11, BK234, HB⟩ := hcut
          cases kq with
          | zero => exact absurd HA.out (by simp [impl_GoodProgram.j2])
          | succ kj11 =>
           have H := HA.out
           clear HA
           simp only [impl_GoodProgram.j2] at H
           by_cases c30 : x42_11 = true
           ·subst c30
            have H1 : (some false) = some r := by rw [if_pos rfl] at H; exact H
            clear H
            have H := H1
            clear H1
            obtain rfl := Option.some.inj H
            go_wp2
            go_ret
            exact ⟨by first | rfl | (simp <;> rfl) | (simp [*] <;> rfl), by repeat (first | (with_reducible first | exact HB.out | apply ba_ | apply bn_ | apply bd_ | refine bs_ ?_ GE234.out) | exact HB.out)⟩
           ·replace c30 := Bool.eq_false_iff.mpr c30
            subst c30
            have H1 : (impl_GoodProgram.l0 kj11 l0 l0 (l0.length : Int) (wrap64 (x21_2 + 1))) = some r := by rw [if_neg (show ¬ (false = true) by decide)] at H; exact H
            clear H
            have H := H1
            clear H1
            have H' := Aside0.mk H
            clear H
            go_wp2
            go_roundg kj11
            case measure => have := HJ1.out; have := HK2.out; have := HJ11.out; omega
            case rel => exact ⟨(wrap64 (x21_2 + 1)), (by first | rfl | (simp; done) | (simp [*]; done)), H', ⟨by have := HJ1.out; have := HK2.out; have := HJ11.out; omega⟩, ⟨by repeat (first | (with_reducible first | exact HB.out | apply ba_ | apply bn_ | apply bd_ | refine bs_ ?_ GE234.out) | exact HB.out)⟩⟩
        rw [if_neg c11] at H
        exact absurd H (by simp)
       rw [if_neg c10] at H
       exact absurd H (by simp)
      rw [if_neg c9] at H
      have c9b0 : decide (x21_2 < (l0.length : Int)) = false := decide_eq_false c9
      clear c9
      obtain rfl := Option.some.inj H
      go_wp2
      go_ret
      exact ⟨by first | rfl | (simp <;> rfl) | (simp [*] <;> rfl), zb_ HB.out⟩
end Go.Proofs.Ytjopmdogdmdanaa.PFnExactTraceOf
-- squeezed
