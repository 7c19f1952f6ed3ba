-- Made by a program of this session (wip/tools), which leans on the kit's print: checked by Lean alone.
import Derived.Test.YtpkbjgmeejlchaaDoorPFnNextsx0
import Derived.Test.YtpkbjgmeejlchaaDoorPFnNextsx3
namespace Go.Proofs.YtpkbjgmeejlchaaDoor.PFnNexts
open Go.RowKit Go.Proofs.YtpkbjgmeejlchaaDoorW.PrintWords Go.Proofs.YtpkbjgmeejlchaaDoorW.PrintLast Go.Proofs.YtpkbjgmeejlchaaDoorW.PrintMore
attribute [local go_sem] max2_int min2_int max_two min_two max_three min_three max_four min_four   -- for this text's walks alone
set_option linter.unusedVariables false
set_option linter.unusedSimpArgs false
def fld_ (a0_0: Int) (a0_1: Int) (a0_2: Int) (a0_3: Int) (a0_4: Int) (a0_5: Int) : Nat → Int
 | 0 => a0_0
 | 1 => a0_1
 | 2 => a0_2
 | 3 => a0_3
 | 4 => a0_4
 | _ => a0_5
def zr_ (i j : Nat) (r : Int) : Int := if j = i then 0 else r
theorem fieldAt_cases (a : Int) : fieldAt_ a = 1 ∨ fieldAt_ a = 2 ∨ fieldAt_ a = 3 ∨ fieldAt_ a = 4 ∨ fieldAt_ a = 5 := by
 unfold fieldAt_
 repeat' split
 all_goals simp
def impl_Step_valid.l0 : Nat → Int → Int → Int → Int → Int → Int → ByteArray → Int → Int → Int → Int → Int → Int → Option Bool
 | 0, _, _, _, _, _, _, _, _, _, _, _, _, _ => none
 | k + 1, a0_0, a0_1, a0_2, a0_3, a0_4, a0_5, z, r_1, r_2, r_3, r_4, r_5, x => if x < (z.size : Int) then (if 0 ≤ x then ((impl_Step_ranges.f k a0_0 a0_1 a0_2 a0_3 a0_4 a0_5 (bt z x)).bind fun p => ((impl_in.f (fld_ a0_0 a0_1 a0_2 a0_3 a0_4 a0_5 (fieldAt_ (bt z x))) p.1 p.2).bind fun t => if t = true then impl_Step_valid.l0 k a0_0 a0_1 a0_2 a0_3 a0_4 a0_5 z (zr_ 1 (fieldAt_ (bt z x)) r_1) (zr_ 2 (fieldAt_ (bt z x)) r_2) (zr_ 3 (fieldAt_ (bt z x)) r_3) (zr_ 4 (fieldAt_ (bt z x)) r_4) (zr_ 5 (fieldAt_ (bt z x)) r_5) (wrap64 (x + 1)) else some false)) else none) else ((impl_in.f a0_0 1 11).bind fun t => if t = true then some (decide (r_1 = 0 ∧ r_2 = 0 ∧ r_3 = 0 ∧ r_4 = 0 ∧ r_5 = 0)) else some false)
def impl_Step_valid.f (k : Nat) (a0_0 : Int) (a0_1 : Int) (a0_2 : Int) (a0_3 : Int) (a0_4 : Int) (a0_5 : Int) : Option Bool := (impl_fields.f k a0_0).bind fun z => impl_Step_valid.l0 k a0_0 a0_1 a0_2 a0_3 a0_4 a0_5 z a0_1 a0_2 a0_3 a0_4 a0_5 0
theorem impl_Step_valid.mono_l : ∀ k, (∀ y0 y1 y2 y3 y4 y5 y6 y7 y8 y9 y10 y11 y12, LeO (impl_Step_valid.l0 k y0 y1 y2 y3 y4 y5 y6 y7 y8 y9 y10 y11 y12) (impl_Step_valid.l0 (k + 1) y0 y1 y2 y3 y4 y5 y6 y7 y8 y9 y10 y11 y12))
 | 0 => fun _ _ _ _ _ _ _ _ _ _ _ _ _ r h => by simp [impl_Step_valid.l0] at h
 | k + 1 => by
  have ih0 := impl_Step_valid.mono_l k
  intro y0 y1 y2 y3 y4 y5 y6 y7 y8 y9 y10 y11 y12
  unfold impl_Step_valid.l0
  repeat' first
  | (with_reducible exact ih0 _ _ _ _ _ _ _ _ _ _ _ _ _)
  | (with_reducible exact impl_Step_ranges.mono _ _ _ _ _ _ _ _)
  | (with_reducible exact LeO.refl _)
  | (with_reducible exact LeO.none _)
  | (with_reducible refine LeO.ite ?_ ?_)
  | (with_reducible refine LeO.bind ?_ (fun _ => ?_))
theorem impl_Step_valid.mono : ∀ a0 a1 a2 a3 a4 a5 k, LeO (impl_Step_valid.f k a0 a1 a2 a3 a4 a5) (impl_Step_valid.f (k + 1) a0 a1 a2 a3 a4 a5) := by
 intro a0 a1 a2 a3 a4 a5 k
 have ih0 := impl_Step_valid.mono_l k
 unfold impl_Step_valid.f
 repeat' first
 | (with_reducible exact ih0 _ _ _ _ _ _ _ _ _ _ _ _ _)
 | (with_reducible exact impl_fields.mono _ _)
 | (with_reducible exact LeO.refl _)
 | (with_reducible refine LeO.bind ?_ (fun _ => ?_))
set_option maxHeartbeats 1000000 in
set_option maxRecDepth 100000 in
theorem impl_Step_valid.calls (k : Nat) (a0_0 : Int) (a0_1 : Int) (a0_2 : Int) (a0_3 : Int) (a0_4 : Int) (a0_5 : Int) (r : Bool) (w : World) (h : impl_Step_valid.f k a0_0 a0_1 a0_2 a0_3 a0_4 a0_5 = some r) :
  Calls Tryd.prog 23 #[.agg #[.int .i64 a0_0, .int .i64 a0_1, .int .i64 a0_2, .int .i64 a0_3, .int .i64 a0_4, .int .i64 a0_5]] w fun e w' => e = .returned (.bool r) ∧ Below w.heap.size w w' := by
 have hu26 := Tryd.underlying31
 have HB := Aside0.mk (Below.refl w.heap.size w)
 unfold impl_Step_valid.f at h
 replace h := Option.bind_eq_some_iff.mp h
 obtain ⟨z, G0', h⟩ := h
 have G0 := Aside0.mk G0'
 have G1 := Aside0.mk h
 clear h G0'
 go_enter Tryd.func23, Tryd.ntmps23
 go_upto_region 3 with (first | ((with_reducible refine gate_dst (N := 1) rfl ?_); refine box_event ?hg (N := 1) ?hd (cs := #[.int .i64 a0_0, .int .i64 a0_1, .int .i64 a0_2, .int .i64 a0_3, .int .i64 a0_4, .int .i64 a0_5]) (t := 31) ?hr ?_; (case hd => rfl); (case hg => rfl); (case hr => first | (go_simp; done) | (go_simp; rfl)); intro gs hg w4 hbox hb; have n0_ := Aside0.mk (below_step (by repeat (first | (with_reducible first | exact HB.out | apply below_alloc | apply pw_below_drewN | apply below_drew1 | refine below_set ?_ GS.out | refine below_set ?_ GR.out) | exact HB.out)) hb); have n1_ := Aside0.mk hbox; have n2_ := Aside0.mk ((by rw [hg]; exact (below_size (by repeat (first | (with_reducible first | exact HB.out | apply below_alloc | apply pw_below_drewN | apply below_drew1 | refine below_set ?_ GS.out | refine below_set ?_ GR.out) | exact HB.out))) : w.heap.size ≤ gs)); clear HB; have HB := n0_; have BS := n1_; have GS := n2_; clear n0_ n1_ n2_ hb hg hbox; have hcgs0 : w4.cell? ⟨gs, 0, none⟩ = some (.int .i64 a0_0) := (blk_cell BS.out 0).trans rfl; have hcgs1 : w4.cell? ⟨gs, 1, none⟩ = some (.int .i64 a0_1) := (blk_cell BS.out 1).trans rfl; have hcgs2 : w4.cell? ⟨gs, 2, none⟩ = some (.int .i64 a0_2) := (blk_cell BS.out 2).trans rfl; have hcgs3 : w4.cell? ⟨gs, 3, none⟩ = some (.int .i64 a0_3) := (blk_cell BS.out 3).trans rfl; have hcgs4 : w4.cell? ⟨gs, 4, none⟩ = some (.int .i64 a0_4) := (blk_cell BS.out 4).trans rfl; have hcgs5 : w4.cell? ⟨gs, 5, none⟩ = some (.int .i64 a0_5) := (blk_cell BS.out 5).trans rfl; have hfgs0 := blk_frozen BS.out 0; have hfgs1 := blk_frozen BS.out 1; have hfgs2 := blk_frozen BS.out 2; have hfgs3 := blk_frozen BS.out 3; have hfgs4 := blk_frozen BS.out 4; have hfgs5 := blk_frozen BS.out 5))
 obtain ⟨w5, hw5⟩ : ∃ w5, w5 = w4.alloc (.cells #[.int .i64 0, .int .i64 a0_1, .int .i64 a0_2, .int .i64 a0_3, .int .i64 a0_4, .int .i64 a0_5] 31 (0, 0)) := ⟨_, rfl⟩
 obtain ⟨gr, hgr⟩ : ∃ g, g = w4.heap.size := ⟨_, rfl⟩
 have n0_ := Aside0.mk (show w5.heap[gs]? = some (.cells #[.int .i64 a0_0, .int .i64 a0_1, .int .i64 a0_2, .int .i64 a0_3, .int .i64 a0_4, .int .i64 a0_5] 31 (0, 0)) by subst hw5; exact blk_alloc BS.out _)
 have n1_ := Aside0.mk (show w5.heap[gr]? = some (.cells #[.int .i64 0, .int .i64 a0_1, .int .i64 a0_2, .int .i64 a0_3, .int .i64 a0_4, .int .i64 a0_5] 31 (0, 0)) by subst hw5 hgr; exact blk_new w4 _)
 have n2_ := Aside0.mk (show Below w.heap.size w w5 by subst hw5; exact below_alloc HB.out _)
 have GR := Aside0.mk (show w.heap.size ≤ gr by subst hgr; exact below_size HB.out)
 have NE := Aside0.mk (show gs ≠ gr by subst hgr; have := blk_lt BS.out; omega)
 rw [← hw5, ← hgr]
 clear hw5 hgr BS HB hcgs0 hfgs0 hcgs1 hfgs1 hcgs2 hfgs2 hcgs3 hfgs3 hcgs4 hfgs4 hcgs5 hfgs5
 have BS := n0_
 have BR := n1_
 have HB := n2_
 clear n0_ n1_ n2_
 have hcgs0 : w5.cell? ⟨gs, 0, none⟩ = some (.int .i64 a0_0) := (blk_cell BS.out 0).trans rfl
 have hcgs1 : w5.cell? ⟨gs, 1, none⟩ = some (.int .i64 a0_1) := (blk_cell BS.out 1).trans rfl
 have hcgs2 : w5.cell? ⟨gs, 2, none⟩ = some (.int .i64 a0_2) := (blk_cell BS.out 2).trans rfl
 have hcgs3 : w5.cell? ⟨gs, 3, none⟩ = some (.int .i64 a0_3) := (blk_cell BS.out 3).trans rfl
 have hcgs4 : w5.cell? ⟨gs, 4, none⟩ = some (.int .i64 a0_4) := (blk_cell BS.out 4).trans rfl
 have hcgs5 : w5.cell? ⟨gs, 5, none⟩ = some (.int .i64 a0_5) := (blk_cell BS.out 5).trans rfl
 have hfgs0 := blk_frozen BS.out 0
 have hfgs1 := blk_frozen BS.out 1
 have hfgs2 := blk_frozen BS.out 2
 have hfgs3 := blk_frozen BS.out 3
 have hfgs4 := blk_frozen BS.out 4
 have hfgs5 := blk_frozen BS.out 5
 go_wp2_with (go_at_call 36; (with_reducible refine (impl_fields.calls k a0_0 z _ G0.out).mono ?_); rintro e w' ⟨rfl, ⟨nd, rfl⟩⟩)
 go_loopg [4, 5, 6, 7, 14] k (fun kq v4 v5 v6 v7 v14 w' => ∃ (x r_1 r_2 r_3 r_4 r_5 : Int), v14 = .int .i64 x ∧ Aside0 (impl_Step_valid.l0 kq a0_0 a0_1 a0_2 a0_3 a0_4 a0_5 z r_1 r_2 r_3 r_4 r_5 x = some r) ∧ Aside0 (kq ≤ k) ∧ Aside0 (w'.heap[gs]? = some (.cells #[.int .i64 a0_0, .int .i64 a0_1, .int .i64 a0_2, .int .i64 a0_3, .int .i64 a0_4, .int .i64 a0_5] 31 (0, 0))) ∧ Aside0 (w'.heap[gr]? = some (.cells #[.int .i64 0, .int .i64 r_1, .int .i64 r_2, .int .i64 r_3, .int .i64 r_4, .int .i64 r_5] 31 (0, 0))) ∧ Aside0 (Below w.heap.size w w'))
 case atStart => exact ⟨0, a0_1, a0_2, a0_3, a0_4, a0_5, rfl, G1, ⟨Nat.le_refl _⟩, ⟨by (with_reducible repeat (first | refine blk_drewN ?_ _ | refine blk_drew ?_ | refine blk_alloc ?_ _)); exact BS.out⟩, ⟨by (with_reducible repeat (first | refine blk_drewN ?_ _ | refine blk_drew ?_ | refine blk_alloc ?_ _)); exact BR.out⟩, ⟨by repeat (first | (with_reducible first | exact HB.out | apply below_alloc | apply pw_below_drewN | apply below_drew1 | refine below_set ?_ GS.out | refine below_set ?_ GR.out) | exact HB.out)⟩⟩
 case round =>
  clear G1 BS BR HB hcgs0 hfgs0 hcgs1 hfgs1 hcgs2 hfgs2 hcgs3 hfgs3 hcgs4 hfgs4 hcgs5 hfgs5
  obtain ⟨x, r_1, r_2, r_3, r_4, r_5, rfl, HA, HK1, BS, BR, HB⟩ := hrel
  cases gk with
  | zero => exact absurd HA.out (by simp [impl_Step_valid.l0])
  | succ k1 =>
   have h := HA.out
   clear HA
   simp only [impl_Step_valid.l0] at h
   by_cases c3 : x < (z.size : Int)
   ·have c3b : decide (x < (z.size : Int)) = true := decide_eq_true c3
    rw [if_pos c3] at h
    by_cases c4 : 0 ≤ x
    ·rw [if_pos c4] at h
     have p6 := eq_true c4
     have q6 := eq_true c3
     have hx6 := bt_at z x
     clear c3 c4
     replace h := Option.bind_eq_some_iff.mp h
     obtain ⟨⟨lo, hi⟩, A5', h⟩ := h
     have A5 := Aside0.mk A5'
     clear A5'
     replace h := Option.bind_eq_some_iff.mp h
     obtain ⟨t, A6', h⟩ := h
     have A6 := Aside0.mk A6'
     clear A6'
     have hj := fieldAt_cases (bt z x)
     have hcgs0 : wr.cell? ⟨gs, 0, none⟩ = some (.int .i64 a0_0) := (blk_cell BS.out 0).trans rfl
     have hcgs1 : wr.cell? ⟨gs, 1, none⟩ = some (.int .i64 a0_1) := (blk_cell BS.out 1).trans rfl
     have hcgs2 : wr.cell? ⟨gs, 2, none⟩ = some (.int .i64 a0_2) := (blk_cell BS.out 2).trans rfl
     have hcgs3 : wr.cell? ⟨gs, 3, none⟩ = some (.int .i64 a0_3) := (blk_cell BS.out 3).trans rfl
     have hcgs4 : wr.cell? ⟨gs, 4, none⟩ = some (.int .i64 a0_4) := (blk_cell BS.out 4).trans rfl
     have hcgs5 : wr.cell? ⟨gs, 5, none⟩ = some (.int .i64 a0_5) := (blk_cell BS.out 5).trans rfl
     have hfgs0 := blk_frozen BS.out 0
     have hfgs1 := blk_frozen BS.out 1
     have hfgs2 := blk_frozen BS.out 2
     have hfgs3 := blk_frozen BS.out 3
     have hfgs4 := blk_frozen BS.out 4
     have hfgs5 := blk_frozen BS.out 5
     rcases hj with hj | hj | hj | hj | hj
     ·replace A6 : Aside0 (impl_in.f a0_1 lo hi = some t) := ⟨by have := A6.out; rw [hj] at this; exact this⟩
      rw [hj] at h
      cases t with
      | true =>
       have H' := Aside0.mk h
       clear h
       go_wp2_with (first | (go_at_call 36; (with_reducible refine (impl_fields.calls k a0_0 z _ G0.out).mono ?_); rintro e w' ⟨rfl, ⟨nd, rfl⟩⟩) | (go_at_call 37; (with_reducible refine (impl_Step_ranges.calls k1 a0_0 a0_1 a0_2 a0_3 a0_4 a0_5 (bt z x) lo hi _ A5.out).mono ?_); rintro e w7 ⟨rfl, hb⟩; have ngs_ := Aside0.mk (blk_below (g := gs) (o := .cells #[.int .i64 a0_0, .int .i64 a0_1, .int .i64 a0_2, .int .i64 a0_3, .int .i64 a0_4, .int .i64 a0_5] 31 (0, 0)) (by (with_reducible repeat (first | refine blk_drewN ?_ _ | refine blk_drew ?_ | refine blk_alloc ?_ _)); exact BS.out) hb); have ngr_ := Aside0.mk (blk_below (g := gr) (o := .cells #[.int .i64 0, .int .i64 r_1, .int .i64 r_2, .int .i64 r_3, .int .i64 r_4, .int .i64 r_5] 31 (0, 0)) (by (with_reducible repeat (first | refine blk_drewN ?_ _ | refine blk_drew ?_ | refine blk_alloc ?_ _)); exact BR.out) hb); have nb_ := Aside0.mk (below_step (by repeat (first | (with_reducible first | exact HB.out | apply below_alloc | apply pw_below_drewN | apply below_drew1 | refine below_set ?_ GS.out | refine below_set ?_ GR.out) | exact HB.out)) hb); clear BS BR HB; clear hcgs0 hfgs0 hcgs1 hfgs1 hcgs2 hfgs2 hcgs3 hfgs3 hcgs4 hfgs4 hcgs5 hfgs5; have BS := ngs_; have BR := ngr_; have HB := nb_; clear ngs_ ngr_ nb_ hb; have hcgs0 : w7.cell? ⟨gs, 0, none⟩ = some (.int .i64 a0_0) := (blk_cell BS.out 0).trans rfl; have hcgs1 : w7.cell? ⟨gs, 1, none⟩ = some (.int .i64 a0_1) := (blk_cell BS.out 1).trans rfl; have hcgs2 : w7.cell? ⟨gs, 2, none⟩ = some (.int .i64 a0_2) := (blk_cell BS.out 2).trans rfl; have hcgs3 : w7.cell? ⟨gs, 3, none⟩ = some (.int .i64 a0_3) := (blk_cell BS.out 3).trans rfl; have hcgs4 : w7.cell? ⟨gs, 4, none⟩ = some (.int .i64 a0_4) := (blk_cell BS.out 4).trans rfl; have hcgs5 : w7.cell? ⟨gs, 5, none⟩ = some (.int .i64 a0_5) := (blk_cell BS.out 5).trans rfl; have hfgs0 := blk_frozen BS.out 0; have hfgs1 := blk_frozen BS.out 1; have hfgs2 := blk_frozen BS.out 2; have hfgs3 := blk_frozen BS.out 3; have hfgs4 := blk_frozen BS.out 4; have hfgs5 := blk_frozen BS.out 5; have hcgr0 : w7.cell? ⟨gr, 0, none⟩ = some (.int .i64 0) := (blk_cell BR.out 0).trans rfl; have hcgr1 : w7.cell? ⟨gr, 1, none⟩ = some (.int .i64 r_1) := (blk_cell BR.out 1).trans rfl; have hcgr2 : w7.cell? ⟨gr, 2, none⟩ = some (.int .i64 r_2) := (blk_cell BR.out 2).trans rfl; have hcgr3 : w7.cell? ⟨gr, 3, none⟩ = some (.int .i64 r_3) := (blk_cell BR.out 3).trans rfl; have hcgr4 : w7.cell? ⟨gr, 4, none⟩ = some (.int .i64 r_4) := (blk_cell BR.out 4).trans rfl; have hcgr5 : w7.cell? ⟨gr, 5, none⟩ = some (.int .i64 r_5) := (blk_cell BR.out 5).trans rfl; have hfgr0 := blk_frozen BR.out 0; have hfgr1 := blk_frozen BR.out 1; have hfgr2 := blk_frozen BR.out 2; have hfgr3 := blk_frozen BR.out 3; have hfgr4 := blk_frozen BR.out 4; have hfgr5 := blk_frozen BR.out 5) | (go_at_call 38; (with_reducible refine (impl_Step_field.callsj gs (bt z x) 1 hj _).mono ?_); rintro e w' ⟨rfl, ⟨nd, rfl⟩⟩) | (go_at_call 38; (with_reducible refine (impl_Step_field.callsj gr (bt z x) 1 hj _).mono ?_); rintro e w' ⟨rfl, ⟨nd, rfl⟩⟩) | (go_at_call 19; (with_reducible refine (impl_in.calls a0_1 lo hi true _ A6.out).mono ?_); rintro e w' ⟨rfl, ⟨nd, rfl⟩⟩))
       go_roundg k1
       case measure => have := HK1.out; omega
       case rel => exact ⟨wrap64 (x + 1), zr_ 1 1 r_1, zr_ 2 1 r_2, zr_ 3 1 r_3, zr_ 4 1 r_4, zr_ 5 1 r_5, (by first | rfl | (simp; done) | (simp [*]; done)), H', ⟨by have := HK1.out; omega⟩, ⟨by (with_reducible repeat (first | refine blk_drewN ?_ _ | refine blk_drew ?_ | refine blk_alloc ?_ _)); refine blk_far ?_ NE.out _; (with_reducible repeat (first | refine blk_drewN ?_ _ | refine blk_drew ?_ | refine blk_alloc ?_ _)); exact BS.out⟩, ⟨by (with_reducible repeat (first | refine blk_drewN ?_ _ | refine blk_drew ?_ | refine blk_alloc ?_ _)); refine blk_put (cs := #[.int .i64 0, .int .i64 r_1, .int .i64 r_2, .int .i64 r_3, .int .i64 r_4, .int .i64 r_5]) ?_ 1 _ rfl; (with_reducible repeat (first | refine blk_drewN ?_ _ | refine blk_drew ?_ | refine blk_alloc ?_ _)); exact BR.out⟩, ⟨by repeat (first | (with_reducible first | exact HB.out | apply below_alloc | apply pw_below_drewN | apply below_drew1 | refine below_set ?_ GS.out | refine below_set ?_ GR.out) | exact HB.out)⟩⟩
      | false =>
       have h' : false = r := by simpa using h
       subst h'
       clear h
       go_wp2_with (first | (go_at_call 36; (with_reducible refine (impl_fields.calls k a0_0 z _ G0.out).mono ?_); rintro e w' ⟨rfl, ⟨nd, rfl⟩⟩) | (go_at_call 37; (with_reducible refine (impl_Step_ranges.calls k1 a0_0 a0_1 a0_2 a0_3 a0_4 a0_5 (bt z x) lo hi _ A5.out).mono ?_); rintro e w7 ⟨rfl, hb⟩; have ngs_ := Aside0.mk (blk_below (g := gs) (o := .cells #[.int .i64 a0_0, .int .i64 a0_1, .int .i64 a0_2, .int .i64 a0_3, .int .i64 a0_4, .int .i64 a0_5] 31 (0, 0)) (by (with_reducible repeat (first | refine blk_drewN ?_ _ | refine blk_drew ?_ | refine blk_alloc ?_ _)); exact BS.out) hb); have ngr_ := Aside0.mk (blk_below (g := gr) (o := .cells #[.int .i64 0, .int .i64 r_1, .int .i64 r_2, .int .i64 r_3, .int .i64 r_4, .int .i64 r_5] 31 (0, 0)) (by (with_reducible repeat (first | refine blk_drewN ?_ _ | refine blk_drew ?_ | refine blk_alloc ?_ _)); exact BR.out) hb); have nb_ := Aside0.mk (below_step (by repeat (first | (with_reducible first | exact HB.out | apply below_alloc | apply pw_below_drewN | apply below_drew1 | refine below_set ?_ GS.out | refine below_set ?_ GR.out) | exact HB.out)) hb); clear BS BR HB; clear hcgs0 hfgs0 hcgs1 hfgs1 hcgs2 hfgs2 hcgs3 hfgs3 hcgs4 hfgs4 hcgs5 hfgs5; have BS := ngs_; have BR := ngr_; have HB := nb_; clear ngs_ ngr_ nb_ hb; have hcgs0 : w7.cell? ⟨gs, 0, none⟩ = some (.int .i64 a0_0) := (blk_cell BS.out 0).trans rfl; have hcgs1 : w7.cell? ⟨gs, 1, none⟩ = some (.int .i64 a0_1) := (blk_cell BS.out 1).trans rfl; have hcgs2 : w7.cell? ⟨gs, 2, none⟩ = some (.int .i64 a0_2) := (blk_cell BS.out 2).trans rfl; have hcgs3 : w7.cell? ⟨gs, 3, none⟩ = some (.int .i64 a0_3) := (blk_cell BS.out 3).trans rfl; have hcgs4 : w7.cell? ⟨gs, 4, none⟩ = some (.int .i64 a0_4) := (blk_cell BS.out 4).trans rfl; have hcgs5 : w7.cell? ⟨gs, 5, none⟩ = some (.int .i64 a0_5) := (blk_cell BS.out 5).trans rfl; have hfgs0 := blk_frozen BS.out 0; have hfgs1 := blk_frozen BS.out 1; have hfgs2 := blk_frozen BS.out 2; have hfgs3 := blk_frozen BS.out 3; have hfgs4 := blk_frozen BS.out 4; have hfgs5 := blk_frozen BS.out 5; have hcgr0 : w7.cell? ⟨gr, 0, none⟩ = some (.int .i64 0) := (blk_cell BR.out 0).trans rfl; have hcgr1 : w7.cell? ⟨gr, 1, none⟩ = some (.int .i64 r_1) := (blk_cell BR.out 1).trans rfl; have hcgr2 : w7.cell? ⟨gr, 2, none⟩ = some (.int .i64 r_2) := (blk_cell BR.out 2).trans rfl; have hcgr3 : w7.cell? ⟨gr, 3, none⟩ = some (.int .i64 r_3) := (blk_cell BR.out 3).trans rfl; have hcgr4 : w7.cell? ⟨gr, 4, none⟩ = some (.int .i64 r_4) := (blk_cell BR.out 4).trans rfl; have hcgr5 : w7.cell? ⟨gr, 5, none⟩ = some (.int .i64 r_5) := (blk_cell BR.out 5).trans rfl; have hfgr0 := blk_frozen BR.out 0; have hfgr1 := blk_frozen BR.out 1; have hfgr2 := blk_frozen BR.out 2; have hfgr3 := blk_frozen BR.out 3; have hfgr4 := blk_frozen BR.out 4; have hfgr5 := blk_frozen BR.out 5) | (go_at_call 38; (with_reducible refine (impl_Step_field.callsj gs (bt z x) 1 hj _).mono ?_); rintro e w' ⟨rfl, ⟨nd, rfl⟩⟩) | (go_at_call 19; (with_reducible refine (impl_in.calls a0_1 lo hi false _ A6.out).mono ?_); rintro e w' ⟨rfl, ⟨nd, rfl⟩⟩))
       go_ret
       exact ⟨by first | rfl | (simp; done) | (simp [*]; done), by repeat (first | (with_reducible first | exact HB.out | apply below_alloc | apply pw_below_drewN | apply below_drew1 | refine below_set ?_ GS.out | refine below_set ?_ GR.out) | exact HB.out)⟩
     ·replace A6 : Aside0 (impl_in.f a0_2 lo hi = some t) := ⟨by have := A6.out; rw [hj] at this; exact this⟩
      rw [hj] at h
      cases t with
      | true =>
       have H' := Aside0.mk h
       clear h
       go_wp2_with (first | (go_at_call 36; (with_reducible refine (impl_fields.calls k a0_0 z _ G0.out).mono ?_); rintro e w' ⟨rfl, ⟨nd, rfl⟩⟩) | (go_at_call 37; (with_reducible refine (impl_Step_ranges.calls k1 a0_0 a0_1 a0_2 a0_3 a0_4 a0_5 (bt z x) lo hi _ A5.out).mono ?_); rintro e w7 ⟨rfl, hb⟩; have ngs_ := Aside0.mk (blk_below (g := gs) (o := .cells #[.int .i64 a0_0, .int .i64 a0_1, .int .i64 a0_2, .int .i64 a0_3, .int .i64 a0_4, .int .i64 a0_5] 31 (0, 0)) (by (with_reducible repeat (first | refine blk_drewN ?_ _ | refine blk_drew ?_ | refine blk_alloc ?_ _)); exact BS.out) hb); have ngr_ := Aside0.mk (blk_below (g := gr) (o := .cells #[.int .i64 0, .int .i64 r_1, .int .i64 r_2, .int .i64 r_3, .int .i64 r_4, .int .i64 r_5] 31 (0, 0)) (by (with_reducible repeat (first | refine blk_drewN ?_ _ | refine blk_drew ?_ | refine blk_alloc ?_ _)); exact BR.out) hb); have nb_ := Aside0.mk (below_step (by repeat (first | (with_reducible first | exact HB.out | apply below_alloc | apply pw_below_drewN | apply below_drew1 | refine below_set ?_ GS.out | refine below_set ?_ GR.out) | exact HB.out)) hb); clear BS BR HB; clear hcgs0 hfgs0 hcgs1 hfgs1 hcgs2 hfgs2 hcgs3 hfgs3 hcgs4 hfgs4 hcgs5 hfgs5; have BS := ngs_; have BR := ngr_; have HB := nb_; clear ngs_ ngr_ nb_ hb; have hcgs0 : w7.cell? ⟨gs, 0, none⟩ = some (.int .i64 a0_0) := (blk_cell BS.out 0).trans rfl; have hcgs1 : w7.cell? ⟨gs, 1, none⟩ = some (.int .i64 a0_1) := (blk_cell BS.out 1).trans rfl; have hcgs2 : w7.cell? ⟨gs, 2, none⟩ = some (.int .i64 a0_2) := (blk_cell BS.out 2).trans rfl; have hcgs3 : w7.cell? ⟨gs, 3, none⟩ = some (.int .i64 a0_3) := (blk_cell BS.out 3).trans rfl; have hcgs4 : w7.cell? ⟨gs, 4, none⟩ = some (.int .i64 a0_4) := (blk_cell BS.out 4).trans rfl; have hcgs5 : w7.cell? ⟨gs, 5, none⟩ = some (.int .i64 a0_5) := (blk_cell BS.out 5).trans rfl; have hfgs0 := blk_frozen BS.out 0; have hfgs1 := blk_frozen BS.out 1; have hfgs2 := blk_frozen BS.out 2; have hfgs3 := blk_frozen BS.out 3; have hfgs4 := blk_frozen BS.out 4; have hfgs5 := blk_frozen BS.out 5; have hcgr0 : w7.cell? ⟨gr, 0, none⟩ = some (.int .i64 0) := (blk_cell BR.out 0).trans rfl; have hcgr1 : w7.cell? ⟨gr, 1, none⟩ = some (.int .i64 r_1) := (blk_cell BR.out 1).trans rfl; have hcgr2 : w7.cell? ⟨gr, 2, none⟩ = some (.int .i64 r_2) := (blk_cell BR.out 2).trans rfl; have hcgr3 : w7.cell? ⟨gr, 3, none⟩ = some (.int .i64 r_3) := (blk_cell BR.out 3).trans rfl; have hcgr4 : w7.cell? ⟨gr, 4, none⟩ = some (.int .i64 r_4) := (blk_cell BR.out 4).trans rfl; have hcgr5 : w7.cell? ⟨gr, 5, none⟩ = some (.int .i64 r_5) := (blk_cell BR.out 5).trans rfl; have hfgr0 := blk_frozen BR.out 0; have hfgr1 := blk_frozen BR.out 1; have hfgr2 := blk_frozen BR.out 2; have hfgr3 := blk_frozen BR.out 3; have hfgr4 := blk_frozen BR.out 4; have hfgr5 := blk_frozen BR.out 5) | (go_at_call 38; (with_reducible refine (impl_Step_field.callsj gs (bt z x) 2 hj _).mono ?_); rintro e w' ⟨rfl, ⟨nd, rfl⟩⟩) | (go_at_call 38; (with_reducible refine (impl_Step_field.callsj gr (bt z x) 2 hj _).mono ?_); rintro e w' ⟨rfl, ⟨nd, rfl⟩⟩) | (go_at_call 19; (with_reducible refine (impl_in.calls a0_2 lo hi true _ A6.out).mono ?_); rintro e w' ⟨rfl, ⟨nd, rfl⟩⟩))
       go_roundg k1
       case measure => have := HK1.out; omega
       case rel => exact ⟨wrap64 (x + 1), zr_ 1 2 r_1, zr_ 2 2 r_2, zr_ 3 2 r_3, zr_ 4 2 r_4, zr_ 5 2 r_5, (by first | rfl | (simp; done) | (simp [*]; done)), H', ⟨by have := HK1.out; omega⟩, ⟨by (with_reducible repeat (first | refine blk_drewN ?_ _ | refine blk_drew ?_ | refine blk_alloc ?_ _)); refine blk_far ?_ NE.out _; (with_reducible repeat (first | refine blk_drewN ?_ _ | refine blk_drew ?_ | refine blk_alloc ?_ _)); exact BS.out⟩, ⟨by (with_reducible repeat (first | refine blk_drewN ?_ _ | refine blk_drew ?_ | refine blk_alloc ?_ _)); refine blk_put (cs := #[.int .i64 0, .int .i64 r_1, .int .i64 r_2, .int .i64 r_3, .int .i64 r_4, .int .i64 r_5]) ?_ 2 _ rfl; (with_reducible repeat (first | refine blk_drewN ?_ _ | refine blk_drew ?_ | refine blk_alloc ?_ _)); exact BR.out⟩, ⟨by repeat (first | (with_reducible first | exact HB.out | apply below_alloc | apply pw_below_drewN | apply below_drew1 | refine below_set ?_ GS.out | refine below_set ?_ GR.out) | exact HB.out)⟩⟩
      | false =>
       have h' : false = r := by simpa using h
       subst h'
       clear h
       go_wp2_with (first | (go_at_call 36; (with_reducible refine (impl_fields.calls k a0_0 z _ G0.out).mono ?_); rintro e w' ⟨rfl, ⟨nd, rfl⟩⟩) | (go_at_call 37; (with_reducible refine (impl_Step_ranges.calls k1 a0_0 a0_1 a0_2 a0_3 a0_4 a0_5 (bt z x) lo hi _ A5.out).mono ?_); rintro e w7 ⟨rfl, hb⟩; have ngs_ := Aside0.mk (blk_below (g := gs) (o := .cells #[.int .i64 a0_0, .int .i64 a0_1, .int .i64 a0_2, .int .i64 a0_3, .int .i64 a0_4, .int .i64 a0_5] 31 (0, 0)) (by (with_reducible repeat (first | refine blk_drewN ?_ _ | refine blk_drew ?_ | refine blk_alloc ?_ _)); exact BS.out) hb); have ngr_ := Aside0.mk (blk_below (g := gr) (o := .cells #[.int .i64 0, .int .i64 r_1, .int .i64 r_2, .int .i64 r_3, .int .i64 r_4, .int .i64 r_5] 31 (0, 0)) (by (with_reducible repeat (first | refine blk_drewN ?_ _ | refine blk_drew ?_ | refine blk_alloc ?_ _)); exact BR.out) hb); have nb_ := Aside0.mk (below_step (by repeat (first | (with_reducible first | exact HB.out | apply below_alloc | apply pw_below_drewN | apply below_drew1 | refine below_set ?_ GS.out | refine below_set ?_ GR.out) | exact HB.out)) hb); clear BS BR HB; clear hcgs0 hfgs0 hcgs1 hfgs1 hcgs2 hfgs2 hcgs3 hfgs3 hcgs4 hfgs4 hcgs5 hfgs5; have BS := ngs_; have BR := ngr_; have HB := nb_; clear ngs_ ngr_ nb_ hb; have hcgs0 : w7.cell? ⟨gs, 0, none⟩ = some (.int .i64 a0_0) := (blk_cell BS.out 0).trans rfl; have hcgs1 : w7.cell? ⟨gs, 1, none⟩ = some (.int .i64 a0_1) := (blk_cell BS.out 1).trans rfl; have hcgs2 : w7.cell? ⟨gs, 2, none⟩ = some (.int .i64 a0_2) := (blk_cell BS.out 2).trans rfl; have hcgs3 : w7.cell? ⟨gs, 3, none⟩ = some (.int .i64 a0_3) := (blk_cell BS.out 3).trans rfl; have hcgs4 : w7.cell? ⟨gs, 4, none⟩ = some (.int .i64 a0_4) := (blk_cell BS.out 4).trans rfl; have hcgs5 : w7.cell? ⟨gs, 5, none⟩ = some (.int .i64 a0_5) := (blk_cell BS.out 5).trans rfl; have hfgs0 := blk_frozen BS.out 0; have hfgs1 := blk_frozen BS.out 1; have hfgs2 := blk_frozen BS.out 2; have hfgs3 := blk_frozen BS.out 3; have hfgs4 := blk_frozen BS.out 4; have hfgs5 := blk_frozen BS.out 5; have hcgr0 : w7.cell? ⟨gr, 0, none⟩ = some (.int .i64 0) := (blk_cell BR.out 0).trans rfl; have hcgr1 : w7.cell? ⟨gr, 1, none⟩ = some (.int .i64 r_1) := (blk_cell BR.out 1).trans rfl; have hcgr2 : w7.cell? ⟨gr, 2, none⟩ = some (.int .i64 r_2) := (blk_cell BR.out 2).trans rfl; have hcgr3 : w7.cell? ⟨gr, 3, none⟩ = some (.int .i64 r_3) := (blk_cell BR.out 3).trans rfl; have hcgr4 : w7.cell? ⟨gr, 4, none⟩ = some (.int .i64 r_4) := (blk_cell BR.out 4).trans rfl; have hcgr5 : w7.cell? ⟨gr, 5, none⟩ = some (.int .i64 r_5) := (blk_cell BR.out 5).trans rfl; have hfgr0 := blk_frozen BR.out 0; have hfgr1 := blk_frozen BR.out 1; have hfgr2 := blk_frozen BR.out 2; have hfgr3 := blk_frozen BR.out 3; have hfgr4 := blk_frozen BR.out 4; have hfgr5 := blk_frozen BR.out 5) | (go_at_call 38; (with_reducible refine (impl_Step_field.callsj gs (bt z x) 2 hj _).mono ?_); rintro e w' ⟨rfl, ⟨nd, rfl⟩⟩) | (go_at_call 19; (with_reducible refine (impl_in.calls a0_2 lo hi false _ A6.out).mono ?_); rintro e w' ⟨rfl, ⟨nd, rfl⟩⟩))
       go_ret
       exact ⟨by first | rfl | (simp; done) | (simp [*]; done), by repeat (first | (with_reducible first | exact HB.out | apply below_alloc | apply pw_below_drewN | apply below_drew1 | refine below_set ?_ GS.out | refine below_set ?_ GR.out) | exact HB.out)⟩
     ·replace A6 : Aside0 (impl_in.f a0_3 lo hi = some t) := ⟨by have := A6.out; rw [hj] at this; exact this⟩
      rw [hj] at h
      cases t with
      | true =>
       have H' := Aside0.mk h
       clear h
       go_wp2_with (first | (go_at_call 36; (with_reducible refine (impl_fields.calls k a0_0 z _ G0.out).mono ?_); rintro e w' ⟨rfl, ⟨nd, rfl⟩⟩) | (go_at_call 37; (with_reducible refine (impl_Step_ranges.calls k1 a0_0 a0_1 a0_2 a0_3 a0_4 a0_5 (bt z x) lo hi _ A5.out).mono ?_); rintro e w7 ⟨rfl, hb⟩; have ngs_ := Aside0.mk (blk_below (g := gs) (o := .cells #[.int .i64 a0_0, .int .i64 a0_1, .int .i64 a0_2, .int .i64 a0_3, .int .i64 a0_4, .int .i64 a0_5] 31 (0, 0)) (by (with_reducible repeat (first | refine blk_drewN ?_ _ | refine blk_drew ?_ | refine blk_alloc ?_ _)); exact BS.out) hb); have ngr_ := Aside0.mk (blk_below (g := gr) (o := .cells #[.int .i64 0, .int .i64 r_1, .int .i64 r_2, .int .i64 r_3, .int .i64 r_4, .int .i64 r_5] 31 (0, 0)) (by (with_reducible repeat (first | refine blk_drewN ?_ _ | refine blk_drew ?_ | refine blk_alloc ?_ _)); exact BR.out) hb); have nb_ := Aside0.mk (below_step (by repeat (first | (with_reducible first | exact HB.out | apply below_alloc | apply pw_below_drewN | apply below_drew1 | refine below_set ?_ GS.out | refine below_set ?_ GR.out) | exact HB.out)) hb); clear BS BR HB; clear hcgs0 hfgs0 hcgs1 hfgs1 hcgs2 hfgs2 hcgs3 hfgs3 hcgs4 hfgs4 hcgs5 hfgs5; have BS := ngs_; have BR := ngr_; have HB := nb_; clear ngs_ ngr_ nb_ hb; have hcgs0 : w7.cell? ⟨gs, 0, none⟩ = some (.int .i64 a0_0) := (blk_cell BS.out 0).trans rfl; have hcgs1 : w7.cell? ⟨gs, 1, none⟩ = some (.int .i64 a0_1) := (blk_cell BS.out 1).trans rfl; have hcgs2 : w7.cell? ⟨gs, 2, none⟩ = some (.int .i64 a0_2) := (blk_cell BS.out 2).trans rfl; have hcgs3 : w7.cell? ⟨gs, 3, none⟩ = some (.int .i64 a0_3) := (blk_cell BS.out 3).trans rfl; have hcgs4 : w7.cell? ⟨gs, 4, none⟩ = some (.int .i64 a0_4) := (blk_cell BS.out 4).trans rfl; have hcgs5 : w7.cell? ⟨gs, 5, none⟩ = some (.int .i64 a0_5) := (blk_cell BS.out 5).trans rfl; have hfgs0 := blk_frozen BS.out 0; have hfgs1 := blk_frozen BS.out 1; have hfgs2 := blk_frozen BS.out 2; have hfgs3 := blk_frozen BS.out 3; have hfgs4 := blk_frozen BS.out 4; have hfgs5 := blk_frozen BS.out 5; have hcgr0 : w7.cell? ⟨gr, 0, none⟩ = some (.int .i64 0) := (blk_cell BR.out 0).trans rfl; have hcgr1 : w7.cell? ⟨gr, 1, none⟩ = some (.int .i64 r_1) := (blk_cell BR.out 1).trans rfl; have hcgr2 : w7.cell? ⟨gr, 2, none⟩ = some (.int .i64 r_2) := (blk_cell BR.out 2).trans rfl; have hcgr3 : w7.cell? ⟨gr, 3, none⟩ = some (.int .i64 r_3) := (blk_cell BR.out 3).trans rfl; have hcgr4 : w7.cell? ⟨gr, 4, none⟩ = some (.int .i64 r_4) := (blk_cell BR.out 4).trans rfl; have hcgr5 : w7.cell? ⟨gr, 5, none⟩ = some (.int .i64 r_5) := (blk_cell BR.out 5).trans rfl; have hfgr0 := blk_frozen BR.out 0; have hfgr1 := blk_frozen BR.out 1; have hfgr2 := blk_frozen BR.out 2; have hfgr3 := blk_frozen BR.out 3; have hfgr4 := blk_frozen BR.out 4; have hfgr5 := blk_frozen BR.out 5) | (go_at_call 38; (with_reducible refine (impl_Step_field.callsj gs (bt z x) 3 hj _).mono ?_); rintro e w' ⟨rfl, ⟨nd, rfl⟩⟩) | (go_at_call 38; (with_reducible refine (impl_Step_field.callsj gr (bt z x) 3 hj _).mono ?_); rintro e w' ⟨rfl, ⟨nd, rfl⟩⟩) | (go_at_call 19; (with_reducible refine (impl_in.calls a0_3 lo hi true _ A6.out).mono ?_); rintro e w' ⟨rfl, ⟨nd, rfl⟩⟩))
       go_roundg k1
       case measure => have := HK1.out; omega
       case rel => exact ⟨wrap64 (x + 1), zr_ 1 3 r_1, zr_ 2 3 r_2, zr_ 3 3 r_3, zr_ 4 3 r_4, zr_ 5 3 r_5, (by first | rfl | (simp; done) | (simp [*]; done)), H', ⟨by have := HK1.out; omega⟩, ⟨by (with_reducible repeat (first | refine blk_drewN ?_ _ | refine blk_drew ?_ | refine blk_alloc ?_ _)); refine blk_far ?_ NE.out _; (with_reducible repeat (first | refine blk_drewN ?_ _ | refine blk_drew ?_ | refine blk_alloc ?_ _)); exact BS.out⟩, ⟨by (with_reducible repeat (first | refine blk_drewN ?_ _ | refine blk_drew ?_ | refine blk_alloc ?_ _)); refine blk_put (cs := #[.int .i64 0, .int .i64 r_1, .int .i64 r_2, .int .i64 r_3, .int .i64 r_4, .int .i64 r_5]) ?_ 3 _ rfl; (with_reducible repeat (first | refine blk_drewN ?_ _ | refine blk_drew ?_ | refine blk_alloc ?_ _)); exact BR.out⟩, ⟨by repeat (first | (with_reducible first | exact HB.out | apply below_alloc | apply pw_below_drewN | apply below_drew1 | refine below_set ?_ GS.out | refine below_set ?_ GR.out) | exact HB.out)⟩⟩
      | false =>
       have h' : false = r := by simpa using h
       subst h'
       clear h
       go_wp2_with (first | (go_at_call 36; (with_reducible refine (impl_fields.calls k a0_0 z _ G0.out).mono ?_); rintro e w' ⟨rfl, ⟨nd, rfl⟩⟩) | (go_at_call 37; (with_reducible refine (impl_Step_ranges.calls k1 a0_0 a0_1 a0_2 a0_3 a0_4 a0_5 (bt z x) lo hi _ A5.out).mono ?_); rintro e w7 ⟨rfl, hb⟩; have ngs_ := Aside0.mk (blk_below (g := gs) (o := .cells #[.int .i64 a0_0, .int .i64 a0_1, .int .i64 a0_2, .int .i64 a0_3, .int .i64 a0_4, .int .i64 a0_5] 31 (0, 0)) (by (with_reducible repeat (first | refine blk_drewN ?_ _ | refine blk_drew ?_ | refine blk_alloc ?_ _)); exact BS.out) hb); have ngr_ := Aside0.mk (blk_below (g := gr) (o := .cells #[.int .i64 0, .int .i64 r_1, .int .i64 r_2, .int .i64 r_3, .int .i64 r_4, .int .i64 r_5] 31 (0, 0)) (by (with_reducible repeat (first | refine blk_drewN ?_ _ | refine blk_drew ?_ | refine blk_alloc ?_ _)); exact BR.out) hb); have nb_ := Aside0.mk (below_step (by repeat (first | (with_reducible first | exact HB.out | apply below_alloc | apply pw_below_drewN | apply below_drew1 | refine below_set ?_ GS.out | refine below_set ?_ GR.out) | exact HB.out)) hb); clear BS BR HB; clear hcgs0 hfgs0 hcgs1 hfgs1 hcgs2 hfgs2 hcgs3 hfgs3 hcgs4 hfgs4 hcgs5 hfgs5; have BS := ngs_; have BR := ngr_; have HB := nb_; clear ngs_ ngr_ nb_ hb; have hcgs0 : w7.cell? ⟨gs, 0, none⟩ = some (.int .i64 a0_0) := (blk_cell BS.out 0).trans rfl; have hcgs1 : w7.cell? ⟨gs, 1, none⟩ = some (.int .i64 a0_1) := (blk_cell BS.out 1).trans rfl; have hcgs2 : w7.cell? ⟨gs, 2, none⟩ = some (.int .i64 a0_2) := (blk_cell BS.out 2).trans rfl; have hcgs3 : w7.cell? ⟨gs, 3, none⟩ = some (.int .i64 a0_3) := (blk_cell BS.out 3).trans rfl; have hcgs4 : w7.cell? ⟨gs, 4, none⟩ = some (.int .i64 a0_4) := (blk_cell BS.out 4).trans rfl; have hcgs5 : w7.cell? ⟨gs, 5, none⟩ = some (.int .i64 a0_5) := (blk_cell BS.out 5).trans rfl; have hfgs0 := blk_frozen BS.out 0; have hfgs1 := blk_frozen BS.out 1; have hfgs2 := blk_frozen BS.out 2; have hfgs3 := blk_frozen BS.out 3; have hfgs4 := blk_frozen BS.out 4; have hfgs5 := blk_frozen BS.out 5; have hcgr0 : w7.cell? ⟨gr, 0, none⟩ = some (.int .i64 0) := (blk_cell BR.out 0).trans rfl; have hcgr1 : w7.cell? ⟨gr, 1, none⟩ = some (.int .i64 r_1) := (blk_cell BR.out 1).trans rfl; have hcgr2 : w7.cell? ⟨gr, 2, none⟩ = some (.int .i64 r_2) := (blk_cell BR.out 2).trans rfl; have hcgr3 : w7.cell? ⟨gr, 3, none⟩ = some (.int .i64 r_3) := (blk_cell BR.out 3).trans rfl; have hcgr4 : w7.cell? ⟨gr, 4, none⟩ = some (.int .i64 r_4) := (blk_cell BR.out 4).trans rfl; have hcgr5 : w7.cell? ⟨gr, 5, none⟩ = some (.int .i64 r_5) := (blk_cell BR.out 5).trans rfl; have hfgr0 := blk_frozen BR.out 0; have hfgr1 := blk_frozen BR.out 1; have hfgr2 := blk_frozen BR.out 2; have hfgr3 := blk_frozen BR.out 3; have hfgr4 := blk_frozen BR.out 4; have hfgr5 := blk_frozen BR.out 5) | (go_at_call 38; (with_reducible refine (impl_Step_field.callsj gs (bt z x) 3 hj _).mono ?_); rintro e w' ⟨rfl, ⟨nd, rfl⟩⟩) | (go_at_call 19; (with_reducible refine (impl_in.calls a0_3 lo hi false _ A6.out).mono ?_); rintro e w' ⟨rfl, ⟨nd, rfl⟩⟩))
       go_ret
       exact ⟨by first | rfl | (simp; done) | (simp [*]; done), by repeat (first | (with_reducible first | exact HB.out | apply below_alloc | apply pw_below_drewN | apply below_drew1 | refine below_set ?_ GS.out | refine below_set ?_ GR.out) | exact HB.out)⟩
     ·replace A6 : Aside0 (impl_in.f a0_4 lo hi = some t) := ⟨by have := A6.out; rw [hj] at this; exact this⟩
      rw [hj] at h
      cases t with
      | true =>
       have H' := Aside0.mk h
       clear h
       go_wp2_with (first | (go_at_call 36; (with_reducible refine (impl_fields.calls k a0_0 z _ G0.out).mono ?_); rintro e w' ⟨rfl, ⟨nd, rfl⟩⟩) | (go_at_call 37; (with_reducible refine (impl_Step_ranges.calls k1 a0_0 a0_1 a0_2 a0_3 a0_4 a0_5 (bt z x) lo hi _ A5.out).mono ?_); rintro e w7 ⟨rfl, hb⟩; have ngs_ := Aside0.mk (blk_below (g := gs) (o := .cells #[.int .i64 a0_0, .int .i64 a0_1, .int .i64 a0_2, .int .i64 a0_3, .int .i64 a0_4, .int .i64 a0_5] 31 (0, 0)) (by (with_reducible repeat (first | refine blk_drewN ?_ _ | refine blk_drew ?_ | refine blk_alloc ?_ _)); exact BS.out) hb); have ngr_ := Aside0.mk (blk_below (g := gr) (o := .cells #[.int .i64 0, .int .i64 r_1, .int .i64 r_2, .int .i64 r_3, .int .i64 r_4, .int .i64 r_5] 31 (0, 0)) (by (with_reducible repeat (first | refine blk_drewN ?_ _ | refine blk_drew ?_ | refine blk_alloc ?_ _)); exact BR.out) hb); have nb_ := Aside0.mk (below_step (by repeat (first | (with_reducible first | exact HB.out | apply below_alloc | apply pw_below_drewN | apply below_drew1 | refine below_set ?_ GS.out | refine below_set ?_ GR.out) | exact HB.out)) hb); clear BS BR HB; clear hcgs0 hfgs0 hcgs1 hfgs1 hcgs2 hfgs2 hcgs3 hfgs3 hcgs4 hfgs4 hcgs5 hfgs5; have BS := ngs_; have BR := ngr_; have HB := nb_; clear ngs_ ngr_ nb_ hb; have hcgs0 : w7.cell? ⟨gs, 0, none⟩ = some (.int .i64 a0_0) := (blk_cell BS.out 0).trans rfl; have hcgs1 : w7.cell? ⟨gs, 1, none⟩ = some (.int .i64 a0_1) := (blk_cell BS.out 1).trans rfl; have hcgs2 : w7.cell? ⟨gs, 2, none⟩ = some (.int .i64 a0_2) := (blk_cell BS.out 2).trans rfl; have hcgs3 : w7.cell? ⟨gs, 3, none⟩ = some (.int .i64 a0_3) := (blk_cell BS.out 3).trans rfl; have hcgs4 : w7.cell? ⟨gs, 4, none⟩ = some (.int .i64 a0_4) := (blk_cell BS.out 4).trans rfl; have hcgs5 : w7.cell? ⟨gs, 5, none⟩ = some (.int .i64 a0_5) := (blk_cell BS.out 5).trans rfl; have hfgs0 := blk_frozen BS.out 0; have hfgs1 := blk_frozen BS.out 1; have hfgs2 := blk_frozen BS.out 2; have hfgs3 := blk_frozen BS.out 3; have hfgs4 := blk_frozen BS.out 4; have hfgs5 := blk_frozen BS.out 5; have hcgr0 : w7.cell? ⟨gr, 0, none⟩ = some (.int .i64 0) := (blk_cell BR.out 0).trans rfl; have hcgr1 : w7.cell? ⟨gr, 1, none⟩ = some (.int .i64 r_1) := (blk_cell BR.out 1).trans rfl; have hcgr2 : w7.cell? ⟨gr, 2, none⟩ = some (.int .i64 r_2) := (blk_cell BR.out 2).trans rfl; have hcgr3 : w7.cell? ⟨gr, 3, none⟩ = some (.int .i64 r_3) := (blk_cell BR.out 3).trans rfl; have hcgr4 : w7.cell? ⟨gr, 4, none⟩ = some (.int .i64 r_4) := (blk_cell BR.out 4).trans rfl; have hcgr5 : w7.cell? ⟨gr, 5, none⟩ = some (.int .i64 r_5) := (blk_cell BR.out 5).trans rfl; have hfgr0 := blk_frozen BR.out 0; have hfgr1 := blk_frozen BR.out 1; have hfgr2 := blk_frozen BR.out 2; have hfgr3 := blk_frozen BR.out 3; have hfgr4 := blk_frozen BR.out 4; have hfgr5 := blk_frozen BR.out 5) | (go_at_call 38; (with_reducible refine (impl_Step_field.callsj gs (bt z x) 4 hj _).mono ?_); rintro e w' ⟨rfl, ⟨nd, rfl⟩⟩) | (go_at_call 38; (with_reducible refine (impl_Step_field.callsj gr (bt z x) 4 hj _).mono ?_); rintro e w' ⟨rfl, ⟨nd, rfl⟩⟩) | (go_at_call 19; (with_reducible refine (impl_in.calls a0_4 lo hi true _ A6.out).mono ?_); rintro e w' ⟨rfl, ⟨nd, rfl⟩⟩))
       go_roundg k1
       case measure => have := HK1.out; omega
       case rel => exact ⟨wrap64 (x + 1), zr_ 1 4 r_1, zr_ 2 4 r_2, zr_ 3 4 r_3, zr_ 4 4 r_4, zr_ 5 4 r_5, (by first | rfl | (simp; done) | (simp [*]; done)), H', ⟨by have := HK1.out; omega⟩, ⟨by (with_reducible repeat (first | refine blk_drewN ?_ _ | refine blk_drew ?_ | refine blk_alloc ?_ _)); refine blk_far ?_ NE.out _; (with_reducible repeat (first | refine blk_drewN ?_ _ | refine blk_drew ?_ | refine blk_alloc ?_ _)); exact BS.out⟩, ⟨by (with_reducible repeat (first | refine blk_drewN ?_ _ | refine blk_drew ?_ | refine blk_alloc ?_ _)); refine blk_put (cs := #[.int .i64 0, .int .i64 r_1, .int .i64 r_2, .int .i64 r_3, .int .i64 r_4, .int .i64 r_5]) ?_ 4 _ rfl; (with_reducible repeat (first | refine blk_drewN ?_ _ | refine blk_drew ?_ | refine blk_alloc ?_ _)); exact BR.out⟩, ⟨by repeat (first | (with_reducible first | exact HB.out | apply below_alloc | apply pw_below_drewN | apply below_drew1 | refine below_set ?_ GS.out | refine below_set ?_ GR.out) | exact HB.out)⟩⟩
      | false =>
       have h' : false = r := by simpa using h
       subst h'
       clear h
       go_wp2_with (first | (go_at_call 36; (with_reducible refine (impl_fields.calls k a0_0 z _ G0.out).mono ?_); rintro e w' ⟨rfl, ⟨nd, rfl⟩⟩) | (go_at_call 37; (with_reducible refine (impl_Step_ranges.calls k1 a0_0 a0_1 a0_2 a0_3 a0_4 a0_5 (bt z x) lo hi _ A5.out).mono ?_); rintro e w7 ⟨rfl, hb⟩; have ngs_ := Aside0.mk (blk_below (g := gs) (o := .cells #[.int .i64 a0_0, .int .i64 a0_1, .int .i64 a0_2, .int .i64 a0_3, .int .i64 a0_4, .int .i64 a0_5] 31 (0, 0)) (by (with_reducible repeat (first | refine blk_drewN ?_ _ | refine blk_drew ?_ | refine blk_alloc ?_ _)); exact BS.out) hb); have ngr_ := Aside0.mk (blk_below (g := gr) (o := .cells #[.int .i64 0, .int .i64 r_1, .int .i64 r_2, .int .i64 r_3, .int .i64 r_4, .int .i64 r_5] 31 (0, 0)) (by (with_reducible repeat (first | refine blk_drewN ?_ _ | refine blk_drew ?_ | refine blk_alloc ?_ _)); exact BR.out) hb); have nb_ := Aside0.mk (below_step (by repeat (first | (with_reducible first | exact HB.out | apply below_alloc | apply pw_below_drewN | apply below_drew1 | refine below_set ?_ GS.out | refine below_set ?_ GR.out) | exact HB.out)) hb); clear BS BR HB; clear hcgs0 hfgs0 hcgs1 hfgs1 hcgs2 hfgs2 hcgs3 hfgs3 hcgs4 hfgs4 hcgs5 hfgs5; have BS := ngs_; have BR := ngr_; have HB := nb_; clear ngs_ ngr_ nb_ hb; have hcgs0 : w7.cell? ⟨gs, 0, none⟩ = some (.int .i64 a0_0) := (blk_cell BS.out 0).trans rfl; have hcgs1 : w7.cell? ⟨gs, 1, none⟩ = some (.int .i64 a0_1) := (blk_cell BS.out 1).trans rfl; have hcgs2 : w7.cell? ⟨gs, 2, none⟩ = some (.int .i64 a0_2) := (blk_cell BS.out 2).trans rfl; have hcgs3 : w7.cell? ⟨gs, 3, none⟩ = some (.int .i64 a0_3) := (blk_cell BS.out 3).trans rfl; have hcgs4 : w7.cell? ⟨gs, 4, none⟩ = some (.int .i64 a0_4) := (blk_cell BS.out 4).trans rfl; have hcgs5 : w7.cell? ⟨gs, 5, none⟩ = some (.int .i64 a0_5) := (blk_cell BS.out 5).trans rfl; have hfgs0 := blk_frozen BS.out 0; have hfgs1 := blk_frozen BS.out 1; have hfgs2 := blk_frozen BS.out 2; have hfgs3 := blk_frozen BS.out 3; have hfgs4 := blk_frozen BS.out 4; have hfgs5 := blk_frozen BS.out 5; have hcgr0 : w7.cell? ⟨gr, 0, none⟩ = some (.int .i64 0) := (blk_cell BR.out 0).trans rfl; have hcgr1 : w7.cell? ⟨gr, 1, none⟩ = some (.int .i64 r_1) := (blk_cell BR.out 1).trans rfl; have hcgr2 : w7.cell? ⟨gr, 2, none⟩ = some (.int .i64 r_2) := (blk_cell BR.out 2).trans rfl; have hcgr3 : w7.cell? ⟨gr, 3, none⟩ = some (.int .i64 r_3) := (blk_cell BR.out 3).trans rfl; have hcgr4 : w7.cell? ⟨gr, 4, none⟩ = some (.int .i64 r_4) := (blk_cell BR.out 4).trans rfl; have hcgr5 : w7.cell? ⟨gr, 5, none⟩ = some (.int .i64 r_5) := (blk_cell BR.out 5).trans rfl; have hfgr0 := blk_frozen BR.out 0; have hfgr1 := blk_frozen BR.out 1; have hfgr2 := blk_frozen BR.out 2; have hfgr3 := blk_frozen BR.out 3; have hfgr4 := blk_frozen BR.out 4; have hfgr5 := blk_frozen BR.out 5) | (go_at_call 38; (with_reducible refine (impl_Step_field.callsj gs (bt z x) 4 hj _).mono ?_); rintro e w' ⟨rfl, ⟨nd, rfl⟩⟩) | (go_at_call 19; (with_reducible refine (impl_in.calls a0_4 lo hi false _ A6.out).mono ?_); rintro e w' ⟨rfl, ⟨nd, rfl⟩⟩))
       go_ret
       exact ⟨by first | rfl | (simp; done) | (simp [*]; done), by repeat (first | (with_reducible first | exact HB.out | apply below_alloc | apply pw_below_drewN | apply below_drew1 | refine below_set ?_ GS.out | refine below_set ?_ GR.out) | exact HB.out)⟩
     ·replace A6 : Aside0 (impl_in.f a0_5 lo hi = some t) := ⟨by have := A6.out; rw [hj] at this; exact this⟩
      rw [hj] at h
      cases t with
      | true =>
       have H' := Aside0.mk h
       clear h
       go_wp2_with (first | (go_at_call 36; (with_reducible refine (impl_fields.calls k a0_0 z _ G0.out).mono ?_); rintro e w' ⟨rfl, ⟨nd, rfl⟩⟩) | (go_at_call 37; (with_reducible refine (impl_Step_ranges.calls k1 a0_0 a0_1 a0_2 a0_3 a0_4 a0_5 (bt z x) lo hi _ A5.out).mono ?_); rintro e w7 ⟨rfl, hb⟩; have ngs_ := Aside0.mk (blk_below (g := gs) (o := .cells #[.int .i64 a0_0, .int .i64 a0_1, .int .i64 a0_2, .int .i64 a0_3, .int .i64 a0_4, .int .i64 a0_5] 31 (0, 0)) (by (with_reducible repeat (first | refine blk_drewN ?_ _ | refine blk_drew ?_ | refine blk_alloc ?_ _)); exact BS.out) hb); have ngr_ := Aside0.mk (blk_below (g := gr) (o := .cells #[.int .i64 0, .int .i64 r_1, .int .i64 r_2, .int .i64 r_3, .int .i64 r_4, .int .i64 r_5] 31 (0, 0)) (by (with_reducible repeat (first | refine blk_drewN ?_ _ | refine blk_drew ?_ | refine blk_alloc ?_ _)); exact BR.out) hb); have nb_ := Aside0.mk (below_step (by repeat (first | (with_reducible first | exact HB.out | apply below_alloc | apply pw_below_drewN | apply below_drew1 | refine below_set ?_ GS.out | refine below_set ?_ GR.out) | exact HB.out)) hb); clear BS BR HB; clear hcgs0 hfgs0 hcgs1 hfgs1 hcgs2 hfgs2 hcgs3 hfgs3 hcgs4 hfgs4 hcgs5 hfgs5; have BS := ngs_; have BR := ngr_; have HB := nb_; clear ngs_ ngr_ nb_ hb; have hcgs0 : w7.cell? ⟨gs, 0, none⟩ = some (.int .i64 a0_0) := (blk_cell BS.out 0).trans rfl; have hcgs1 : w7.cell? ⟨gs, 1, none⟩ = some (.int .i64 a0_1) := (blk_cell BS.out 1).trans rfl; have hcgs2 : w7.cell? ⟨gs, 2, none⟩ = some (.int .i64 a0_2) := (blk_cell BS.out 2).trans rfl; have hcgs3 : w7.cell? ⟨gs, 3, none⟩ = some (.int .i64 a0_3) := (blk_cell BS.out 3).trans rfl; have hcgs4 : w7.cell? ⟨gs, 4, none⟩ = some (.int .i64 a0_4) := (blk_cell BS.out 4).trans rfl; have hcgs5 : w7.cell? ⟨gs, 5, none⟩ = some (.int .i64 a0_5) := (blk_cell BS.out 5).trans rfl; have hfgs0 := blk_frozen BS.out 0; have hfgs1 := blk_frozen BS.out 1; have hfgs2 := blk_frozen BS.out 2; have hfgs3 := blk_frozen BS.out 3; have hfgs4 := blk_frozen BS.out 4; have hfgs5 := blk_frozen BS.out 5; have hcgr0 : w7.cell? ⟨gr, 0, none⟩ = some (.int .i64 0) := (blk_cell BR.out 0).trans rfl; have hcgr1 : w7.cell? ⟨gr, 1, none⟩ = some (.int .i64 r_1) := (blk_cell BR.out 1).trans rfl; have hcgr2 : w7.cell? ⟨gr, 2, none⟩ = some (.int .i64 r_2) := (blk_cell BR.out 2).trans rfl; have hcgr3 : w7.cell? ⟨gr, 3, none⟩ = some (.int .i64 r_3) := (blk_cell BR.out 3).trans rfl; have hcgr4 : w7.cell? ⟨gr, 4, none⟩ = some (.int .i64 r_4) := (blk_cell BR.out 4).trans rfl; have hcgr5 : w7.cell? ⟨gr, 5, none⟩ = some (.int .i64 r_5) := (blk_cell BR.out 5).trans rfl; have hfgr0 := blk_frozen BR.out 0; have hfgr1 := blk_frozen BR.out 1; have hfgr2 := blk_frozen BR.out 2; have hfgr3 := blk_frozen BR.out 3; have hfgr4 := blk_frozen BR.out 4; have hfgr5 := blk_frozen BR.out 5) | (go_at_call 38; (with_reducible refine (impl_Step_field.callsj gs (bt z x) 5 hj _).mono ?_); rintro e w' ⟨rfl, ⟨nd, rfl⟩⟩) | (go_at_call 38; (with_reducible refine (impl_Step_field.callsj gr (bt z x) 5 hj _).mono ?_); rintro e w' ⟨rfl, ⟨nd, rfl⟩⟩) | (go_at_call 19; (with_reducible refine (impl_in.calls a0_5 lo hi true _ A6.out).mono ?_); rintro e w' ⟨rfl, ⟨nd, rfl⟩⟩))
       go_roundg k1
       case measure => have := HK1.out; omega
       case rel => exact ⟨wrap64 (x + 1), zr_ 1 5 r_1, zr_ 2 5 r_2, zr_ 3 5 r_3, zr_ 4 5 r_4, zr_ 5 5 r_5, (by first | rfl | (simp; done) | (simp [*]; done)), H', ⟨by have := HK1.out; omega⟩, ⟨by (with_reducible repeat (first | refine blk_drewN ?_ _ | refine blk_drew ?_ | refine blk_alloc ?_ _)); refine blk_far ?_ NE.out _; (with_reducible repeat (first | refine blk_drewN ?_ _ | refine blk_drew ?_ | refine blk_alloc ?_ _)); exact BS.out⟩, ⟨by (with_reducible repeat (first | refine blk_drewN ?_ _ | refine blk_drew ?_ | refine blk_alloc ?_ _)); refine blk_put (cs := #[.int .i64 0, .int .i64 r_1, .int .i64 r_2, .int .i64 r_3, .int .i64 r_4, .int .i64 r_5]) ?_ 5 _ rfl; (with_reducible repeat (first | refine blk_drewN ?_ _ | refine blk_drew ?_ | refine blk_alloc ?_ _)); exact BR.out⟩, ⟨by repeat (first | (with_reducible first | exact HB.out | apply below_alloc | apply pw_below_drewN | apply below_drew1 | refine below_set ?_ GS.out | refine below_set ?_ GR.out) | exact HB.out)⟩⟩
      | false =>
       have h' : false = r := by simpa using h
       subst h'
       clear h
       go_wp2_with (first | (go_at_call 36; (with_reducible refine (impl_fields.calls k a0_0 z _ G0.out).mono ?_); rintro e w' ⟨rfl, ⟨nd, rfl⟩⟩) | (go_at_call 37; (with_reducible refine (impl_Step_ranges.calls k1 a0_0 a0_1 a0_2 a0_3 a0_4 a0_5 (bt z x) lo hi _ A5.out).mono ?_); rintro e w7 ⟨rfl, hb⟩; have ngs_ := Aside0.mk (blk_below (g := gs) (o := .cells #[.int .i64 a0_0, .int .i64 a0_1, .int .i64 a0_2, .int .i64 a0_3, .int .i64 a0_4, .int .i64 a0_5] 31 (0, 0)) (by (with_reducible repeat (first | refine blk_drewN ?_ _ | refine blk_drew ?_ | refine blk_alloc ?_ _)); exact BS.out) hb); have ngr_ := Aside0.mk (blk_below (g := gr) (o := .cells #[.int .i64 0, .int .i64 r_1, .int .i64 r_2, .int .i64 r_3, .int .i64 r_4, .int .i64 r_5] 31 (0, 0)) (by (with_reducible repeat (first | refine blk_drewN ?_ _ | refine blk_drew ?_ | refine blk_alloc ?_ _)); exact BR.out) hb); have nb_ := Aside0.mk (below_step (by repeat (first | (with_reducible first | exact HB.out | apply below_alloc | apply pw_below_drewN | apply below_drew1 | refine below_set ?_ GS.out | refine below_set ?_ GR.out) | exact HB.out)) hb); clear BS BR HB; clear hcgs0 hfgs0 hcgs1 hfgs1 hcgs2 hfgs2 hcgs3 hfgs3 hcgs4 hfgs4 hcgs5 hfgs5; have BS := ngs_; have BR := ngr_; have HB := nb_; clear ngs_ ngr_ nb_ hb; have hcgs0 : w7.cell? ⟨gs, 0, none⟩ = some (.int .i64 a0_0) := (blk_cell BS.out 0).trans rfl; have hcgs1 : w7.cell? ⟨gs, 1, none⟩ = some (.int .i64 a0_1) := (blk_cell BS.out 1).trans rfl; have hcgs2 : w7.cell? ⟨gs, 2, none⟩ = some (.int .i64 a0_2) := (blk_cell BS.out 2).trans rfl; have hcgs3 : w7.cell? ⟨gs, 3, none⟩ = some (.int .i64 a0_3) := (blk_cell BS.out 3).trans rfl; have hcgs4 : w7.cell? ⟨gs, 4, none⟩ = some (.int .i64 a0_4) := (blk_cell BS.out 4).trans rfl; have hcgs5 : w7.cell? ⟨gs, 5, none⟩ = some (.int .i64 a0_5) := (blk_cell BS.out 5).trans rfl; have hfgs0 := blk_frozen BS.out 0; have hfgs1 := blk_frozen BS.out 1; have hfgs2 := blk_frozen BS.out 2; have hfgs3 := blk_frozen BS.out 3; have hfgs4 := blk_frozen BS.out 4; have hfgs5 := blk_frozen BS.out 5; have hcgr0 : w7.cell? ⟨gr, 0, none⟩ = some (.int .i64 0) := (blk_cell BR.out 0).trans rfl; have hcgr1 : w7.cell? ⟨gr, 1, none⟩ = some (.int .i64 r_1) := (blk_cell BR.out 1).trans rfl; have hcgr2 : w7.cell? ⟨gr, 2, none⟩ = some (.int .i64 r_2) := (blk_cell BR.out 2).trans rfl; have hcgr3 : w7.cell? ⟨gr, 3, none⟩ = some (.int .i64 r_3) := (blk_cell BR.out 3).trans rfl; have hcgr4 : w7.cell? ⟨gr, 4, none⟩ = some (.int .i64 r_4) := (blk_cell BR.out 4).trans rfl; have hcgr5 : w7.cell? ⟨gr, 5, none⟩ = some (.int .i64 r_5) := (blk_cell BR.out 5).trans rfl; have hfgr0 := blk_frozen BR.out 0; have hfgr1 := blk_frozen BR.out 1; have hfgr2 := blk_frozen BR.out 2; have hfgr3 := blk_frozen BR.out 3; have hfgr4 := blk_frozen BR.out 4; have hfgr5 := blk_frozen BR.out 5) | (go_at_call 38; (with_reducible refine (impl_Step_field.callsj gs (bt z x) 5 hj _).mono ?_); rintro e w' ⟨rfl, ⟨nd, rfl⟩⟩) | (go_at_call 19; (with_reducible refine (impl_in.calls a0_5 lo hi false _ A6.out).mono ?_); rintro e w' ⟨rfl, ⟨nd, rfl⟩⟩))
       go_ret
       exact ⟨by first | rfl | (simp; done) | (simp [*]; done), by repeat (first | (with_reducible first | exact HB.out | apply below_alloc | apply pw_below_drewN | apply below_drew1 | refine below_set ?_ GS.out | refine below_set ?_ GR.out) | exact HB.out)⟩
    ·rw [if_neg c4] at h
     exact absurd h (by simp)
   ·have c3b : decide (x < (z.size : Int)) = false := decide_eq_false c3
    rw [if_neg c3] at h
    clear c3
    replace h := Option.bind_eq_some_iff.mp h
    obtain ⟨t, A6', h⟩ := h
    have A6 := Aside0.mk A6'
    clear A6'
    have hcgs0 : wr.cell? ⟨gs, 0, none⟩ = some (.int .i64 a0_0) := (blk_cell BS.out 0).trans rfl
    have hcgs1 : wr.cell? ⟨gs, 1, none⟩ = some (.int .i64 a0_1) := (blk_cell BS.out 1).trans rfl
    have hcgs2 : wr.cell? ⟨gs, 2, none⟩ = some (.int .i64 a0_2) := (blk_cell BS.out 2).trans rfl
    have hcgs3 : wr.cell? ⟨gs, 3, none⟩ = some (.int .i64 a0_3) := (blk_cell BS.out 3).trans rfl
    have hcgs4 : wr.cell? ⟨gs, 4, none⟩ = some (.int .i64 a0_4) := (blk_cell BS.out 4).trans rfl
    have hcgs5 : wr.cell? ⟨gs, 5, none⟩ = some (.int .i64 a0_5) := (blk_cell BS.out 5).trans rfl
    have hfgs0 := blk_frozen BS.out 0
    have hfgs1 := blk_frozen BS.out 1
    have hfgs2 := blk_frozen BS.out 2
    have hfgs3 := blk_frozen BS.out 3
    have hfgs4 := blk_frozen BS.out 4
    have hfgs5 := blk_frozen BS.out 5
    have hcgr0 : wr.cell? ⟨gr, 0, none⟩ = some (.int .i64 0) := (blk_cell BR.out 0).trans rfl
    have hcgr1 : wr.cell? ⟨gr, 1, none⟩ = some (.int .i64 r_1) := (blk_cell BR.out 1).trans rfl
    have hcgr2 : wr.cell? ⟨gr, 2, none⟩ = some (.int .i64 r_2) := (blk_cell BR.out 2).trans rfl
    have hcgr3 : wr.cell? ⟨gr, 3, none⟩ = some (.int .i64 r_3) := (blk_cell BR.out 3).trans rfl
    have hcgr4 : wr.cell? ⟨gr, 4, none⟩ = some (.int .i64 r_4) := (blk_cell BR.out 4).trans rfl
    have hcgr5 : wr.cell? ⟨gr, 5, none⟩ = some (.int .i64 r_5) := (blk_cell BR.out 5).trans rfl
    have hfgr0 := blk_frozen BR.out 0
    have hfgr1 := blk_frozen BR.out 1
    have hfgr2 := blk_frozen BR.out 2
    have hfgr3 := blk_frozen BR.out 3
    have hfgr4 := blk_frozen BR.out 4
    have hfgr5 := blk_frozen BR.out 5
    cases t with
    | true =>
     rw [if_pos rfl] at h
     have hr := Option.some.inj h
     clear h
     have hr' := Aside0.mk hr
     clear hr
     go_wp2_with (go_at_call 19; (with_reducible refine (impl_in.calls a0_0 1 11 true _ A6.out).mono ?_); rintro e w' ⟨rfl, ⟨nd, rfl⟩⟩)
     all_goals
      go_ret
      exact ⟨by rw [← hr'.out]; (first | rfl | (simp; done) | (simp [*]; done)), by repeat (first | (with_reducible first | exact HB.out | apply below_alloc | apply pw_below_drewN | apply below_drew1 | refine below_set ?_ GS.out | refine below_set ?_ GR.out) | exact HB.out)⟩
    | false =>
     have h' : false = r := by simpa using h
     subst h'
     clear h
     go_wp2_with (go_at_call 19; (with_reducible refine (impl_in.calls a0_0 1 11 false _ A6.out).mono ?_); rintro e w' ⟨rfl, ⟨nd, rfl⟩⟩)
     go_ret
     exact ⟨by first | rfl | (simp; done) | (simp [*]; done), by repeat (first | (with_reducible first | exact HB.out | apply below_alloc | apply pw_below_drewN | apply below_drew1 | refine below_set ?_ GS.out | refine below_set ?_ GR.out) | exact HB.out)⟩
def impl_Step_jumps.f (a0_0 : Int) (a0_1 : Int) (a0_2 : Int) (a0_3 : Int) (a0_4 : Int) (a0_5 : Int) : Option (Bool) := if a0_0 = 8 then (some true) else (if a0_0 = 9 then (some true) else (some (a0_0 == 10)))
set_option maxHeartbeats 8000000 in
set_option maxRecDepth 100000 in
theorem impl_Step_jumps.calls (a0_0 : Int) (a0_1 : Int) (a0_2 : Int) (a0_3 : Int) (a0_4 : Int) (a0_5 : Int) (r : Bool) (w : World) (h : impl_Step_jumps.f a0_0 a0_1 a0_2 a0_3 a0_4 a0_5 = some r) :
  Calls Tryd.prog 34 #[.agg #[.int .i64 a0_0, .int .i64 a0_1, .int .i64 a0_2, .int .i64 a0_3, .int .i64 a0_4, .int .i64 a0_5]] w fun e w' => e = .returned (.bool r) ∧ Below w.heap.size w w' := by
 have hu31 := Tryd.underlying31
 have HB := Aside0.mk (Below.refl w.heap.size w)
 have H : (if a0_0 = 8 then (some true) else (if a0_0 = 9 then (some true) else (some (a0_0 == 10)))) = some r := h
 clear h
 by_cases c2 : a0_0 = 8
 ·rw [if_pos c2] at H
  have c2b0 : (a0_0 == 8) = true := beq_iff_eq.mpr c2
  have c2b1 : (a0_0 != 8) = false := bne_eq_false_iff_eq.mpr c2
  clear c2
  obtain rfl := Option.some.inj H
  go_enter Tryd.func34, Tryd.ntmps34
  go_wp2_with (first | ((with_reducible refine gate_dst (N := 1) rfl ?_); refine box_event ?hg (N := 1) ?hd (cs := #[.int .i64 a0_0, .int .i64 a0_1, .int .i64 a0_2, .int .i64 a0_3, .int .i64 a0_4, .int .i64 a0_5]) (t := 31) ?hr ?_; (case hd => rfl); (case hg => rfl); (case hr => first | (go_simp; done) | (go_simp; rfl)); intro gb230 hg w3 hbox hb; have n0_ := Aside0.mk (below_step (zb_ HB.out) hb); have n1_ := Aside0.mk (hbox); have n2_ := Aside0.mk ((by rw [hg]; exact (below_size (zb_ HB.out)) : w.heap.size ≤ gb230)); have n3_ := Aside0.mk ((by rw [hg]; exact (below_size (zb_ HB.out)) : w.heap.size ≤ gb230)); clear HB; have HB := n0_; have BK230 := n1_; have GW230 := n2_; have GE230 := n3_; clear n0_ n1_ n2_ n3_; clear hb hbox hg; have hcz4_0 : w3.cell? ⟨gb230, 0, none⟩ = some (.int .i64 a0_0) := (blk_cell BK230.out 0).trans rfl; have hcz4_1 : w3.cell? ⟨gb230, 1, none⟩ = some (.int .i64 a0_1) := (blk_cell BK230.out 1).trans rfl; have hcz4_2 : w3.cell? ⟨gb230, 2, none⟩ = some (.int .i64 a0_2) := (blk_cell BK230.out 2).trans rfl; have hcz4_3 : w3.cell? ⟨gb230, 3, none⟩ = some (.int .i64 a0_3) := (blk_cell BK230.out 3).trans rfl; have hcz4_4 : w3.cell? ⟨gb230, 4, none⟩ = some (.int .i64 a0_4) := (blk_cell BK230.out 4).trans rfl; have hcz4_5 : w3.cell? ⟨gb230, 5, none⟩ = some (.int .i64 a0_5) := (blk_cell BK230.out 5).trans rfl; have hfz4_0 := blk_frozen BK230.out 0; have hfz4_1 := blk_frozen BK230.out 1; have hfz4_2 := blk_frozen BK230.out 2; have hfz4_3 := blk_frozen BK230.out 3; have hfz4_4 := blk_frozen BK230.out 4; have hfz4_5 := blk_frozen BK230.out 5))
  go_ret
  exact ⟨by first | rfl | (simp [errW_none, errW_some] <;> rfl) | (simp [*, errW_none, errW_some] <;> rfl), by repeat (first | (with_reducible first | exact HB.out | apply below_alloc | apply pw_below_drewN | apply below_drew1 | refine below_set ?_ GE230.out) | exact HB.out)⟩
 ·rw [if_neg c2] at H
  have c2b0 : (a0_0 == 8) = false := beq_eq_false_iff_ne.mpr c2
  have c2b1 : (a0_0 != 8) = true := bne_iff_ne.mpr c2
  by_cases c5 : a0_0 = 9
  ·rw [if_pos c5] at H
   have c5b0 : (a0_0 == 9) = true := beq_iff_eq.mpr c5
   have c5b1 : (a0_0 != 9) = false := bne_eq_false_iff_eq.mpr c5
   clear c5
   obtain rfl := Option.some.inj H
   go_enter Tryd.func34, Tryd.ntmps34
   go_wp2_with (first | ((with_reducible refine gate_dst (N := 1) rfl ?_); refine box_event ?hg (N := 1) ?hd (cs := #[.int .i64 a0_0, .int .i64 a0_1, .int .i64 a0_2, .int .i64 a0_3, .int .i64 a0_4, .int .i64 a0_5]) (t := 31) ?hr ?_; (case hd => rfl); (case hg => rfl); (case hr => first | (go_simp; done) | (go_simp; rfl)); intro gb230 hg w6 hbox hb; have n0_ := Aside0.mk (below_step (zb_ HB.out) hb); have n1_ := Aside0.mk (hbox); have n2_ := Aside0.mk ((by rw [hg]; exact (below_size (zb_ HB.out)) : w.heap.size ≤ gb230)); have n3_ := Aside0.mk ((by rw [hg]; exact (below_size (zb_ HB.out)) : w.heap.size ≤ gb230)); clear HB; have HB := n0_; have BK230 := n1_; have GW230 := n2_; have GE230 := n3_; clear n0_ n1_ n2_ n3_; clear hb hbox hg; have hcz7_0 : w6.cell? ⟨gb230, 0, none⟩ = some (.int .i64 a0_0) := (blk_cell BK230.out 0).trans rfl; have hcz7_1 : w6.cell? ⟨gb230, 1, none⟩ = some (.int .i64 a0_1) := (blk_cell BK230.out 1).trans rfl; have hcz7_2 : w6.cell? ⟨gb230, 2, none⟩ = some (.int .i64 a0_2) := (blk_cell BK230.out 2).trans rfl; have hcz7_3 : w6.cell? ⟨gb230, 3, none⟩ = some (.int .i64 a0_3) := (blk_cell BK230.out 3).trans rfl; have hcz7_4 : w6.cell? ⟨gb230, 4, none⟩ = some (.int .i64 a0_4) := (blk_cell BK230.out 4).trans rfl; have hcz7_5 : w6.cell? ⟨gb230, 5, none⟩ = some (.int .i64 a0_5) := (blk_cell BK230.out 5).trans rfl; have hfz7_0 := blk_frozen BK230.out 0; have hfz7_1 := blk_frozen BK230.out 1; have hfz7_2 := blk_frozen BK230.out 2; have hfz7_3 := blk_frozen BK230.out 3; have hfz7_4 := blk_frozen BK230.out 4; have hfz7_5 := blk_frozen BK230.out 5))
   go_ret
   exact ⟨by first | rfl | (simp [errW_none, errW_some] <;> rfl) | (simp [*, errW_none, errW_some] <;> rfl), by repeat (first | (with_reducible first | exact HB.out | apply below_alloc | apply pw_below_drewN | apply below_drew1 | refine below_set ?_ GE230.out) | exact HB.out)⟩
  ·rw [if_neg c5] at H
   have c5b0 : (a0_0 == 9) = false := beq_eq_false_iff_ne.mpr c5
   have c5b1 : (a0_0 != 9) = true := bne_iff_ne.mpr c5
   obtain rfl := Option.some.inj H
   go_enter Tryd.func34, Tryd.ntmps34
   go_wp2_with (first | ((with_reducible refine gate_dst (N := 1) rfl ?_); refine box_event ?hg (N := 1) ?hd (cs := #[.int .i64 a0_0, .int .i64 a0_1, .int .i64 a0_2, .int .i64 a0_3, .int .i64 a0_4, .int .i64 a0_5]) (t := 31) ?hr ?_; (case hd => rfl); (case hg => rfl); (case hr => first | (go_simp; done) | (go_simp; rfl)); intro gb230 hg w8 hbox hb; have n0_ := Aside0.mk (below_step (zb_ HB.out) hb); have n1_ := Aside0.mk (hbox); have n2_ := Aside0.mk ((by rw [hg]; exact (below_size (zb_ HB.out)) : w.heap.size ≤ gb230)); have n3_ := Aside0.mk ((by rw [hg]; exact (below_size (zb_ HB.out)) : w.heap.size ≤ gb230)); clear HB; have HB := n0_; have BK230 := n1_; have GW230 := n2_; have GE230 := n3_; clear n0_ n1_ n2_ n3_; clear hb hbox hg; have hcz9_0 : w8.cell? ⟨gb230, 0, none⟩ = some (.int .i64 a0_0) := (blk_cell BK230.out 0).trans rfl; have hcz9_1 : w8.cell? ⟨gb230, 1, none⟩ = some (.int .i64 a0_1) := (blk_cell BK230.out 1).trans rfl; have hcz9_2 : w8.cell? ⟨gb230, 2, none⟩ = some (.int .i64 a0_2) := (blk_cell BK230.out 2).trans rfl; have hcz9_3 : w8.cell? ⟨gb230, 3, none⟩ = some (.int .i64 a0_3) := (blk_cell BK230.out 3).trans rfl; have hcz9_4 : w8.cell? ⟨gb230, 4, none⟩ = some (.int .i64 a0_4) := (blk_cell BK230.out 4).trans rfl; have hcz9_5 : w8.cell? ⟨gb230, 5, none⟩ = some (.int .i64 a0_5) := (blk_cell BK230.out 5).trans rfl; have hfz9_0 := blk_frozen BK230.out 0; have hfz9_1 := blk_frozen BK230.out 1; have hfz9_2 := blk_frozen BK230.out 2; have hfz9_3 := blk_frozen BK230.out 3; have hfz9_4 := blk_frozen BK230.out 4; have hfz9_5 := blk_frozen BK230.out 5))
   go_ret
   exact ⟨by first | rfl | (simp [errW_none, errW_some] <;> rfl) | (simp [*, errW_none, errW_some] <;> rfl), by repeat (first | (with_reducible first | exact HB.out | apply below_alloc | apply pw_below_drewN | apply below_drew1 | refine below_set ?_ GE230.out) | exact HB.out)⟩
mutual
def impl_GoodProgram.j0 : Nat → List (S31) → Bool → Option (Bool)
 | 0, _, _ => none
 | k + 1, x0, x18 => if x18 = true then (some false) else (impl_GoodProgram.l0 k x0 x0 (x0.length : Int) 0)
def impl_GoodProgram.l0 : Nat → List (S31) → List (S31) → Int → Int → Option (Bool)
 | 0, _, _, _, _ => none
 | k + 1, x0, x19, x20, x21 => if x21 < x20 then (if 0 ≤ x21 then (if x21 < (x19.length : Int) then ((impl_Step_valid.f k ((rd_T31 x19 x21).f0) ((rd_T31 x19 x21).f1) ((rd_T31 x19 x21).f2) ((rd_T31 x19 x21).f3) ((rd_T31 x19 x21).f4) ((rd_T31 x19 x21).f5)).bind fun t235 => (if t235 = true then ((impl_Step_jumps.f ((rd_T31 x19 x21).f0) ((rd_T31 x19 x21).f1) ((rd_T31 x19 x21).f2) ((rd_T31 x19 x21).f3) ((rd_T31 x19 x21).f4) ((rd_T31 x19 x21).f5)).bind fun t236 => (if t236 = true then (if (wrap64 ((wrap64 (x21 + ((rd_T31 x19 x21).f5))) + 1)) ≥ (x0.length : Int) then (some false) else (impl_GoodProgram.l0 k x0 x19 x20 (wrap64 (x21 + 1)))) else (impl_GoodProgram.l0 k x0 x19 x20 (wrap64 (x21 + 1))))) else (some false))) else (none)) else (none)) else (some true)
end
def impl_GoodProgram.f (k : Nat) (l0 : List (S31)) : Option (Bool) := (impl_in.f (l0.length : Int) 1 20).bind fun t231 => (if t231 = true then (if 0 ≤ (wrap64 ((l0.length : Int) - 1)) then (if (wrap64 ((l0.length : Int) - 1)) < (l0.length : Int) then (impl_GoodProgram.j0 k l0 (((rd_T31 l0 (wrap64 ((l0.length : Int) - 1))).f0) != 11)) else (none)) else (none)) else (impl_GoodProgram.j0 k l0 true))
theorem impl_GoodProgram.mono_l : ∀ k, (∀ y0 y1, LeO (impl_GoodProgram.j0 k y0 y1) (impl_GoodProgram.j0 (k + 1) y0 y1)) ∧ (∀ y0 y1 y2 y3, LeO (impl_GoodProgram.l0 k y0 y1 y2 y3) (impl_GoodProgram.l0 (k + 1) y0 y1 y2 y3))
 | 0 => ⟨fun _ _ r h => by simp [impl_GoodProgram.j0] at h, fun _ _ _ _ r h => by simp [impl_GoodProgram.l0] at h⟩
 | k + 1 => by
  obtain ⟨ih0, ih1⟩ := impl_GoodProgram.mono_l k
  refine ⟨?_, ?_⟩
  ·intro y0 y1
   unfold impl_GoodProgram.j0
   repeat' first
   | (with_reducible exact ih0 _ _)
   | (with_reducible exact ih1 _ _ _ _)
   | (with_reducible exact impl_Step_valid.mono _ _ _ _ _ _ _)
   | (with_reducible exact LeO.refl _)
   | (with_reducible exact LeO.none _)
   | (with_reducible refine LeO.ite ?_ ?_)
   | (with_reducible refine LeO.bind ?_ (fun _ => ?_))
   | exact ih0 _ _
   | exact ih1 _ _ _ _
   | exact impl_Step_valid.mono _ _ _ _ _ _ _
   | exact LeO.none _
   | refine LeO.ite ?_ ?_
   | refine LeO.bind ?_ (fun _ => ?_)
  ·intro y0 y1 y2 y3
   unfold impl_GoodProgram.l0
   repeat' first
   | (with_reducible exact ih0 _ _)
   | (with_reducible exact ih1 _ _ _ _)
   | (with_reducible exact impl_Step_valid.mono _ _ _ _ _ _ _)
   | (with_reducible exact LeO.refl _)
   | (with_reducible exact LeO.none _)
   | (with_reducible refine LeO.ite ?_ ?_)
   | (with_reducible refine LeO.bind ?_ (fun _ => ?_))
   | exact ih0 _ _
   | exact ih1 _ _ _ _
   | exact impl_Step_valid.mono _ _ _ _ _ _ _
   | exact LeO.none _
   | refine LeO.ite ?_ ?_
   | refine LeO.bind ?_ (fun _ => ?_)
theorem impl_GoodProgram.mono : ∀ a0 k, LeO (impl_GoodProgram.f k a0) (impl_GoodProgram.f (k + 1) a0) := by
 intro a0 k
 obtain ⟨ih0, ih1⟩ := impl_GoodProgram.mono_l k
 unfold impl_GoodProgram.f
 repeat' first
   | (with_reducible exact ih0 _ _)
   | (with_reducible exact ih1 _ _ _ _)
   | (with_reducible exact impl_Step_valid.mono _ _ _ _ _ _ _)
   | (with_reducible exact LeO.refl _)
   | (with_reducible exact LeO.none _)
   | (with_reducible refine LeO.ite ?_ ?_)
   | (with_reducible refine LeO.bind ?_ (fun _ => ?_))
   | exact ih0 _ _
   | exact ih1 _ _ _ _
   | exact impl_Step_valid.mono _ _ _ _ _ _ _
   | exact LeO.none _
   | refine LeO.ite ?_ ?_
   | refine LeO.bind ?_ (fun _ => ?_)
set_option maxHeartbeats 8000000 in
set_option maxRecDepth 100000 in
theorem impl_GoodProgram.calls (k : Nat) (A0 : Option Addr) (c0 : Nat) (l0 : List (S31)) (r : Bool) (w : World) (hr0 : Kd.C k31 w A0 l0.length l0) (hc0 : l0.length ≤ c0) (h : impl_GoodProgram.f k l0 = some r) :
  Calls Tryd.prog 18 #[.slice A0 l0.length c0] w fun e w' => e = .returned (.bool r) ∧ Below w.heap.size w w' := by
 have hu31 := Tryd.underlying31
 have HR0 := Aside0.mk hr0
 have HC0 := Aside0.mk hc0
 clear hr0 hc0
 have HB := Aside0.mk (Below.refl w.heap.size w)
 have H : ((impl_in.f (l0.length : Int) 1 20).bind fun t231 => (if t231 = true then (if 0 ≤ (wrap64 ((l0.length : Int) - 1)) then (if (wrap64 ((l0.length : Int) - 1)) < (l0.length : Int) then (impl_GoodProgram.j0 k l0 (((rd_T31 l0 (wrap64 ((l0.length : Int) - 1))).f0) != 11)) else (none)) else (none)) else (impl_GoodProgram.j0 k l0 true))) = some r := h
 clear h
 have HC2 := Aside0.mk H
 clear H
 go_enter Tryd.func18, Tryd.ntmps18
 go_upto_region 1 with (fail)
 go_cut [18] (fun v18 wc => ∃ (kq : Nat) (x18_1 : Bool), v18 = .bool x18_1 ∧ Aside0 (impl_GoodProgram.j0 kq l0 x18_1 = some r) ∧ Aside0 (kq ≤ k) ∧ Aside0 (Below w.heap.size w wc))
 case first =>
  have H := HC2.out
  clear HC2
  replace H := Option.bind_eq_some_iff.mp H
  obtain ⟨t231, A30, H⟩ := H
  (try dsimp only at H)
  have A3 := Aside0.mk A30
  clear A30
  by_cases c4 : t231 = true
  ·subst c4
   have H1 : (if 0 ≤ (wrap64 ((l0.length : Int) - 1)) then (if (wrap64 ((l0.length : Int) - 1)) < (l0.length : Int) then (impl_GoodProgram.j0 k l0 (((rd_T31 l0 (wrap64 ((l0.length : Int) - 1))).f0) != 11)) else (none)) else (none)) = some r := by rw [if_pos rfl] at H; exact H
   clear H
   have H := H1
   clear H1
   obtain ⟨ji5, hji5⟩ : ∃ j_ : Int, (wrap64 ((l0.length : Int) - 1)) = j_ := ⟨_, rfl⟩
   replace H : (if 0 ≤ (ji5) then (if (ji5) < (l0.length : Int) then (impl_GoodProgram.j0 k l0 (((rd_T31 l0 (ji5)).f0) != 11)) else (none)) else (none)) = some r := by first | (rw [hji5] at H; exact H) | (simp only [hji5] at H ⊢; exact H)
   (try rw [hji5] at A3)
   have hji5w : (IntKind.i64.wrap ((l0.length : Int) - 1)) = ji5 := (i64_w _).trans hji5
   by_cases c6 : 0 ≤ (ji5)
   ·rw [if_pos c6] at H
    have c6b0 : decide (0 ≤ (ji5)) = true := decide_eq_true c6
    clear c6
    (first | rw [c6b0] | (simp only [i64_w, i32_w]; rw [c6b0]) | skip)
    by_cases c7 : (ji5) < (l0.length : Int)
    ·rw [if_pos c7] at H
     have c7b0 : decide ((ji5) < (l0.length : Int)) = true := decide_eq_true c7
     clear c7
     have H' := Aside0.mk H
     clear H
     go_wp2_with (first | ((with_reducible refine gate_callee (f := 19) rfl ?_); refine goesL_ (some 7) rfl rfl Tryd.func19 (by kernel_rfl) rfl #[.int .i64 (l0.length : Int), .int .i64 1, .int .i64 20] rfl (by simp only [zA_, zB_, zD_] <;> rfl) ?_; (with_reducible refine (impl_in.calls (l0.length : Int) 1 20 true _ A3.out).mono ?_); rintro e w' ⟨rfl, ⟨nd, rfl⟩⟩; refine ⟨_, rfl, ?_⟩; have p232 : 0 ≤ ((ji5) : Int) := of_decide_eq_true (by assumption); have q232 : (ji5) < (l0.length : Int) := of_decide_eq_true (by assumption); obtain ⟨ad232, e232, hx232_0, hx232_1, hx232_2, hx232_3, hx232_4, hx232_5⟩ := at_T31 HR0.out (ji5) p232 q232; cases e232; replace hx232_0 := (HB.out.cell (World.block_lt_of_cell? w _ hx232_0)).trans hx232_0; replace hx232_1 := (HB.out.cell (World.block_lt_of_cell? w _ hx232_1)).trans hx232_1; replace hx232_2 := (HB.out.cell (World.block_lt_of_cell? w _ hx232_2)).trans hx232_2; replace hx232_3 := (HB.out.cell (World.block_lt_of_cell? w _ hx232_3)).trans hx232_3; replace hx232_4 := (HB.out.cell (World.block_lt_of_cell? w _ hx232_4)).trans hx232_4; replace hx232_5 := (HB.out.cell (World.block_lt_of_cell? w _ hx232_5)).trans hx232_5; replace p232 := eq_true p232; replace q232 := eq_true q232))
     go_meet
     case rel => exact ⟨_, ((((rd_T31 l0 (ji5)).f0) != 11)), (by first | rfl | (simp; done) | (simp only [← hji5] <;> (first | rfl | simp)) | (simp [*]; done)), H', ⟨by first | omega | exact Nat.le_refl _⟩, ⟨zb_ HB.out⟩⟩
    ·rw [if_neg c7] at H
     exact absurd H (by simp)
   ·rw [if_neg c6] at H
    exact absurd H (by simp)
  ·replace c4 := Bool.eq_false_iff.mpr c4
   subst c4
   have H1 : (impl_GoodProgram.j0 k l0 true) = some r := by rw [if_neg (show ¬ (false = true) by decide)] at H; exact H
   clear H
   have H := H1
   clear H1
   have H' := Aside0.mk H
   clear H
   go_wp2_with (first | ((with_reducible refine gate_callee (f := 19) rfl ?_); refine goesL_ (some 7) rfl rfl Tryd.func19 (by kernel_rfl) rfl #[.int .i64 (l0.length : Int), .int .i64 1, .int .i64 20] rfl (by simp only [zA_, zB_, zD_] <;> rfl) ?_; (with_reducible refine (impl_in.calls (l0.length : Int) 1 20 false _ A3.out).mono ?_); rintro e w' ⟨rfl, ⟨nd, rfl⟩⟩; refine ⟨_, rfl, ?_⟩))
   go_meet
   case rel => exact ⟨_, (true), (by first | rfl | (simp; done) | (simp [*]; done)), H', ⟨by first | omega | exact Nat.le_refl _⟩, ⟨zb_ HB.out⟩⟩
 case rest =>
  clear HC2
  try clear c1
  try clear p2
  try clear q2
  try clear hx2
  try clear c4
  try clear c6
  try clear c6b0
  try clear p6
  try clear c7
  try clear c7b0
  try clear hx232_0
  try clear hx232_1
  try clear hx232_2
  try clear hx232_3
  try clear hx232_4
  try clear hx232_5
  try clear p232
  try clear q232
  obtain ⟨kq, x18_1, rfl, HA, HJ1, HB⟩ := hcut
  cases kq with
  | zero => exact absurd HA.out (by simp [impl_GoodProgram.j0])
  | succ kj1 =>
   have H := HA.out
   clear HA
   simp only [impl_GoodProgram.j0] at H
   by_cases c8 : x18_1 = true
   ·subst c8
    have H1 : (some false) = some r := by rw [if_pos rfl] at H; exact H
    clear H
    have H := H1
    clear H1
    obtain rfl := Option.some.inj H
    go_wp2
    go_ret
    exact ⟨by first | rfl | (simp [errW_none, errW_some] <;> rfl) | (simp [*, errW_none, errW_some] <;> rfl), zb_ HB.out⟩
   ·replace c8 := Bool.eq_false_iff.mpr c8
    subst c8
    have H1 : (impl_GoodProgram.l0 kj1 l0 l0 (l0.length : Int) 0) = some r := by rw [if_neg (show ¬ (false = true) by decide)] at H; exact H
    clear H
    have H := H1
    clear H1
    have H' := Aside0.mk H
    clear H
    go_wp2
    go_loopg [21] kj1 (fun kq v21 w' => ∃ (x21_2 : Int), v21 = .int .i64 x21_2 ∧ Aside0 (impl_GoodProgram.l0 kq l0 l0 (l0.length : Int) x21_2 = some r) ∧ Aside0 (kq ≤ kj1) ∧ Aside0 (Below w.heap.size w w'))
    case atStart => exact ⟨(0), (by first | rfl | (simp; done) | (simp [*]; done)), H', ⟨Nat.le_refl _⟩, ⟨zb_ HB.out⟩⟩
    case round =>
     clear H'
     try clear c1
     try clear p2
     try clear q2
     try clear hx2
     try clear c4
     try clear c6
     try clear c6b0
     try clear p6
     try clear c7
     try clear c7b0
     try clear c8
     try clear hx232_0
     try clear hx232_1
     try clear hx232_2
     try clear hx232_3
     try clear hx232_4
     try clear hx232_5
     try clear p2
     try clear p232
     try clear p6
     try clear q2
     try clear q232
     obtain ⟨x21_2, rfl, HA, HK2, HB⟩ := hrel
     cases gk with
     | zero => exact absurd HA.out (by simp [impl_GoodProgram.l0])
     | succ k2 =>
      have H := HA.out
      clear HA
      simp only [impl_GoodProgram.l0] at H
      by_cases c9 : x21_2 < (l0.length : Int)
      ·rw [if_pos c9] at H
       have c9b0 : decide (x21_2 < (l0.length : Int)) = true := decide_eq_true c9
       clear c9
       by_cases c10 : 0 ≤ x21_2
       ·rw [if_pos c10] at H
        have c10b0 : decide (0 ≤ x21_2) = true := decide_eq_true c10
        clear c10
        by_cases c11 : x21_2 < (l0.length : Int)
        ·rw [if_pos c11] at H
         have c11b0 : decide (x21_2 < (l0.length : Int)) = true := decide_eq_true c11
         clear c11
         replace H := Option.bind_eq_some_iff.mp H
         obtain ⟨t235, A120, H⟩ := H
         (try dsimp only at H)
         have A12 := Aside0.mk A120
         clear A120
         by_cases c13 : t235 = true
         ·subst c13
          have H1 : ((impl_Step_jumps.f ((rd_T31 l0 x21_2).f0) ((rd_T31 l0 x21_2).f1) ((rd_T31 l0 x21_2).f2) ((rd_T31 l0 x21_2).f3) ((rd_T31 l0 x21_2).f4) ((rd_T31 l0 x21_2).f5)).bind fun t236 => (if t236 = true then (if (wrap64 ((wrap64 (x21_2 + ((rd_T31 l0 x21_2).f5))) + 1)) ≥ (l0.length : Int) then (some false) else (impl_GoodProgram.l0 k2 l0 l0 (l0.length : Int) (wrap64 (x21_2 + 1)))) else (impl_GoodProgram.l0 k2 l0 l0 (l0.length : Int) (wrap64 (x21_2 + 1))))) = some r := by rw [if_pos rfl] at H; exact H
          clear H
          have H := H1
          clear H1
          replace H := Option.bind_eq_some_iff.mp H
          obtain ⟨t236, A140, H⟩ := H
          (try dsimp only at H)
          have A14 := Aside0.mk A140
          clear A140
          by_cases c15 : t236 = true
          ·subst c15
           have H1 : (if (wrap64 ((wrap64 (x21_2 + ((rd_T31 l0 x21_2).f5))) + 1)) ≥ (l0.length : Int) then (some false) else (impl_GoodProgram.l0 k2 l0 l0 (l0.length : Int) (wrap64 (x21_2 + 1)))) = some r := by rw [if_pos rfl] at H; exact H
           clear H
           have H := H1
           clear H1
           by_cases c16 : (wrap64 ((wrap64 (x21_2 + ((rd_T31 l0 x21_2).f5))) + 1)) ≥ (l0.length : Int)
           ·rw [if_pos c16] at H
            have c16b0 : decide ((l0.length : Int) ≤ (wrap64 ((wrap64 (x21_2 + ((rd_T31 l0 x21_2).f5))) + 1))) = true := decide_eq_true c16
            clear c16
            obtain rfl := Option.some.inj H
            have p233 : 0 ≤ (x21_2 : Int) := of_decide_eq_true (by assumption)
            have q233 : x21_2 < (l0.length : Int) := of_decide_eq_true (by assumption)
            obtain ⟨ad233, e233, hx233_0, hx233_1, hx233_2, hx233_3, hx233_4, hx233_5⟩ := at_T31 HR0.out x21_2 p233 q233
            cases e233
            (try replace hx233_0 := (HB.out.cell (World.block_lt_of_cell? w _ hx233_0)).trans hx233_0)
            (try replace hx233_1 := (HB.out.cell (World.block_lt_of_cell? w _ hx233_1)).trans hx233_1)
            (try replace hx233_2 := (HB.out.cell (World.block_lt_of_cell? w _ hx233_2)).trans hx233_2)
            (try replace hx233_3 := (HB.out.cell (World.block_lt_of_cell? w _ hx233_3)).trans hx233_3)
            (try replace hx233_4 := (HB.out.cell (World.block_lt_of_cell? w _ hx233_4)).trans hx233_4)
            (try replace hx233_5 := (HB.out.cell (World.block_lt_of_cell? w _ hx233_5)).trans hx233_5)
            replace p233 := eq_true p233
            replace q233 := eq_true q233
            go_wp2_with (first | ((with_reducible refine gate_dst (N := 4) rfl ?_); (try (refine gate_guard (by rfl) ?_; dsimp only)); refine box_event ?hg (N := 4) ?hd (cs := #[.int .i64 0, .int .i64 0, .int .i64 0, .int .i64 0, .int .i64 0, .int .i64 0]) (t := 31) ?hr ?_; (case hd => rfl); (case hg => rfl); (case hr => first | (go_simp; done) | (go_simp; rfl)); intro gb234 hg w17 hbox hb; have n0_ := Aside0.mk (below_step (zb_ HB.out) hb); have n1_ := Aside0.mk (hbox); have n2_ := Aside0.mk ((by rw [hg]; exact (below_size (zb_ HB.out)) : w.heap.size ≤ gb234)); have n3_ := Aside0.mk ((by rw [hg]; exact (below_size (zb_ HB.out)) : w.heap.size ≤ gb234)); clear HB; have HB := n0_; have BK234 := n1_; have GW234 := n2_; have GE234 := n3_; clear n0_ n1_ n2_ n3_; clear hb hbox hg; have hcz18_0 : w17.cell? ⟨gb234, 0, none⟩ = some (.int .i64 0) := (blk_cell BK234.out 0).trans rfl; have hcz18_1 : w17.cell? ⟨gb234, 1, none⟩ = some (.int .i64 0) := (blk_cell BK234.out 1).trans rfl; have hcz18_2 : w17.cell? ⟨gb234, 2, none⟩ = some (.int .i64 0) := (blk_cell BK234.out 2).trans rfl; have hcz18_3 : w17.cell? ⟨gb234, 3, none⟩ = some (.int .i64 0) := (blk_cell BK234.out 3).trans rfl; have hcz18_4 : w17.cell? ⟨gb234, 4, none⟩ = some (.int .i64 0) := (blk_cell BK234.out 4).trans rfl; have hcz18_5 : w17.cell? ⟨gb234, 5, none⟩ = some (.int .i64 0) := (blk_cell BK234.out 5).trans rfl; have hfz18_0 := blk_frozen BK234.out 0; have hfz18_1 := blk_frozen BK234.out 1; have hfz18_2 := blk_frozen BK234.out 2; have hfz18_3 := blk_frozen BK234.out 3; have hfz18_4 := blk_frozen BK234.out 4; have hfz18_5 := blk_frozen BK234.out 5) | ((with_reducible refine gate_callee (f := 23) rfl ?_); refine goesL_ (some 27) rfl rfl Tryd.func23 (by kernel_rfl) rfl #[.agg #[.int .i64 ((rd_T31 l0 x21_2).f0), .int .i64 ((rd_T31 l0 x21_2).f1), .int .i64 ((rd_T31 l0 x21_2).f2), .int .i64 ((rd_T31 l0 x21_2).f3), .int .i64 ((rd_T31 l0 x21_2).f4), .int .i64 ((rd_T31 l0 x21_2).f5)]] rfl (by simp only [zA_, zB_, zD_] <;> rfl) ?_; (with_reducible refine (impl_Step_valid.calls k2 ((rd_T31 l0 x21_2).f0) ((rd_T31 l0 x21_2).f1) ((rd_T31 l0 x21_2).f2) ((rd_T31 l0 x21_2).f3) ((rd_T31 l0 x21_2).f4) ((rd_T31 l0 x21_2).f5) true _ A12.out).mono ?_); rintro e w19 ⟨rfl, hb⟩; refine ⟨_, rfl, ?_⟩; have n0_ := Aside0.mk (blk_below (g := gb234) (o := .cells #[.int .i64 ((rd_T31 l0 x21_2).f0), .int .i64 ((rd_T31 l0 x21_2).f1), .int .i64 ((rd_T31 l0 x21_2).f2), .int .i64 ((rd_T31 l0 x21_2).f3), .int .i64 ((rd_T31 l0 x21_2).f4), .int .i64 ((rd_T31 l0 x21_2).f5)] 31 (0, 0)) (by (with_reducible repeat (first | refine blk_drewN ?_ _ | refine blk_drew ?_ | refine blk_alloc ?_ _)); refine blk_put (cs := #[.int .i64 ((rd_T31 l0 x21_2).f0), .int .i64 ((rd_T31 l0 x21_2).f1), .int .i64 ((rd_T31 l0 x21_2).f2), .int .i64 ((rd_T31 l0 x21_2).f3), .int .i64 ((rd_T31 l0 x21_2).f4), .int .i64 0]) ?_ 5 _ rfl; (with_reducible repeat (first | refine blk_drewN ?_ _ | refine blk_drew ?_ | refine blk_alloc ?_ _)); refine blk_put (cs := #[.int .i64 ((rd_T31 l0 x21_2).f0), .int .i64 ((rd_T31 l0 x21_2).f1), .int .i64 ((rd_T31 l0 x21_2).f2), .int .i64 ((rd_T31 l0 x21_2).f3), .int .i64 0, .int .i64 0]) ?_ 4 _ rfl; (with_reducible repeat (first | refine blk_drewN ?_ _ | refine blk_drew ?_ | refine blk_alloc ?_ _)); refine blk_put (cs := #[.int .i64 ((rd_T31 l0 x21_2).f0), .int .i64 ((rd_T31 l0 x21_2).f1), .int .i64 ((rd_T31 l0 x21_2).f2), .int .i64 0, .int .i64 0, .int .i64 0]) ?_ 3 _ rfl; (with_reducible repeat (first | refine blk_drewN ?_ _ | refine blk_drew ?_ | refine blk_alloc ?_ _)); refine blk_put (cs := #[.int .i64 ((rd_T31 l0 x21_2).f0), .int .i64 ((rd_T31 l0 x21_2).f1), .int .i64 0, .int .i64 0, .int .i64 0, .int .i64 0]) ?_ 2 _ rfl; (with_reducible repeat (first | refine blk_drewN ?_ _ | refine blk_drew ?_ | refine blk_alloc ?_ _)); refine blk_put (cs := #[.int .i64 ((rd_T31 l0 x21_2).f0), .int .i64 0, .int .i64 0, .int .i64 0, .int .i64 0, .int .i64 0]) ?_ 1 _ rfl; (with_reducible repeat (first | refine blk_drewN ?_ _ | refine blk_drew ?_ | refine blk_alloc ?_ _)); refine blk_put (cs := #[.int .i64 0, .int .i64 0, .int .i64 0, .int .i64 0, .int .i64 0, .int .i64 0]) ?_ 0 _ rfl; (with_reducible repeat (first | refine blk_drewN ?_ _ | refine blk_drew ?_ | refine blk_alloc ?_ _)); exact BK234.out) hb); have n1_ := Aside0.mk (below_step (by repeat (first | (with_reducible first | exact HB.out | apply below_alloc | apply pw_below_drewN | apply below_drew1 | refine below_set ?_ GE234.out) | exact HB.out)) hb); clear BK234; clear HB; have BK234 := n0_; have HB := n1_; clear n0_ n1_; (try clear hb); (try clear hb2); (try clear hk); (try clear hi); have hcz20_0 : w19.cell? ⟨gb234, 0, none⟩ = some (.int .i64 ((rd_T31 l0 x21_2).f0)) := (blk_cell BK234.out 0).trans rfl; have hcz20_1 : w19.cell? ⟨gb234, 1, none⟩ = some (.int .i64 ((rd_T31 l0 x21_2).f1)) := (blk_cell BK234.out 1).trans rfl; have hcz20_2 : w19.cell? ⟨gb234, 2, none⟩ = some (.int .i64 ((rd_T31 l0 x21_2).f2)) := (blk_cell BK234.out 2).trans rfl; have hcz20_3 : w19.cell? ⟨gb234, 3, none⟩ = some (.int .i64 ((rd_T31 l0 x21_2).f3)) := (blk_cell BK234.out 3).trans rfl; have hcz20_4 : w19.cell? ⟨gb234, 4, none⟩ = some (.int .i64 ((rd_T31 l0 x21_2).f4)) := (blk_cell BK234.out 4).trans rfl; have hcz20_5 : w19.cell? ⟨gb234, 5, none⟩ = some (.int .i64 ((rd_T31 l0 x21_2).f5)) := (blk_cell BK234.out 5).trans rfl; have hfz20_0 := blk_frozen BK234.out 0; have hfz20_1 := blk_frozen BK234.out 1; have hfz20_2 := blk_frozen BK234.out 2; have hfz20_3 := blk_frozen BK234.out 3; have hfz20_4 := blk_frozen BK234.out 4; have hfz20_5 := blk_frozen BK234.out 5) | (go_at_call 34; (with_reducible refine (impl_Step_jumps.calls ((rd_T31 l0 x21_2).f0) ((rd_T31 l0 x21_2).f1) ((rd_T31 l0 x21_2).f2) ((rd_T31 l0 x21_2).f3) ((rd_T31 l0 x21_2).f4) ((rd_T31 l0 x21_2).f5) true _ A14.out).mono ?_); rintro e w21 ⟨rfl, hb⟩; have n0_ := Aside0.mk (blk_below (g := gb234) (o := .cells #[.int .i64 ((rd_T31 l0 x21_2).f0), .int .i64 ((rd_T31 l0 x21_2).f1), .int .i64 ((rd_T31 l0 x21_2).f2), .int .i64 ((rd_T31 l0 x21_2).f3), .int .i64 ((rd_T31 l0 x21_2).f4), .int .i64 ((rd_T31 l0 x21_2).f5)] 31 (0, 0)) (by (with_reducible repeat (first | refine blk_drewN ?_ _ | refine blk_drew ?_ | refine blk_alloc ?_ _)); exact BK234.out) hb); have n1_ := Aside0.mk (below_step (by repeat (first | (with_reducible first | exact HB.out | apply below_alloc | apply pw_below_drewN | apply below_drew1 | refine below_set ?_ GE234.out) | exact HB.out)) hb); clear BK234; clear HB; have BK234 := n0_; have HB := n1_; clear n0_ n1_; (try clear hb); (try clear hb2); (try clear hk); (try clear hi); have hcz22_0 : w21.cell? ⟨gb234, 0, none⟩ = some (.int .i64 ((rd_T31 l0 x21_2).f0)) := (blk_cell BK234.out 0).trans rfl; have hcz22_1 : w21.cell? ⟨gb234, 1, none⟩ = some (.int .i64 ((rd_T31 l0 x21_2).f1)) := (blk_cell BK234.out 1).trans rfl; have hcz22_2 : w21.cell? ⟨gb234, 2, none⟩ = some (.int .i64 ((rd_T31 l0 x21_2).f2)) := (blk_cell BK234.out 2).trans rfl; have hcz22_3 : w21.cell? ⟨gb234, 3, none⟩ = some (.int .i64 ((rd_T31 l0 x21_2).f3)) := (blk_cell BK234.out 3).trans rfl; have hcz22_4 : w21.cell? ⟨gb234, 4, none⟩ = some (.int .i64 ((rd_T31 l0 x21_2).f4)) := (blk_cell BK234.out 4).trans rfl; have hcz22_5 : w21.cell? ⟨gb234, 5, none⟩ = some (.int .i64 ((rd_T31 l0 x21_2).f5)) := (blk_cell BK234.out 5).trans rfl; have hfz22_0 := blk_frozen BK234.out 0; have hfz22_1 := blk_frozen BK234.out 1; have hfz22_2 := blk_frozen BK234.out 2; have hfz22_3 := blk_frozen BK234.out 3; have hfz22_4 := blk_frozen BK234.out 4; have hfz22_5 := blk_frozen BK234.out 5))
            go_ret
            exact ⟨by first | rfl | (simp [errW_none, errW_some] <;> rfl) | (simp [*, errW_none, errW_some] <;> rfl), by repeat (first | (with_reducible first | exact HB.out | apply below_alloc | apply pw_below_drewN | apply below_drew1 | refine below_set ?_ GE234.out) | exact HB.out)⟩
           ·rw [if_neg c16] at H
            have c16b0 : decide ((l0.length : Int) ≤ (wrap64 ((wrap64 (x21_2 + ((rd_T31 l0 x21_2).f5))) + 1))) = false := decide_eq_false c16
            clear c16
            have H' := Aside0.mk H
            clear H
            have p233 : 0 ≤ (x21_2 : Int) := of_decide_eq_true (by assumption)
            have q233 : x21_2 < (l0.length : Int) := of_decide_eq_true (by assumption)
            obtain ⟨ad233, e233, hx233_0, hx233_1, hx233_2, hx233_3, hx233_4, hx233_5⟩ := at_T31 HR0.out x21_2 p233 q233
            cases e233
            (try replace hx233_0 := (HB.out.cell (World.block_lt_of_cell? w _ hx233_0)).trans hx233_0)
            (try replace hx233_1 := (HB.out.cell (World.block_lt_of_cell? w _ hx233_1)).trans hx233_1)
            (try replace hx233_2 := (HB.out.cell (World.block_lt_of_cell? w _ hx233_2)).trans hx233_2)
            (try replace hx233_3 := (HB.out.cell (World.block_lt_of_cell? w _ hx233_3)).trans hx233_3)
            (try replace hx233_4 := (HB.out.cell (World.block_lt_of_cell? w _ hx233_4)).trans hx233_4)
            (try replace hx233_5 := (HB.out.cell (World.block_lt_of_cell? w _ hx233_5)).trans hx233_5)
            replace p233 := eq_true p233
            replace q233 := eq_true q233
            go_wp2_with (first | ((with_reducible refine gate_dst (N := 4) rfl ?_); (try (refine gate_guard (by rfl) ?_; dsimp only)); refine box_event ?hg (N := 4) ?hd (cs := #[.int .i64 0, .int .i64 0, .int .i64 0, .int .i64 0, .int .i64 0, .int .i64 0]) (t := 31) ?hr ?_; (case hd => rfl); (case hg => rfl); (case hr => first | (go_simp; done) | (go_simp; rfl)); intro gb234 hg w23 hbox hb; have n0_ := Aside0.mk (below_step (zb_ HB.out) hb); have n1_ := Aside0.mk (hbox); have n2_ := Aside0.mk ((by rw [hg]; exact (below_size (zb_ HB.out)) : w.heap.size ≤ gb234)); have n3_ := Aside0.mk ((by rw [hg]; exact (below_size (zb_ HB.out)) : w.heap.size ≤ gb234)); clear HB; have HB := n0_; have BK234 := n1_; have GW234 := n2_; have GE234 := n3_; clear n0_ n1_ n2_ n3_; clear hb hbox hg; have hcz24_0 : w23.cell? ⟨gb234, 0, none⟩ = some (.int .i64 0) := (blk_cell BK234.out 0).trans rfl; have hcz24_1 : w23.cell? ⟨gb234, 1, none⟩ = some (.int .i64 0) := (blk_cell BK234.out 1).trans rfl; have hcz24_2 : w23.cell? ⟨gb234, 2, none⟩ = some (.int .i64 0) := (blk_cell BK234.out 2).trans rfl; have hcz24_3 : w23.cell? ⟨gb234, 3, none⟩ = some (.int .i64 0) := (blk_cell BK234.out 3).trans rfl; have hcz24_4 : w23.cell? ⟨gb234, 4, none⟩ = some (.int .i64 0) := (blk_cell BK234.out 4).trans rfl; have hcz24_5 : w23.cell? ⟨gb234, 5, none⟩ = some (.int .i64 0) := (blk_cell BK234.out 5).trans rfl; have hfz24_0 := blk_frozen BK234.out 0; have hfz24_1 := blk_frozen BK234.out 1; have hfz24_2 := blk_frozen BK234.out 2; have hfz24_3 := blk_frozen BK234.out 3; have hfz24_4 := blk_frozen BK234.out 4; have hfz24_5 := blk_frozen BK234.out 5) | ((with_reducible refine gate_callee (f := 23) rfl ?_); refine goesL_ (some 27) rfl rfl Tryd.func23 (by kernel_rfl) rfl #[.agg #[.int .i64 ((rd_T31 l0 x21_2).f0), .int .i64 ((rd_T31 l0 x21_2).f1), .int .i64 ((rd_T31 l0 x21_2).f2), .int .i64 ((rd_T31 l0 x21_2).f3), .int .i64 ((rd_T31 l0 x21_2).f4), .int .i64 ((rd_T31 l0 x21_2).f5)]] rfl (by simp only [zA_, zB_, zD_] <;> rfl) ?_; (with_reducible refine (impl_Step_valid.calls k2 ((rd_T31 l0 x21_2).f0) ((rd_T31 l0 x21_2).f1) ((rd_T31 l0 x21_2).f2) ((rd_T31 l0 x21_2).f3) ((rd_T31 l0 x21_2).f4) ((rd_T31 l0 x21_2).f5) true _ A12.out).mono ?_); rintro e w25 ⟨rfl, hb⟩; refine ⟨_, rfl, ?_⟩; have n0_ := Aside0.mk (blk_below (g := gb234) (o := .cells #[.int .i64 ((rd_T31 l0 x21_2).f0), .int .i64 ((rd_T31 l0 x21_2).f1), .int .i64 ((rd_T31 l0 x21_2).f2), .int .i64 ((rd_T31 l0 x21_2).f3), .int .i64 ((rd_T31 l0 x21_2).f4), .int .i64 ((rd_T31 l0 x21_2).f5)] 31 (0, 0)) (by (with_reducible repeat (first | refine blk_drewN ?_ _ | refine blk_drew ?_ | refine blk_alloc ?_ _)); refine blk_put (cs := #[.int .i64 ((rd_T31 l0 x21_2).f0), .int .i64 ((rd_T31 l0 x21_2).f1), .int .i64 ((rd_T31 l0 x21_2).f2), .int .i64 ((rd_T31 l0 x21_2).f3), .int .i64 ((rd_T31 l0 x21_2).f4), .int .i64 0]) ?_ 5 _ rfl; (with_reducible repeat (first | refine blk_drewN ?_ _ | refine blk_drew ?_ | refine blk_alloc ?_ _)); refine blk_put (cs := #[.int .i64 ((rd_T31 l0 x21_2).f0), .int .i64 ((rd_T31 l0 x21_2).f1), .int .i64 ((rd_T31 l0 x21_2).f2), .int .i64 ((rd_T31 l0 x21_2).f3), .int .i64 0, .int .i64 0]) ?_ 4 _ rfl; (with_reducible repeat (first | refine blk_drewN ?_ _ | refine blk_drew ?_ | refine blk_alloc ?_ _)); refine blk_put (cs := #[.int .i64 ((rd_T31 l0 x21_2).f0), .int .i64 ((rd_T31 l0 x21_2).f1), .int .i64 ((rd_T31 l0 x21_2).f2), .int .i64 0, .int .i64 0, .int .i64 0]) ?_ 3 _ rfl; (with_reducible repeat (first | refine blk_drewN ?_ _ | refine blk_drew ?_ | refine blk_alloc ?_ _)); refine blk_put (cs := #[.int .i64 ((rd_T31 l0 x21_2).f0), .int .i64 ((rd_T31 l0 x21_2).f1), .int .i64 0, .int .i64 0, .int .i64 0, .int .i64 0]) ?_ 2 _ rfl; (with_reducible repeat (first | refine blk_drewN ?_ _ | refine blk_drew ?_ | refine blk_alloc ?_ _)); refine blk_put (cs := #[.int .i64 ((rd_T31 l0 x21_2).f0), .int .i64 0, .int .i64 0, .int .i64 0, .int .i64 0, .int .i64 0]) ?_ 1 _ rfl; (with_reducible repeat (first | refine blk_drewN ?_ _ | refine blk_drew ?_ | refine blk_alloc ?_ _)); refine blk_put (cs := #[.int .i64 0, .int .i64 0, .int .i64 0, .int .i64 0, .int .i64 0, .int .i64 0]) ?_ 0 _ rfl; (with_reducible repeat (first | refine blk_drewN ?_ _ | refine blk_drew ?_ | refine blk_alloc ?_ _)); exact BK234.out) hb); have n1_ := Aside0.mk (below_step (by repeat (first | (with_reducible first | exact HB.out | apply below_alloc | apply pw_below_drewN | apply below_drew1 | refine below_set ?_ GE234.out) | exact HB.out)) hb); clear BK234; clear HB; have BK234 := n0_; have HB := n1_; clear n0_ n1_; (try clear hb); (try clear hb2); (try clear hk); (try clear hi); have hcz26_0 : w25.cell? ⟨gb234, 0, none⟩ = some (.int .i64 ((rd_T31 l0 x21_2).f0)) := (blk_cell BK234.out 0).trans rfl; have hcz26_1 : w25.cell? ⟨gb234, 1, none⟩ = some (.int .i64 ((rd_T31 l0 x21_2).f1)) := (blk_cell BK234.out 1).trans rfl; have hcz26_2 : w25.cell? ⟨gb234, 2, none⟩ = some (.int .i64 ((rd_T31 l0 x21_2).f2)) := (blk_cell BK234.out 2).trans rfl; have hcz26_3 : w25.cell? ⟨gb234, 3, none⟩ = some (.int .i64 ((rd_T31 l0 x21_2).f3)) := (blk_cell BK234.out 3).trans rfl; have hcz26_4 : w25.cell? ⟨gb234, 4, none⟩ = some (.int .i64 ((rd_T31 l0 x21_2).f4)) := (blk_cell BK234.out 4).trans rfl; have hcz26_5 : w25.cell? ⟨gb234, 5, none⟩ = some (.int .i64 ((rd_T31 l0 x21_2).f5)) := (blk_cell BK234.out 5).trans rfl; have hfz26_0 := blk_frozen BK234.out 0; have hfz26_1 := blk_frozen BK234.out 1; have hfz26_2 := blk_frozen BK234.out 2; have hfz26_3 := blk_frozen BK234.out 3; have hfz26_4 := blk_frozen BK234.out 4; have hfz26_5 := blk_frozen BK234.out 5) | (go_at_call 34; (with_reducible refine (impl_Step_jumps.calls ((rd_T31 l0 x21_2).f0) ((rd_T31 l0 x21_2).f1) ((rd_T31 l0 x21_2).f2) ((rd_T31 l0 x21_2).f3) ((rd_T31 l0 x21_2).f4) ((rd_T31 l0 x21_2).f5) true _ A14.out).mono ?_); rintro e w27 ⟨rfl, hb⟩; have n0_ := Aside0.mk (blk_below (g := gb234) (o := .cells #[.int .i64 ((rd_T31 l0 x21_2).f0), .int .i64 ((rd_T31 l0 x21_2).f1), .int .i64 ((rd_T31 l0 x21_2).f2), .int .i64 ((rd_T31 l0 x21_2).f3), .int .i64 ((rd_T31 l0 x21_2).f4), .int .i64 ((rd_T31 l0 x21_2).f5)] 31 (0, 0)) (by (with_reducible repeat (first | refine blk_drewN ?_ _ | refine blk_drew ?_ | refine blk_alloc ?_ _)); exact BK234.out) hb); have n1_ := Aside0.mk (below_step (by repeat (first | (with_reducible first | exact HB.out | apply below_alloc | apply pw_below_drewN | apply below_drew1 | refine below_set ?_ GE234.out) | exact HB.out)) hb); clear BK234; clear HB; have BK234 := n0_; have HB := n1_; clear n0_ n1_; (try clear hb); (try clear hb2); (try clear hk); (try clear hi); have hcz28_0 : w27.cell? ⟨gb234, 0, none⟩ = some (.int .i64 ((rd_T31 l0 x21_2).f0)) := (blk_cell BK234.out 0).trans rfl; have hcz28_1 : w27.cell? ⟨gb234, 1, none⟩ = some (.int .i64 ((rd_T31 l0 x21_2).f1)) := (blk_cell BK234.out 1).trans rfl; have hcz28_2 : w27.cell? ⟨gb234, 2, none⟩ = some (.int .i64 ((rd_T31 l0 x21_2).f2)) := (blk_cell BK234.out 2).trans rfl; have hcz28_3 : w27.cell? ⟨gb234, 3, none⟩ = some (.int .i64 ((rd_T31 l0 x21_2).f3)) := (blk_cell BK234.out 3).trans rfl; have hcz28_4 : w27.cell? ⟨gb234, 4, none⟩ = some (.int .i64 ((rd_T31 l0 x21_2).f4)) := (blk_cell BK234.out 4).trans rfl; have hcz28_5 : w27.cell? ⟨gb234, 5, none⟩ = some (.int .i64 ((rd_T31 l0 x21_2).f5)) := (blk_cell BK234.out 5).trans rfl; have hfz28_0 := blk_frozen BK234.out 0; have hfz28_1 := blk_frozen BK234.out 1; have hfz28_2 := blk_frozen BK234.out 2; have hfz28_3 := blk_frozen BK234.out 3; have hfz28_4 := blk_frozen BK234.out 4; have hfz28_5 := blk_frozen BK234.out 5))
            go_roundg k2
            case measure => have := HJ1.out; have := HK2.out; omega
            case rel => exact ⟨(wrap64 (x21_2 + 1)), (by first | rfl | (simp; done) | (simp [*]; done)), H', ⟨by have := HJ1.out; have := HK2.out; omega⟩, ⟨by repeat (first | (with_reducible first | exact HB.out | apply below_alloc | apply pw_below_drewN | apply below_drew1 | refine below_set ?_ GE234.out) | exact HB.out)⟩⟩
          ·replace c15 := Bool.eq_false_iff.mpr c15
           subst c15
           have H1 : (impl_GoodProgram.l0 k2 l0 l0 (l0.length : Int) (wrap64 (x21_2 + 1))) = some r := by rw [if_neg (show ¬ (false = true) by decide)] at H; exact H
           clear H
           have H := H1
           clear H1
           have H' := Aside0.mk H
           clear H
           have p233 : 0 ≤ (x21_2 : Int) := of_decide_eq_true (by assumption)
           have q233 : x21_2 < (l0.length : Int) := of_decide_eq_true (by assumption)
           obtain ⟨ad233, e233, hx233_0, hx233_1, hx233_2, hx233_3, hx233_4, hx233_5⟩ := at_T31 HR0.out x21_2 p233 q233
           cases e233
           (try replace hx233_0 := (HB.out.cell (World.block_lt_of_cell? w _ hx233_0)).trans hx233_0)
           (try replace hx233_1 := (HB.out.cell (World.block_lt_of_cell? w _ hx233_1)).trans hx233_1)
           (try replace hx233_2 := (HB.out.cell (World.block_lt_of_cell? w _ hx233_2)).trans hx233_2)
           (try replace hx233_3 := (HB.out.cell (World.block_lt_of_cell? w _ hx233_3)).trans hx233_3)
           (try replace hx233_4 := (HB.out.cell (World.block_lt_of_cell? w _ hx233_4)).trans hx233_4)
           (try replace hx233_5 := (HB.out.cell (World.block_lt_of_cell? w _ hx233_5)).trans hx233_5)
           replace p233 := eq_true p233
           replace q233 := eq_true q233
           go_wp2_with (first | ((with_reducible refine gate_dst (N := 4) rfl ?_); (try (refine gate_guard (by rfl) ?_; dsimp only)); refine box_event ?hg (N := 4) ?hd (cs := #[.int .i64 0, .int .i64 0, .int .i64 0, .int .i64 0, .int .i64 0, .int .i64 0]) (t := 31) ?hr ?_; (case hd => rfl); (case hg => rfl); (case hr => first | (go_simp; done) | (go_simp; rfl)); intro gb234 hg w29 hbox hb; have n0_ := Aside0.mk (below_step (zb_ HB.out) hb); have n1_ := Aside0.mk (hbox); have n2_ := Aside0.mk ((by rw [hg]; exact (below_size (zb_ HB.out)) : w.heap.size ≤ gb234)); have n3_ := Aside0.mk ((by rw [hg]; exact (below_size (zb_ HB.out)) : w.heap.size ≤ gb234)); clear HB; have HB := n0_; have BK234 := n1_; have GW234 := n2_; have GE234 := n3_; clear n0_ n1_ n2_ n3_; clear hb hbox hg; have hcz30_0 : w29.cell? ⟨gb234, 0, none⟩ = some (.int .i64 0) := (blk_cell BK234.out 0).trans rfl; have hcz30_1 : w29.cell? ⟨gb234, 1, none⟩ = some (.int .i64 0) := (blk_cell BK234.out 1).trans rfl; have hcz30_2 : w29.cell? ⟨gb234, 2, none⟩ = some (.int .i64 0) := (blk_cell BK234.out 2).trans rfl; have hcz30_3 : w29.cell? ⟨gb234, 3, none⟩ = some (.int .i64 0) := (blk_cell BK234.out 3).trans rfl; have hcz30_4 : w29.cell? ⟨gb234, 4, none⟩ = some (.int .i64 0) := (blk_cell BK234.out 4).trans rfl; have hcz30_5 : w29.cell? ⟨gb234, 5, none⟩ = some (.int .i64 0) := (blk_cell BK234.out 5).trans rfl; have hfz30_0 := blk_frozen BK234.out 0; have hfz30_1 := blk_frozen BK234.out 1; have hfz30_2 := blk_frozen BK234.out 2; have hfz30_3 := blk_frozen BK234.out 3; have hfz30_4 := blk_frozen BK234.out 4; have hfz30_5 := blk_frozen BK234.out 5) | ((with_reducible refine gate_callee (f := 23) rfl ?_); refine goesL_ (some 27) rfl rfl Tryd.func23 (by kernel_rfl) rfl #[.agg #[.int .i64 ((rd_T31 l0 x21_2).f0), .int .i64 ((rd_T31 l0 x21_2).f1), .int .i64 ((rd_T31 l0 x21_2).f2), .int .i64 ((rd_T31 l0 x21_2).f3), .int .i64 ((rd_T31 l0 x21_2).f4), .int .i64 ((rd_T31 l0 x21_2).f5)]] rfl (by simp only [zA_, zB_, zD_] <;> rfl) ?_; (with_reducible refine (impl_Step_valid.calls k2 ((rd_T31 l0 x21_2).f0) ((rd_T31 l0 x21_2).f1) ((rd_T31 l0 x21_2).f2) ((rd_T31 l0 x21_2).f3) ((rd_T31 l0 x21_2).f4) ((rd_T31 l0 x21_2).f5) true _ A12.out).mono ?_); rintro e w31 ⟨rfl, hb⟩; refine ⟨_, rfl, ?_⟩; have n0_ := Aside0.mk (blk_below (g := gb234) (o := .cells #[.int .i64 ((rd_T31 l0 x21_2).f0), .int .i64 ((rd_T31 l0 x21_2).f1), .int .i64 ((rd_T31 l0 x21_2).f2), .int .i64 ((rd_T31 l0 x21_2).f3), .int .i64 ((rd_T31 l0 x21_2).f4), .int .i64 ((rd_T31 l0 x21_2).f5)] 31 (0, 0)) (by (with_reducible repeat (first | refine blk_drewN ?_ _ | refine blk_drew ?_ | refine blk_alloc ?_ _)); refine blk_put (cs := #[.int .i64 ((rd_T31 l0 x21_2).f0), .int .i64 ((rd_T31 l0 x21_2).f1), .int .i64 ((rd_T31 l0 x21_2).f2), .int .i64 ((rd_T31 l0 x21_2).f3), .int .i64 ((rd_T31 l0 x21_2).f4), .int .i64 0]) ?_ 5 _ rfl; (with_reducible repeat (first | refine blk_drewN ?_ _ | refine blk_drew ?_ | refine blk_alloc ?_ _)); refine blk_put (cs := #[.int .i64 ((rd_T31 l0 x21_2).f0), .int .i64 ((rd_T31 l0 x21_2).f1), .int .i64 ((rd_T31 l0 x21_2).f2), .int .i64 ((rd_T31 l0 x21_2).f3), .int .i64 0, .int .i64 0]) ?_ 4 _ rfl; (with_reducible repeat (first | refine blk_drewN ?_ _ | refine blk_drew ?_ | refine blk_alloc ?_ _)); refine blk_put (cs := #[.int .i64 ((rd_T31 l0 x21_2).f0), .int .i64 ((rd_T31 l0 x21_2).f1), .int .i64 ((rd_T31 l0 x21_2).f2), .int .i64 0, .int .i64 0, .int .i64 0]) ?_ 3 _ rfl; (with_reducible repeat (first | refine blk_drewN ?_ _ | refine blk_drew ?_ | refine blk_alloc ?_ _)); refine blk_put (cs := #[.int .i64 ((rd_T31 l0 x21_2).f0), .int .i64 ((rd_T31 l0 x21_2).f1), .int .i64 0, .int .i64 0, .int .i64 0, .int .i64 0]) ?_ 2 _ rfl; (with_reducible repeat (first | refine blk_drewN ?_ _ | refine blk_drew ?_ | refine blk_alloc ?_ _)); refine blk_put (cs := #[.int .i64 ((rd_T31 l0 x21_2).f0), .int .i64 0, .int .i64 0, .int .i64 0, .int .i64 0, .int .i64 0]) ?_ 1 _ rfl; (with_reducible repeat (first | refine blk_drewN ?_ _ | refine blk_drew ?_ | refine blk_alloc ?_ _)); refine blk_put (cs := #[.int .i64 0, .int .i64 0, .int .i64 0, .int .i64 0, .int .i64 0, .int .i64 0]) ?_ 0 _ rfl; (with_reducible repeat (first | refine blk_drewN ?_ _ | refine blk_drew ?_ | refine blk_alloc ?_ _)); exact BK234.out) hb); have n1_ := Aside0.mk (below_step (by repeat (first | (with_reducible first | exact HB.out | apply below_alloc | apply pw_below_drewN | apply below_drew1 | refine below_set ?_ GE234.out) | exact HB.out)) hb); clear BK234; clear HB; have BK234 := n0_; have HB := n1_; clear n0_ n1_; (try clear hb); (try clear hb2); (try clear hk); (try clear hi); have hcz32_0 : w31.cell? ⟨gb234, 0, none⟩ = some (.int .i64 ((rd_T31 l0 x21_2).f0)) := (blk_cell BK234.out 0).trans rfl; have hcz32_1 : w31.cell? ⟨gb234, 1, none⟩ = some (.int .i64 ((rd_T31 l0 x21_2).f1)) := (blk_cell BK234.out 1).trans rfl; have hcz32_2 : w31.cell? ⟨gb234, 2, none⟩ = some (.int .i64 ((rd_T31 l0 x21_2).f2)) := (blk_cell BK234.out 2).trans rfl; have hcz32_3 : w31.cell? ⟨gb234, 3, none⟩ = some (.int .i64 ((rd_T31 l0 x21_2).f3)) := (blk_cell BK234.out 3).trans rfl; have hcz32_4 : w31.cell? ⟨gb234, 4, none⟩ = some (.int .i64 ((rd_T31 l0 x21_2).f4)) := (blk_cell BK234.out 4).trans rfl; have hcz32_5 : w31.cell? ⟨gb234, 5, none⟩ = some (.int .i64 ((rd_T31 l0 x21_2).f5)) := (blk_cell BK234.out 5).trans rfl; have hfz32_0 := blk_frozen BK234.out 0; have hfz32_1 := blk_frozen BK234.out 1; have hfz32_2 := blk_frozen BK234.out 2; have hfz32_3 := blk_frozen BK234.out 3; have hfz32_4 := blk_frozen BK234.out 4; have hfz32_5 := blk_frozen BK234.out 5) | (go_at_call 34; (with_reducible refine (impl_Step_jumps.calls ((rd_T31 l0 x21_2).f0) ((rd_T31 l0 x21_2).f1) ((rd_T31 l0 x21_2).f2) ((rd_T31 l0 x21_2).f3) ((rd_T31 l0 x21_2).f4) ((rd_T31 l0 x21_2).f5) false _ A14.out).mono ?_); rintro e w33 ⟨rfl, hb⟩; have n0_ := Aside0.mk (blk_below (g := gb234) (o := .cells #[.int .i64 ((rd_T31 l0 x21_2).f0), .int .i64 ((rd_T31 l0 x21_2).f1), .int .i64 ((rd_T31 l0 x21_2).f2), .int .i64 ((rd_T31 l0 x21_2).f3), .int .i64 ((rd_T31 l0 x21_2).f4), .int .i64 ((rd_T31 l0 x21_2).f5)] 31 (0, 0)) (by (with_reducible repeat (first | refine blk_drewN ?_ _ | refine blk_drew ?_ | refine blk_alloc ?_ _)); exact BK234.out) hb); have n1_ := Aside0.mk (below_step (by repeat (first | (with_reducible first | exact HB.out | apply below_alloc | apply pw_below_drewN | apply below_drew1 | refine below_set ?_ GE234.out) | exact HB.out)) hb); clear BK234; clear HB; have BK234 := n0_; have HB := n1_; clear n0_ n1_; (try clear hb); (try clear hb2); (try clear hk); (try clear hi)))
           go_roundg k2
           case measure => have := HJ1.out; have := HK2.out; omega
           case rel => exact ⟨(wrap64 (x21_2 + 1)), (by first | rfl | (simp; done) | (simp [*]; done)), H', ⟨by have := HJ1.out; have := HK2.out; omega⟩, ⟨by repeat (first | (with_reducible first | exact HB.out | apply below_alloc | apply pw_below_drewN | apply below_drew1 | refine below_set ?_ GE234.out) | exact HB.out)⟩⟩
         ·replace c13 := Bool.eq_false_iff.mpr c13
          subst c13
          have H1 : (some false) = some r := by rw [if_neg (show ¬ (false = true) by decide)] at H; exact H
          clear H
          have H := H1
          clear H1
          obtain rfl := Option.some.inj H
          have p233 : 0 ≤ (x21_2 : Int) := of_decide_eq_true (by assumption)
          have q233 : x21_2 < (l0.length : Int) := of_decide_eq_true (by assumption)
          obtain ⟨ad233, e233, hx233_0, hx233_1, hx233_2, hx233_3, hx233_4, hx233_5⟩ := at_T31 HR0.out x21_2 p233 q233
          cases e233
          (try replace hx233_0 := (HB.out.cell (World.block_lt_of_cell? w _ hx233_0)).trans hx233_0)
          (try replace hx233_1 := (HB.out.cell (World.block_lt_of_cell? w _ hx233_1)).trans hx233_1)
          (try replace hx233_2 := (HB.out.cell (World.block_lt_of_cell? w _ hx233_2)).trans hx233_2)
          (try replace hx233_3 := (HB.out.cell (World.block_lt_of_cell? w _ hx233_3)).trans hx233_3)
          (try replace hx233_4 := (HB.out.cell (World.block_lt_of_cell? w _ hx233_4)).trans hx233_4)
          (try replace hx233_5 := (HB.out.cell (World.block_lt_of_cell? w _ hx233_5)).trans hx233_5)
          replace p233 := eq_true p233
          replace q233 := eq_true q233
          go_wp2_with (first | ((with_reducible refine gate_dst (N := 4) rfl ?_); (try (refine gate_guard (by rfl) ?_; dsimp only)); refine box_event ?hg (N := 4) ?hd (cs := #[.int .i64 0, .int .i64 0, .int .i64 0, .int .i64 0, .int .i64 0, .int .i64 0]) (t := 31) ?hr ?_; (case hd => rfl); (case hg => rfl); (case hr => first | (go_simp; done) | (go_simp; rfl)); intro gb234 hg w34 hbox hb; have n0_ := Aside0.mk (below_step (zb_ HB.out) hb); have n1_ := Aside0.mk (hbox); have n2_ := Aside0.mk ((by rw [hg]; exact (below_size (zb_ HB.out)) : w.heap.size ≤ gb234)); have n3_ := Aside0.mk ((by rw [hg]; exact (below_size (zb_ HB.out)) : w.heap.size ≤ gb234)); clear HB; have HB := n0_; have BK234 := n1_; have GW234 := n2_; have GE234 := n3_; clear n0_ n1_ n2_ n3_; clear hb hbox hg; have hcz35_0 : w34.cell? ⟨gb234, 0, none⟩ = some (.int .i64 0) := (blk_cell BK234.out 0).trans rfl; have hcz35_1 : w34.cell? ⟨gb234, 1, none⟩ = some (.int .i64 0) := (blk_cell BK234.out 1).trans rfl; have hcz35_2 : w34.cell? ⟨gb234, 2, none⟩ = some (.int .i64 0) := (blk_cell BK234.out 2).trans rfl; have hcz35_3 : w34.cell? ⟨gb234, 3, none⟩ = some (.int .i64 0) := (blk_cell BK234.out 3).trans rfl; have hcz35_4 : w34.cell? ⟨gb234, 4, none⟩ = some (.int .i64 0) := (blk_cell BK234.out 4).trans rfl; have hcz35_5 : w34.cell? ⟨gb234, 5, none⟩ = some (.int .i64 0) := (blk_cell BK234.out 5).trans rfl; have hfz35_0 := blk_frozen BK234.out 0; have hfz35_1 := blk_frozen BK234.out 1; have hfz35_2 := blk_frozen BK234.out 2; have hfz35_3 := blk_frozen BK234.out 3; have hfz35_4 := blk_frozen BK234.out 4; have hfz35_5 := blk_frozen BK234.out 5) | ((with_reducible refine gate_callee (f := 23) rfl ?_); refine goesL_ (some 27) rfl rfl Tryd.func23 (by kernel_rfl) rfl #[.agg #[.int .i64 ((rd_T31 l0 x21_2).f0), .int .i64 ((rd_T31 l0 x21_2).f1), .int .i64 ((rd_T31 l0 x21_2).f2), .int .i64 ((rd_T31 l0 x21_2).f3), .int .i64 ((rd_T31 l0 x21_2).f4), .int .i64 ((rd_T31 l0 x21_2).f5)]] rfl (by simp only [zA_, zB_, zD_] <;> rfl) ?_; (with_reducible refine (impl_Step_valid.calls k2 ((rd_T31 l0 x21_2).f0) ((rd_T31 l0 x21_2).f1) ((rd_T31 l0 x21_2).f2) ((rd_T31 l0 x21_2).f3) ((rd_T31 l0 x21_2).f4) ((rd_T31 l0 x21_2).f5) false _ A12.out).mono ?_); rintro e w36 ⟨rfl, hb⟩; refine ⟨_, rfl, ?_⟩; have n0_ := Aside0.mk (blk_below (g := gb234) (o := .cells #[.int .i64 ((rd_T31 l0 x21_2).f0), .int .i64 ((rd_T31 l0 x21_2).f1), .int .i64 ((rd_T31 l0 x21_2).f2), .int .i64 ((rd_T31 l0 x21_2).f3), .int .i64 ((rd_T31 l0 x21_2).f4), .int .i64 ((rd_T31 l0 x21_2).f5)] 31 (0, 0)) (by (with_reducible repeat (first | refine blk_drewN ?_ _ | refine blk_drew ?_ | refine blk_alloc ?_ _)); refine blk_put (cs := #[.int .i64 ((rd_T31 l0 x21_2).f0), .int .i64 ((rd_T31 l0 x21_2).f1), .int .i64 ((rd_T31 l0 x21_2).f2), .int .i64 ((rd_T31 l0 x21_2).f3), .int .i64 ((rd_T31 l0 x21_2).f4), .int .i64 0]) ?_ 5 _ rfl; (with_reducible repeat (first | refine blk_drewN ?_ _ | refine blk_drew ?_ | refine blk_alloc ?_ _)); refine blk_put (cs := #[.int .i64 ((rd_T31 l0 x21_2).f0), .int .i64 ((rd_T31 l0 x21_2).f1), .int .i64 ((rd_T31 l0 x21_2).f2), .int .i64 ((rd_T31 l0 x21_2).f3), .int .i64 0, .int .i64 0]) ?_ 4 _ rfl; (with_reducible repeat (first | refine blk_drewN ?_ _ | refine blk_drew ?_ | refine blk_alloc ?_ _)); refine blk_put (cs := #[.int .i64 ((rd_T31 l0 x21_2).f0), .int .i64 ((rd_T31 l0 x21_2).f1), .int .i64 ((rd_T31 l0 x21_2).f2), .int .i64 0, .int .i64 0, .int .i64 0]) ?_ 3 _ rfl; (with_reducible repeat (first | refine blk_drewN ?_ _ | refine blk_drew ?_ | refine blk_alloc ?_ _)); refine blk_put (cs := #[.int .i64 ((rd_T31 l0 x21_2).f0), .int .i64 ((rd_T31 l0 x21_2).f1), .int .i64 0, .int .i64 0, .int .i64 0, .int .i64 0]) ?_ 2 _ rfl; (with_reducible repeat (first | refine blk_drewN ?_ _ | refine blk_drew ?_ | refine blk_alloc ?_ _)); refine blk_put (cs := #[.int .i64 ((rd_T31 l0 x21_2).f0), .int .i64 0, .int .i64 0, .int .i64 0, .int .i64 0, .int .i64 0]) ?_ 1 _ rfl; (with_reducible repeat (first | refine blk_drewN ?_ _ | refine blk_drew ?_ | refine blk_alloc ?_ _)); refine blk_put (cs := #[.int .i64 0, .int .i64 0, .int .i64 0, .int .i64 0, .int .i64 0, .int .i64 0]) ?_ 0 _ rfl; (with_reducible repeat (first | refine blk_drewN ?_ _ | refine blk_drew ?_ | refine blk_alloc ?_ _)); exact BK234.out) hb); have n1_ := Aside0.mk (below_step (by repeat (first | (with_reducible first | exact HB.out | apply below_alloc | apply pw_below_drewN | apply below_drew1 | refine below_set ?_ GE234.out) | exact HB.out)) hb); clear BK234; clear HB; have BK234 := n0_; have HB := n1_; clear n0_ n1_; (try clear hb); (try clear hb2); (try clear hk); (try clear hi)))
          go_ret
          exact ⟨by first | rfl | (simp [errW_none, errW_some] <;> rfl) | (simp [*, errW_none, errW_some] <;> rfl), by repeat (first | (with_reducible first | exact HB.out | apply below_alloc | apply pw_below_drewN | apply below_drew1 | refine below_set ?_ GE234.out) | exact HB.out)⟩
        ·rw [if_neg c11] at H
         exact absurd H (by simp)
       ·rw [if_neg c10] at H
        exact absurd H (by simp)
      ·rw [if_neg c9] at H
       have c9b0 : decide (x21_2 < (l0.length : Int)) = false := decide_eq_false c9
       clear c9
       obtain rfl := Option.some.inj H
       go_wp2
       go_ret
       exact ⟨by first | rfl | (simp [errW_none, errW_some] <;> rfl) | (simp [*, errW_none, errW_some] <;> rfl), zb_ HB.out⟩
def impl_nexts.f (l0 : List (S31)) (a1 : Int) : Option (List Int) := if 0 ≤ a1 then (if a1 < (l0.length : Int) then (if ((rd_T31 l0 a1).f0) = 11 then (some ([] : List Int)) else (if ((rd_T31 l0 a1).f0) = 8 then (some (([wrap64 ((wrap64 (a1 + ((rd_T31 l0 a1).f5))) + 1)] : List Int))) else (if ((rd_T31 l0 a1).f0) = 9 then (some (([wrap64 (a1 + 1), wrap64 ((wrap64 (a1 + ((rd_T31 l0 a1).f5))) + 1)] : List Int))) else (if ((rd_T31 l0 a1).f0) = 10 then (some (([wrap64 (a1 + 1), wrap64 ((wrap64 (a1 + ((rd_T31 l0 a1).f5))) + 1)] : List Int))) else (some (([wrap64 (a1 + 1)] : List Int))))))) else (none)) else (none)
set_option maxHeartbeats 8000000 in
set_option maxRecDepth 100000 in
theorem impl_nexts.calls (A0 : Option Addr) (c0 : Nat) (l0 : List (S31)) (a1 : Int) (r : List Int) (w : World) (hr0 : Kd.C k31 w A0 l0.length l0) (hc0 : l0.length ≤ c0) (h : impl_nexts.f l0 a1 = some r) :
  Calls Tryd.prog 20 #[.slice A0 l0.length c0, .int .i64 a1] w fun e w' => ∃ v0_ : Value, e = .returned (v0_) ∧ Kd.R (Kd.int .i64) 3 w' w.heap.size (fun _ => True) v0_ r ∧ Below w.heap.size w w' := by
 have hu31 := Tryd.underlying31
 have HR0 := Aside0.mk hr0
 have HC0 := Aside0.mk hc0
 clear hr0 hc0
 have HB := Aside0.mk (Below.refl w.heap.size w)
 have H : (if 0 ≤ a1 then (if a1 < (l0.length : Int) then (if ((rd_T31 l0 a1).f0) = 11 then (some ([] : List Int)) else (if ((rd_T31 l0 a1).f0) = 8 then (some (([wrap64 ((wrap64 (a1 + ((rd_T31 l0 a1).f5))) + 1)] : List Int))) else (if ((rd_T31 l0 a1).f0) = 9 then (some (([wrap64 (a1 + 1), wrap64 ((wrap64 (a1 + ((rd_T31 l0 a1).f5))) + 1)] : List Int))) else (if ((rd_T31 l0 a1).f0) = 10 then (some (([wrap64 (a1 + 1), wrap64 ((wrap64 (a1 + ((rd_T31 l0 a1).f5))) + 1)] : List Int))) else (some (([wrap64 (a1 + 1)] : List Int))))))) else (none)) else (none)) = some r := h
 clear h
 by_cases c3 : 0 ≤ a1
 ·rw [if_pos c3] at H
  have c3b0 : decide (0 ≤ a1) = true := decide_eq_true c3
  clear c3
  by_cases c4 : a1 < (l0.length : Int)
  ·rw [if_pos c4] at H
   have c4b0 : decide (a1 < (l0.length : Int)) = true := decide_eq_true c4
   clear c4
   by_cases c5 : ((rd_T31 l0 a1).f0) = 11
   ·rw [if_pos c5] at H
    have c5b0 : (((rd_T31 l0 a1).f0) == 11) = true := beq_iff_eq.mpr c5
    have c5b1 : (((rd_T31 l0 a1).f0) != 11) = false := bne_eq_false_iff_eq.mpr c5
    clear c5
    obtain rfl := Option.some.inj H
    have p237 : 0 ≤ (a1 : Int) := of_decide_eq_true (by assumption)
    have q237 : a1 < (l0.length : Int) := of_decide_eq_true (by assumption)
    obtain ⟨ad237, e237, hx237_0, hx237_1, hx237_2, hx237_3, hx237_4, hx237_5⟩ := at_T31 HR0.out a1 p237 q237
    cases e237
    replace p237 := eq_true p237
    replace q237 := eq_true q237
    go_enter Tryd.func20, Tryd.ntmps20
    go_wp2_with (first | ((with_reducible refine gate_dst (N := 5) rfl ?_); refine box_event ?hg (N := 5) ?hd (cs := #[.int .i64 0, .int .i64 0, .int .i64 0, .int .i64 0, .int .i64 0, .int .i64 0]) (t := 31) ?hr ?_; (case hd => rfl); (case hg => rfl); (case hr => first | (go_simp; done) | (go_simp; rfl)); intro gb238 hg w6 hbox hb; have n0_ := Aside0.mk (below_step (zb_ HB.out) hb); have n1_ := Aside0.mk (hbox); have n2_ := Aside0.mk ((by rw [hg]; exact (below_size (zb_ HB.out)) : w.heap.size ≤ gb238)); have n3_ := Aside0.mk ((by rw [hg]; exact (below_size (zb_ HB.out)) : w.heap.size ≤ gb238)); clear HB; have HB := n0_; have BK238 := n1_; have GW238 := n2_; have GE238 := n3_; clear n0_ n1_ n2_ n3_; clear hb hbox hg; have hcz7_0 : w6.cell? ⟨gb238, 0, none⟩ = some (.int .i64 0) := (blk_cell BK238.out 0).trans rfl; have hcz7_1 : w6.cell? ⟨gb238, 1, none⟩ = some (.int .i64 0) := (blk_cell BK238.out 1).trans rfl; have hcz7_2 : w6.cell? ⟨gb238, 2, none⟩ = some (.int .i64 0) := (blk_cell BK238.out 2).trans rfl; have hcz7_3 : w6.cell? ⟨gb238, 3, none⟩ = some (.int .i64 0) := (blk_cell BK238.out 3).trans rfl; have hcz7_4 : w6.cell? ⟨gb238, 4, none⟩ = some (.int .i64 0) := (blk_cell BK238.out 4).trans rfl; have hcz7_5 : w6.cell? ⟨gb238, 5, none⟩ = some (.int .i64 0) := (blk_cell BK238.out 5).trans rfl; have hfz7_0 := blk_frozen BK238.out 0; have hfz7_1 := blk_frozen BK238.out 1; have hfz7_2 := blk_frozen BK238.out 2; have hfz7_3 := blk_frozen BK238.out 3; have hfz7_4 := blk_frozen BK238.out 4; have hfz7_5 := blk_frozen BK238.out 5))
    go_ret
    exact ⟨_, by first | rfl | (simp [errW_none, errW_some] <;> rfl) | (simp [*, errW_none, errW_some] <;> rfl), by first | exact Kd.R_nil _ _ _ _ _ | exact Kd.N_nil _ _ _ _ _ | exact Kd.V_nil _ _ _ _ _ | exact Kd.Q_nil _ _ _ _ _ | exact Kd.S_nil _ _ _ _ _, by repeat (first | (with_reducible first | exact HB.out | apply below_alloc | apply pw_below_drewN | apply below_drew1 | refine below_set ?_ GE238.out) | exact HB.out)⟩
   ·rw [if_neg c5] at H
    have c5b0 : (((rd_T31 l0 a1).f0) == 11) = false := beq_eq_false_iff_ne.mpr c5
    have c5b1 : (((rd_T31 l0 a1).f0) != 11) = true := bne_iff_ne.mpr c5
    by_cases c8 : ((rd_T31 l0 a1).f0) = 8
    ·rw [if_pos c8] at H
     have c8b0 : (((rd_T31 l0 a1).f0) == 8) = true := beq_iff_eq.mpr c8
     have c8b1 : (((rd_T31 l0 a1).f0) != 8) = false := bne_eq_false_iff_eq.mpr c8
     clear c8
     obtain ⟨y239, hy239⟩ : ∃ y_ : List Int, y_ = (([wrap64 ((wrap64 (a1 + ((rd_T31 l0 a1).f5))) + 1)] : List Int)) := ⟨_, rfl⟩
     replace H : (some y239) = some r := by first | (rw [hy239]; with_reducible exact H) | (have H2_ := (Option.bind_some _ _).symm.trans H; rw [hy239]; with_reducible exact H2_) | (have H2_ := (Option.bind_some _ _).symm.trans H; with_reducible exact H2_) | with_reducible exact H | (rw [hy239]; exact H) | exact H
     have Ny239 := Aside0.mk hy239
     clear hy239
     obtain rfl := Option.some.inj H
     have p237 : 0 ≤ (a1 : Int) := of_decide_eq_true (by assumption)
     have q237 : a1 < (l0.length : Int) := of_decide_eq_true (by assumption)
     obtain ⟨ad237, e237, hx237_0, hx237_1, hx237_2, hx237_3, hx237_4, hx237_5⟩ := at_T31 HR0.out a1 p237 q237
     cases e237
     replace p237 := eq_true p237
     replace q237 := eq_true q237
     go_enter Tryd.func20, Tryd.ntmps20
     go_wp2_with (first | ((with_reducible refine gate_dst (N := 5) rfl ?_); refine box_event ?hg (N := 5) ?hd (cs := #[.int .i64 0, .int .i64 0, .int .i64 0, .int .i64 0, .int .i64 0, .int .i64 0]) (t := 31) ?hr ?_; (case hd => rfl); (case hg => rfl); (case hr => first | (go_simp; done) | (go_simp; rfl)); intro gb238 hg w9 hbox hb; have n0_ := Aside0.mk (below_step (zb_ HB.out) hb); have n1_ := Aside0.mk (hbox); have n2_ := Aside0.mk ((by rw [hg]; exact (below_size (zb_ HB.out)) : w.heap.size ≤ gb238)); have n3_ := Aside0.mk ((by rw [hg]; exact (below_size (zb_ HB.out)) : w.heap.size ≤ gb238)); clear HB; have HB := n0_; have BK238 := n1_; have GW238 := n2_; have GE238 := n3_; clear n0_ n1_ n2_ n3_; clear hb hbox hg; have hcz10_0 : w9.cell? ⟨gb238, 0, none⟩ = some (.int .i64 0) := (blk_cell BK238.out 0).trans rfl; have hcz10_1 : w9.cell? ⟨gb238, 1, none⟩ = some (.int .i64 0) := (blk_cell BK238.out 1).trans rfl; have hcz10_2 : w9.cell? ⟨gb238, 2, none⟩ = some (.int .i64 0) := (blk_cell BK238.out 2).trans rfl; have hcz10_3 : w9.cell? ⟨gb238, 3, none⟩ = some (.int .i64 0) := (blk_cell BK238.out 3).trans rfl; have hcz10_4 : w9.cell? ⟨gb238, 4, none⟩ = some (.int .i64 0) := (blk_cell BK238.out 4).trans rfl; have hcz10_5 : w9.cell? ⟨gb238, 5, none⟩ = some (.int .i64 0) := (blk_cell BK238.out 5).trans rfl; have hfz10_0 := blk_frozen BK238.out 0; have hfz10_1 := blk_frozen BK238.out 1; have hfz10_2 := blk_frozen BK238.out 2; have hfz10_3 := blk_frozen BK238.out 3; have hfz10_4 := blk_frozen BK238.out 4; have hfz10_5 := blk_frozen BK238.out 5) | ((with_reducible refine gate_dst (N := 21) rfl ?_); refine Kd.R_lit (Kd.int .i64) _ 3 ?hg (N := 21) ?hd (xs := ([wrap64 ((wrap64 (a1 + ((rd_T31 l0 a1).f5))) + 1)] : List Int)) (inner := [.int .i64 (wrap64 ((wrap64 (a1 + ((rd_T31 l0 a1).f5))) + 1))]) (ok := fun _ => True) (okp := fun _ => True) ?hr ?hp (fun _ hk => hk) trivial (Below.refl _ _) (Nat.le_refl _) (by simp) ?_; (case hd => rfl); (case hg => rfl); (case hr => first | (go_simp; done) | (go_simp; rfl)); (case hp => exact (Reps.one (show Kd.M (Kd.int .i64) _ _ _ (wrap64 ((wrap64 (a1 + ((rd_T31 l0 a1).f5))) + 1)) [.int .i64 (wrap64 ((wrap64 (a1 + ((rd_T31 l0 a1).f5))) + 1))] from rfl) (Reps.none _ _))); intro v240 w11 ho12 hb hg_ hnew_; clear hg_ hnew_; (first | rw [← Ny239.out] at ho12 | (simp only [Int.reduceToNat] at ho12; rw [← Ny239.out] at ho12)); have n0_ := Aside0.mk (Kd.R_lower ho12 (below_size (by repeat (first | (with_reducible first | exact HB.out | apply below_alloc | apply pw_below_drewN | apply below_drew1 | refine below_set ?_ GE238.out) | exact HB.out)))); have n1_ := Aside0.mk (blk_below (g := gb238) (o := .cells #[.int .i64 ((rd_T31 l0 a1).f0), .int .i64 ((rd_T31 l0 a1).f1), .int .i64 ((rd_T31 l0 a1).f2), .int .i64 ((rd_T31 l0 a1).f3), .int .i64 ((rd_T31 l0 a1).f4), .int .i64 ((rd_T31 l0 a1).f5)] 31 (0, 0)) (by (with_reducible repeat (first | refine blk_drewN ?_ _ | refine blk_drew ?_ | refine blk_alloc ?_ _)); refine blk_put (cs := #[.int .i64 ((rd_T31 l0 a1).f0), .int .i64 ((rd_T31 l0 a1).f1), .int .i64 ((rd_T31 l0 a1).f2), .int .i64 ((rd_T31 l0 a1).f3), .int .i64 ((rd_T31 l0 a1).f4), .int .i64 0]) ?_ 5 _ rfl; (with_reducible repeat (first | refine blk_drewN ?_ _ | refine blk_drew ?_ | refine blk_alloc ?_ _)); refine blk_put (cs := #[.int .i64 ((rd_T31 l0 a1).f0), .int .i64 ((rd_T31 l0 a1).f1), .int .i64 ((rd_T31 l0 a1).f2), .int .i64 ((rd_T31 l0 a1).f3), .int .i64 0, .int .i64 0]) ?_ 4 _ rfl; (with_reducible repeat (first | refine blk_drewN ?_ _ | refine blk_drew ?_ | refine blk_alloc ?_ _)); refine blk_put (cs := #[.int .i64 ((rd_T31 l0 a1).f0), .int .i64 ((rd_T31 l0 a1).f1), .int .i64 ((rd_T31 l0 a1).f2), .int .i64 0, .int .i64 0, .int .i64 0]) ?_ 3 _ rfl; (with_reducible repeat (first | refine blk_drewN ?_ _ | refine blk_drew ?_ | refine blk_alloc ?_ _)); refine blk_put (cs := #[.int .i64 ((rd_T31 l0 a1).f0), .int .i64 ((rd_T31 l0 a1).f1), .int .i64 0, .int .i64 0, .int .i64 0, .int .i64 0]) ?_ 2 _ rfl; (with_reducible repeat (first | refine blk_drewN ?_ _ | refine blk_drew ?_ | refine blk_alloc ?_ _)); refine blk_put (cs := #[.int .i64 ((rd_T31 l0 a1).f0), .int .i64 0, .int .i64 0, .int .i64 0, .int .i64 0, .int .i64 0]) ?_ 1 _ rfl; (with_reducible repeat (first | refine blk_drewN ?_ _ | refine blk_drew ?_ | refine blk_alloc ?_ _)); refine blk_put (cs := #[.int .i64 0, .int .i64 0, .int .i64 0, .int .i64 0, .int .i64 0, .int .i64 0]) ?_ 0 _ rfl; (with_reducible repeat (first | refine blk_drewN ?_ _ | refine blk_drew ?_ | refine blk_alloc ?_ _)); exact BK238.out) hb); have n2_ := Aside0.mk (below_step (by repeat (first | (with_reducible first | exact HB.out | apply below_alloc | apply pw_below_drewN | apply below_drew1 | refine below_set ?_ GE238.out) | exact HB.out)) hb); clear BK238; clear HB; have HO241 := n0_; have BK238 := n1_; have HB := n2_; clear n0_ n1_ n2_; clear hb ho12))
     go_ret
     exact ⟨_, by first | rfl | (simp [errW_none, errW_some] <;> rfl) | (simp [*, errW_none, errW_some] <;> rfl), zR_ HO241.out, by repeat (first | (with_reducible first | exact HB.out | apply below_alloc | apply pw_below_drewN | apply below_drew1 | refine below_set ?_ GE238.out) | exact HB.out)⟩
    ·rw [if_neg c8] at H
     have c8b0 : (((rd_T31 l0 a1).f0) == 8) = false := beq_eq_false_iff_ne.mpr c8
     have c8b1 : (((rd_T31 l0 a1).f0) != 8) = true := bne_iff_ne.mpr c8
     by_cases c13 : ((rd_T31 l0 a1).f0) = 9
     ·rw [if_pos c13] at H
      have c13b0 : (((rd_T31 l0 a1).f0) == 9) = true := beq_iff_eq.mpr c13
      have c13b1 : (((rd_T31 l0 a1).f0) != 9) = false := bne_eq_false_iff_eq.mpr c13
      clear c13
      obtain ⟨y242, hy242⟩ : ∃ y_ : List Int, y_ = (([wrap64 (a1 + 1), wrap64 ((wrap64 (a1 + ((rd_T31 l0 a1).f5))) + 1)] : List Int)) := ⟨_, rfl⟩
      replace H : (some y242) = some r := by first | (rw [hy242]; with_reducible exact H) | (have H2_ := (Option.bind_some _ _).symm.trans H; rw [hy242]; with_reducible exact H2_) | (have H2_ := (Option.bind_some _ _).symm.trans H; with_reducible exact H2_) | with_reducible exact H | (rw [hy242]; exact H) | exact H
      have Ny242 := Aside0.mk hy242
      clear hy242
      obtain rfl := Option.some.inj H
      have p237 : 0 ≤ (a1 : Int) := of_decide_eq_true (by assumption)
      have q237 : a1 < (l0.length : Int) := of_decide_eq_true (by assumption)
      obtain ⟨ad237, e237, hx237_0, hx237_1, hx237_2, hx237_3, hx237_4, hx237_5⟩ := at_T31 HR0.out a1 p237 q237
      cases e237
      replace p237 := eq_true p237
      replace q237 := eq_true q237
      go_enter Tryd.func20, Tryd.ntmps20
      go_wp2_with (first | ((with_reducible refine gate_dst (N := 5) rfl ?_); refine box_event ?hg (N := 5) ?hd (cs := #[.int .i64 0, .int .i64 0, .int .i64 0, .int .i64 0, .int .i64 0, .int .i64 0]) (t := 31) ?hr ?_; (case hd => rfl); (case hg => rfl); (case hr => first | (go_simp; done) | (go_simp; rfl)); intro gb238 hg w14 hbox hb; have n0_ := Aside0.mk (below_step (zb_ HB.out) hb); have n1_ := Aside0.mk (hbox); have n2_ := Aside0.mk ((by rw [hg]; exact (below_size (zb_ HB.out)) : w.heap.size ≤ gb238)); have n3_ := Aside0.mk ((by rw [hg]; exact (below_size (zb_ HB.out)) : w.heap.size ≤ gb238)); clear HB; have HB := n0_; have BK238 := n1_; have GW238 := n2_; have GE238 := n3_; clear n0_ n1_ n2_ n3_; clear hb hbox hg; have hcz15_0 : w14.cell? ⟨gb238, 0, none⟩ = some (.int .i64 0) := (blk_cell BK238.out 0).trans rfl; have hcz15_1 : w14.cell? ⟨gb238, 1, none⟩ = some (.int .i64 0) := (blk_cell BK238.out 1).trans rfl; have hcz15_2 : w14.cell? ⟨gb238, 2, none⟩ = some (.int .i64 0) := (blk_cell BK238.out 2).trans rfl; have hcz15_3 : w14.cell? ⟨gb238, 3, none⟩ = some (.int .i64 0) := (blk_cell BK238.out 3).trans rfl; have hcz15_4 : w14.cell? ⟨gb238, 4, none⟩ = some (.int .i64 0) := (blk_cell BK238.out 4).trans rfl; have hcz15_5 : w14.cell? ⟨gb238, 5, none⟩ = some (.int .i64 0) := (blk_cell BK238.out 5).trans rfl; have hfz15_0 := blk_frozen BK238.out 0; have hfz15_1 := blk_frozen BK238.out 1; have hfz15_2 := blk_frozen BK238.out 2; have hfz15_3 := blk_frozen BK238.out 3; have hfz15_4 := blk_frozen BK238.out 4; have hfz15_5 := blk_frozen BK238.out 5) | ((with_reducible refine gate_dst (N := 32) rfl ?_); refine Kd.R_lit (Kd.int .i64) _ 3 ?hg (N := 32) ?hd (xs := ([wrap64 (a1 + 1), wrap64 ((wrap64 (a1 + ((rd_T31 l0 a1).f5))) + 1)] : List Int)) (inner := [.int .i64 (wrap64 (a1 + 1)), .int .i64 (wrap64 ((wrap64 (a1 + ((rd_T31 l0 a1).f5))) + 1))]) (ok := fun _ => True) (okp := fun _ => True) ?hr ?hp (fun _ hk => hk) trivial (Below.refl _ _) (Nat.le_refl _) (by simp) ?_; (case hd => rfl); (case hg => rfl); (case hr => first | (go_simp; done) | (go_simp; rfl)); (case hp => exact (Reps.one (show Kd.M (Kd.int .i64) _ _ _ (wrap64 (a1 + 1)) [.int .i64 (wrap64 (a1 + 1))] from rfl) (Reps.one (show Kd.M (Kd.int .i64) _ _ _ (wrap64 ((wrap64 (a1 + ((rd_T31 l0 a1).f5))) + 1)) [.int .i64 (wrap64 ((wrap64 (a1 + ((rd_T31 l0 a1).f5))) + 1))] from rfl) (Reps.none _ _)))); intro v243 w16 ho17 hb hg_ hnew_; clear hg_ hnew_; (first | rw [← Ny242.out] at ho17 | (simp only [Int.reduceToNat] at ho17; rw [← Ny242.out] at ho17)); have n0_ := Aside0.mk (Kd.R_lower ho17 (below_size (by repeat (first | (with_reducible first | exact HB.out | apply below_alloc | apply pw_below_drewN | apply below_drew1 | refine below_set ?_ GE238.out) | exact HB.out)))); have n1_ := Aside0.mk (blk_below (g := gb238) (o := .cells #[.int .i64 ((rd_T31 l0 a1).f0), .int .i64 ((rd_T31 l0 a1).f1), .int .i64 ((rd_T31 l0 a1).f2), .int .i64 ((rd_T31 l0 a1).f3), .int .i64 ((rd_T31 l0 a1).f4), .int .i64 ((rd_T31 l0 a1).f5)] 31 (0, 0)) (by (with_reducible repeat (first | refine blk_drewN ?_ _ | refine blk_drew ?_ | refine blk_alloc ?_ _)); refine blk_put (cs := #[.int .i64 ((rd_T31 l0 a1).f0), .int .i64 ((rd_T31 l0 a1).f1), .int .i64 ((rd_T31 l0 a1).f2), .int .i64 ((rd_T31 l0 a1).f3), .int .i64 ((rd_T31 l0 a1).f4), .int .i64 0]) ?_ 5 _ rfl; (with_reducible repeat (first | refine blk_drewN ?_ _ | refine blk_drew ?_ | refine blk_alloc ?_ _)); refine blk_put (cs := #[.int .i64 ((rd_T31 l0 a1).f0), .int .i64 ((rd_T31 l0 a1).f1), .int .i64 ((rd_T31 l0 a1).f2), .int .i64 ((rd_T31 l0 a1).f3), .int .i64 0, .int .i64 0]) ?_ 4 _ rfl; (with_reducible repeat (first | refine blk_drewN ?_ _ | refine blk_drew ?_ | refine blk_alloc ?_ _)); refine blk_put (cs := #[.int .i64 ((rd_T31 l0 a1).f0), .int .i64 ((rd_T31 l0 a1).f1), .int .i64 ((rd_T31 l0 a1).f2), .int .i64 0, .int .i64 0, .int .i64 0]) ?_ 3 _ rfl; (with_reducible repeat (first | refine blk_drewN ?_ _ | refine blk_drew ?_ | refine blk_alloc ?_ _)); refine blk_put (cs := #[.int .i64 ((rd_T31 l0 a1).f0), .int .i64 ((rd_T31 l0 a1).f1), .int .i64 0, .int .i64 0, .int .i64 0, .int .i64 0]) ?_ 2 _ rfl; (with_reducible repeat (first | refine blk_drewN ?_ _ | refine blk_drew ?_ | refine blk_alloc ?_ _)); refine blk_put (cs := #[.int .i64 ((rd_T31 l0 a1).f0), .int .i64 0, .int .i64 0, .int .i64 0, .int .i64 0, .int .i64 0]) ?_ 1 _ rfl; (with_reducible repeat (first | refine blk_drewN ?_ _ | refine blk_drew ?_ | refine blk_alloc ?_ _)); refine blk_put (cs := #[.int .i64 0, .int .i64 0, .int .i64 0, .int .i64 0, .int .i64 0, .int .i64 0]) ?_ 0 _ rfl; (with_reducible repeat (first | refine blk_drewN ?_ _ | refine blk_drew ?_ | refine blk_alloc ?_ _)); exact BK238.out) hb); have n2_ := Aside0.mk (below_step (by repeat (first | (with_reducible first | exact HB.out | apply below_alloc | apply pw_below_drewN | apply below_drew1 | refine below_set ?_ GE238.out) | exact HB.out)) hb); clear BK238; clear HB; have HO244 := n0_; have BK238 := n1_; have HB := n2_; clear n0_ n1_ n2_; clear hb ho17))
      go_ret
      exact ⟨_, by first | rfl | (simp [errW_none, errW_some] <;> rfl) | (simp [*, errW_none, errW_some] <;> rfl), zR_ HO244.out, by repeat (first | (with_reducible first | exact HB.out | apply below_alloc | apply pw_below_drewN | apply below_drew1 | refine below_set ?_ GE238.out) | exact HB.out)⟩
     ·rw [if_neg c13] at H
      have c13b0 : (((rd_T31 l0 a1).f0) == 9) = false := beq_eq_false_iff_ne.mpr c13
      have c13b1 : (((rd_T31 l0 a1).f0) != 9) = true := bne_iff_ne.mpr c13
      by_cases c18 : ((rd_T31 l0 a1).f0) = 10
      ·rw [if_pos c18] at H
       have c18b0 : (((rd_T31 l0 a1).f0) == 10) = true := beq_iff_eq.mpr c18
       have c18b1 : (((rd_T31 l0 a1).f0) != 10) = false := bne_eq_false_iff_eq.mpr c18
       clear c18
       obtain ⟨y245, hy245⟩ : ∃ y_ : List Int, y_ = (([wrap64 (a1 + 1), wrap64 ((wrap64 (a1 + ((rd_T31 l0 a1).f5))) + 1)] : List Int)) := ⟨_, rfl⟩
       replace H : (some y245) = some r := by first | (rw [hy245]; with_reducible exact H) | (have H2_ := (Option.bind_some _ _).symm.trans H; rw [hy245]; with_reducible exact H2_) | (have H2_ := (Option.bind_some _ _).symm.trans H; with_reducible exact H2_) | with_reducible exact H | (rw [hy245]; exact H) | exact H
       have Ny245 := Aside0.mk hy245
       clear hy245
       obtain rfl := Option.some.inj H
       have p237 : 0 ≤ (a1 : Int) := of_decide_eq_true (by assumption)
       have q237 : a1 < (l0.length : Int) := of_decide_eq_true (by assumption)
       obtain ⟨ad237, e237, hx237_0, hx237_1, hx237_2, hx237_3, hx237_4, hx237_5⟩ := at_T31 HR0.out a1 p237 q237
       cases e237
       replace p237 := eq_true p237
       replace q237 := eq_true q237
       go_enter Tryd.func20, Tryd.ntmps20
       go_wp2_with (first | ((with_reducible refine gate_dst (N := 5) rfl ?_); refine box_event ?hg (N := 5) ?hd (cs := #[.int .i64 0, .int .i64 0, .int .i64 0, .int .i64 0, .int .i64 0, .int .i64 0]) (t := 31) ?hr ?_; (case hd => rfl); (case hg => rfl); (case hr => first | (go_simp; done) | (go_simp; rfl)); intro gb238 hg w19 hbox hb; have n0_ := Aside0.mk (below_step (zb_ HB.out) hb); have n1_ := Aside0.mk (hbox); have n2_ := Aside0.mk ((by rw [hg]; exact (below_size (zb_ HB.out)) : w.heap.size ≤ gb238)); have n3_ := Aside0.mk ((by rw [hg]; exact (below_size (zb_ HB.out)) : w.heap.size ≤ gb238)); clear HB; have HB := n0_; have BK238 := n1_; have GW238 := n2_; have GE238 := n3_; clear n0_ n1_ n2_ n3_; clear hb hbox hg; have hcz20_0 : w19.cell? ⟨gb238, 0, none⟩ = some (.int .i64 0) := (blk_cell BK238.out 0).trans rfl; have hcz20_1 : w19.cell? ⟨gb238, 1, none⟩ = some (.int .i64 0) := (blk_cell BK238.out 1).trans rfl; have hcz20_2 : w19.cell? ⟨gb238, 2, none⟩ = some (.int .i64 0) := (blk_cell BK238.out 2).trans rfl; have hcz20_3 : w19.cell? ⟨gb238, 3, none⟩ = some (.int .i64 0) := (blk_cell BK238.out 3).trans rfl; have hcz20_4 : w19.cell? ⟨gb238, 4, none⟩ = some (.int .i64 0) := (blk_cell BK238.out 4).trans rfl; have hcz20_5 : w19.cell? ⟨gb238, 5, none⟩ = some (.int .i64 0) := (blk_cell BK238.out 5).trans rfl; have hfz20_0 := blk_frozen BK238.out 0; have hfz20_1 := blk_frozen BK238.out 1; have hfz20_2 := blk_frozen BK238.out 2; have hfz20_3 := blk_frozen BK238.out 3; have hfz20_4 := blk_frozen BK238.out 4; have hfz20_5 := blk_frozen BK238.out 5) | ((with_reducible refine gate_dst (N := 32) rfl ?_); refine Kd.R_lit (Kd.int .i64) _ 3 ?hg (N := 32) ?hd (xs := ([wrap64 (a1 + 1), wrap64 ((wrap64 (a1 + ((rd_T31 l0 a1).f5))) + 1)] : List Int)) (inner := [.int .i64 (wrap64 (a1 + 1)), .int .i64 (wrap64 ((wrap64 (a1 + ((rd_T31 l0 a1).f5))) + 1))]) (ok := fun _ => True) (okp := fun _ => True) ?hr ?hp (fun _ hk => hk) trivial (Below.refl _ _) (Nat.le_refl _) (by simp) ?_; (case hd => rfl); (case hg => rfl); (case hr => first | (go_simp; done) | (go_simp; rfl)); (case hp => exact (Reps.one (show Kd.M (Kd.int .i64) _ _ _ (wrap64 (a1 + 1)) [.int .i64 (wrap64 (a1 + 1))] from rfl) (Reps.one (show Kd.M (Kd.int .i64) _ _ _ (wrap64 ((wrap64 (a1 + ((rd_T31 l0 a1).f5))) + 1)) [.int .i64 (wrap64 ((wrap64 (a1 + ((rd_T31 l0 a1).f5))) + 1))] from rfl) (Reps.none _ _)))); intro v246 w21 ho22 hb hg_ hnew_; clear hg_ hnew_; (first | rw [← Ny245.out] at ho22 | (simp only [Int.reduceToNat] at ho22; rw [← Ny245.out] at ho22)); have n0_ := Aside0.mk (Kd.R_lower ho22 (below_size (by repeat (first | (with_reducible first | exact HB.out | apply below_alloc | apply pw_below_drewN | apply below_drew1 | refine below_set ?_ GE238.out) | exact HB.out)))); have n1_ := Aside0.mk (blk_below (g := gb238) (o := .cells #[.int .i64 ((rd_T31 l0 a1).f0), .int .i64 ((rd_T31 l0 a1).f1), .int .i64 ((rd_T31 l0 a1).f2), .int .i64 ((rd_T31 l0 a1).f3), .int .i64 ((rd_T31 l0 a1).f4), .int .i64 ((rd_T31 l0 a1).f5)] 31 (0, 0)) (by (with_reducible repeat (first | refine blk_drewN ?_ _ | refine blk_drew ?_ | refine blk_alloc ?_ _)); refine blk_put (cs := #[.int .i64 ((rd_T31 l0 a1).f0), .int .i64 ((rd_T31 l0 a1).f1), .int .i64 ((rd_T31 l0 a1).f2), .int .i64 ((rd_T31 l0 a1).f3), .int .i64 ((rd_T31 l0 a1).f4), .int .i64 0]) ?_ 5 _ rfl; (with_reducible repeat (first | refine blk_drewN ?_ _ | refine blk_drew ?_ | refine blk_alloc ?_ _)); refine blk_put (cs := #[.int .i64 ((rd_T31 l0 a1).f0), .int .i64 ((rd_T31 l0 a1).f1), .int .i64 ((rd_T31 l0 a1).f2), .int .i64 ((rd_T31 l0 a1).f3), .int .i64 0, .int .i64 0]) ?_ 4 _ rfl; (with_reducible repeat (first | refine blk_drewN ?_ _ | refine blk_drew ?_ | refine blk_alloc ?_ _)); refine blk_put (cs := #[.int .i64 ((rd_T31 l0 a1).f0), .int .i64 ((rd_T31 l0 a1).f1), .int .i64 ((rd_T31 l0 a1).f2), .int .i64 0, .int .i64 0, .int .i64 0]) ?_ 3 _ rfl; (with_reducible repeat (first | refine blk_drewN ?_ _ | refine blk_drew ?_ | refine blk_alloc ?_ _)); refine blk_put (cs := #[.int .i64 ((rd_T31 l0 a1).f0), .int .i64 ((rd_T31 l0 a1).f1), .int .i64 0, .int .i64 0, .int .i64 0, .int .i64 0]) ?_ 2 _ rfl; (with_reducible repeat (first | refine blk_drewN ?_ _ | refine blk_drew ?_ | refine blk_alloc ?_ _)); refine blk_put (cs := #[.int .i64 ((rd_T31 l0 a1).f0), .int .i64 0, .int .i64 0, .int .i64 0, .int .i64 0, .int .i64 0]) ?_ 1 _ rfl; (with_reducible repeat (first | refine blk_drewN ?_ _ | refine blk_drew ?_ | refine blk_alloc ?_ _)); refine blk_put (cs := #[.int .i64 0, .int .i64 0, .int .i64 0, .int .i64 0, .int .i64 0, .int .i64 0]) ?_ 0 _ rfl; (with_reducible repeat (first | refine blk_drewN ?_ _ | refine blk_drew ?_ | refine blk_alloc ?_ _)); exact BK238.out) hb); have n2_ := Aside0.mk (below_step (by repeat (first | (with_reducible first | exact HB.out | apply below_alloc | apply pw_below_drewN | apply below_drew1 | refine below_set ?_ GE238.out) | exact HB.out)) hb); clear BK238; clear HB; have HO247 := n0_; have BK238 := n1_; have HB := n2_; clear n0_ n1_ n2_; clear hb ho22))
       go_ret
       exact ⟨_, by first | rfl | (simp [errW_none, errW_some] <;> rfl) | (simp [*, errW_none, errW_some] <;> rfl), zR_ HO247.out, by repeat (first | (with_reducible first | exact HB.out | apply below_alloc | apply pw_below_drewN | apply below_drew1 | refine below_set ?_ GE238.out) | exact HB.out)⟩
      ·rw [if_neg c18] at H
       have c18b0 : (((rd_T31 l0 a1).f0) == 10) = false := beq_eq_false_iff_ne.mpr c18
       have c18b1 : (((rd_T31 l0 a1).f0) != 10) = true := bne_iff_ne.mpr c18
       obtain ⟨y248, hy248⟩ : ∃ y_ : List Int, y_ = (([wrap64 (a1 + 1)] : List Int)) := ⟨_, rfl⟩
       replace H : (some y248) = some r := by first | (rw [hy248]; with_reducible exact H) | (have H2_ := (Option.bind_some _ _).symm.trans H; rw [hy248]; with_reducible exact H2_) | (have H2_ := (Option.bind_some _ _).symm.trans H; with_reducible exact H2_) | with_reducible exact H | (rw [hy248]; exact H) | exact H
       have Ny248 := Aside0.mk hy248
       clear hy248
       obtain rfl := Option.some.inj H
       have p237 : 0 ≤ (a1 : Int) := of_decide_eq_true (by assumption)
       have q237 : a1 < (l0.length : Int) := of_decide_eq_true (by assumption)
       obtain ⟨ad237, e237, hx237_0, hx237_1, hx237_2, hx237_3, hx237_4, hx237_5⟩ := at_T31 HR0.out a1 p237 q237
       cases e237
       replace p237 := eq_true p237
       replace q237 := eq_true q237
       go_enter Tryd.func20, Tryd.ntmps20
       go_wp2_with (first | ((with_reducible refine gate_dst (N := 5) rfl ?_); refine box_event ?hg (N := 5) ?hd (cs := #[.int .i64 0, .int .i64 0, .int .i64 0, .int .i64 0, .int .i64 0, .int .i64 0]) (t := 31) ?hr ?_; (case hd => rfl); (case hg => rfl); (case hr => first | (go_simp; done) | (go_simp; rfl)); intro gb238 hg w23 hbox hb; have n0_ := Aside0.mk (below_step (zb_ HB.out) hb); have n1_ := Aside0.mk (hbox); have n2_ := Aside0.mk ((by rw [hg]; exact (below_size (zb_ HB.out)) : w.heap.size ≤ gb238)); have n3_ := Aside0.mk ((by rw [hg]; exact (below_size (zb_ HB.out)) : w.heap.size ≤ gb238)); clear HB; have HB := n0_; have BK238 := n1_; have GW238 := n2_; have GE238 := n3_; clear n0_ n1_ n2_ n3_; clear hb hbox hg; have hcz24_0 : w23.cell? ⟨gb238, 0, none⟩ = some (.int .i64 0) := (blk_cell BK238.out 0).trans rfl; have hcz24_1 : w23.cell? ⟨gb238, 1, none⟩ = some (.int .i64 0) := (blk_cell BK238.out 1).trans rfl; have hcz24_2 : w23.cell? ⟨gb238, 2, none⟩ = some (.int .i64 0) := (blk_cell BK238.out 2).trans rfl; have hcz24_3 : w23.cell? ⟨gb238, 3, none⟩ = some (.int .i64 0) := (blk_cell BK238.out 3).trans rfl; have hcz24_4 : w23.cell? ⟨gb238, 4, none⟩ = some (.int .i64 0) := (blk_cell BK238.out 4).trans rfl; have hcz24_5 : w23.cell? ⟨gb238, 5, none⟩ = some (.int .i64 0) := (blk_cell BK238.out 5).trans rfl; have hfz24_0 := blk_frozen BK238.out 0; have hfz24_1 := blk_frozen BK238.out 1; have hfz24_2 := blk_frozen BK238.out 2; have hfz24_3 := blk_frozen BK238.out 3; have hfz24_4 := blk_frozen BK238.out 4; have hfz24_5 := blk_frozen BK238.out 5) | ((with_reducible refine gate_dst (N := 35) rfl ?_); refine Kd.R_lit (Kd.int .i64) _ 3 ?hg (N := 35) ?hd (xs := ([wrap64 (a1 + 1)] : List Int)) (inner := [.int .i64 (wrap64 (a1 + 1))]) (ok := fun _ => True) (okp := fun _ => True) ?hr ?hp (fun _ hk => hk) trivial (Below.refl _ _) (Nat.le_refl _) (by simp) ?_; (case hd => rfl); (case hg => rfl); (case hr => first | (go_simp; done) | (go_simp; rfl)); (case hp => exact (Reps.one (show Kd.M (Kd.int .i64) _ _ _ (wrap64 (a1 + 1)) [.int .i64 (wrap64 (a1 + 1))] from rfl) (Reps.none _ _))); intro v249 w25 ho26 hb hg_ hnew_; clear hg_ hnew_; (first | rw [← Ny248.out] at ho26 | (simp only [Int.reduceToNat] at ho26; rw [← Ny248.out] at ho26)); have n0_ := Aside0.mk (Kd.R_lower ho26 (below_size (by repeat (first | (with_reducible first | exact HB.out | apply below_alloc | apply pw_below_drewN | apply below_drew1 | refine below_set ?_ GE238.out) | exact HB.out)))); have n1_ := Aside0.mk (blk_below (g := gb238) (o := .cells #[.int .i64 ((rd_T31 l0 a1).f0), .int .i64 ((rd_T31 l0 a1).f1), .int .i64 ((rd_T31 l0 a1).f2), .int .i64 ((rd_T31 l0 a1).f3), .int .i64 ((rd_T31 l0 a1).f4), .int .i64 ((rd_T31 l0 a1).f5)] 31 (0, 0)) (by (with_reducible repeat (first | refine blk_drewN ?_ _ | refine blk_drew ?_ | refine blk_alloc ?_ _)); refine blk_put (cs := #[.int .i64 ((rd_T31 l0 a1).f0), .int .i64 ((rd_T31 l0 a1).f1), .int .i64 ((rd_T31 l0 a1).f2), .int .i64 ((rd_T31 l0 a1).f3), .int .i64 ((rd_T31 l0 a1).f4), .int .i64 0]) ?_ 5 _ rfl; (with_reducible repeat (first | refine blk_drewN ?_ _ | refine blk_drew ?_ | refine blk_alloc ?_ _)); refine blk_put (cs := #[.int .i64 ((rd_T31 l0 a1).f0), .int .i64 ((rd_T31 l0 a1).f1), .int .i64 ((rd_T31 l0 a1).f2), .int .i64 ((rd_T31 l0 a1).f3), .int .i64 0, .int .i64 0]) ?_ 4 _ rfl; (with_reducible repeat (first | refine blk_drewN ?_ _ | refine blk_drew ?_ | refine blk_alloc ?_ _)); refine blk_put (cs := #[.int .i64 ((rd_T31 l0 a1).f0), .int .i64 ((rd_T31 l0 a1).f1), .int .i64 ((rd_T31 l0 a1).f2), .int .i64 0, .int .i64 0, .int .i64 0]) ?_ 3 _ rfl; (with_reducible repeat (first | refine blk_drewN ?_ _ | refine blk_drew ?_ | refine blk_alloc ?_ _)); refine blk_put (cs := #[.int .i64 ((rd_T31 l0 a1).f0), .int .i64 ((rd_T31 l0 a1).f1), .int .i64 0, .int .i64 0, .int .i64 0, .int .i64 0]) ?_ 2 _ rfl; (with_reducible repeat (first | refine blk_drewN ?_ _ | refine blk_drew ?_ | refine blk_alloc ?_ _)); refine blk_put (cs := #[.int .i64 ((rd_T31 l0 a1).f0), .int .i64 0, .int .i64 0, .int .i64 0, .int .i64 0, .int .i64 0]) ?_ 1 _ rfl; (with_reducible repeat (first | refine blk_drewN ?_ _ | refine blk_drew ?_ | refine blk_alloc ?_ _)); refine blk_put (cs := #[.int .i64 0, .int .i64 0, .int .i64 0, .int .i64 0, .int .i64 0, .int .i64 0]) ?_ 0 _ rfl; (with_reducible repeat (first | refine blk_drewN ?_ _ | refine blk_drew ?_ | refine blk_alloc ?_ _)); exact BK238.out) hb); have n2_ := Aside0.mk (below_step (by repeat (first | (with_reducible first | exact HB.out | apply below_alloc | apply pw_below_drewN | apply below_drew1 | refine below_set ?_ GE238.out) | exact HB.out)) hb); clear BK238; clear HB; have HO250 := n0_; have BK238 := n1_; have HB := n2_; clear n0_ n1_ n2_; clear hb ho26))
       go_ret
       exact ⟨_, by first | rfl | (simp [errW_none, errW_some] <;> rfl) | (simp [*, errW_none, errW_some] <;> rfl), zR_ HO250.out, by repeat (first | (with_reducible first | exact HB.out | apply below_alloc | apply pw_below_drewN | apply below_drew1 | refine below_set ?_ GE238.out) | exact HB.out)⟩
  ·rw [if_neg c4] at H
   exact absurd H (by simp)
 ·rw [if_neg c3] at H
  exact absurd H (by simp)
def impl_NextsOf.f (k : Nat) (l0 : List (S31)) (a1 : Int) : Option (List Int × Bool) := (impl_GoodProgram.f k l0).bind fun t251 => (if t251 = true then ((impl_in.f a1 0 (wrap64 ((l0.length : Int) - 1))).bind fun t252 => (if t252 = true then ((impl_nexts.f l0 a1).bind fun t253 => (some (t253, true))) else (some (([] : List Int), false)))) else (some (([] : List Int), false)))
theorem impl_NextsOf.mono : ∀ a0 a1 k, LeO (impl_NextsOf.f k a0 a1) (impl_NextsOf.f (k + 1) a0 a1) := by
 intro a0 a1 k
 unfold impl_NextsOf.f
 repeat' first
   | (with_reducible exact impl_GoodProgram.mono _ _)
   | (with_reducible exact LeO.refl _)
   | (with_reducible exact LeO.none _)
   | (with_reducible refine LeO.ite ?_ ?_)
   | (with_reducible refine LeO.bind ?_ (fun _ => ?_))
   | exact impl_GoodProgram.mono _ _
   | exact LeO.none _
   | refine LeO.ite ?_ ?_
   | refine LeO.bind ?_ (fun _ => ?_)
set_option maxHeartbeats 8000000 in
set_option maxRecDepth 100000 in
theorem impl_NextsOf.calls (k : Nat) (A0 : Option Addr) (c0 : Nat) (l0 : List (S31)) (a1 : Int) (r1 : List Int) (r2 : Bool) (w : World) (hr0 : Kd.C k31 w A0 l0.length l0) (hc0 : l0.length ≤ c0) (h : impl_NextsOf.f k l0 a1 = some (r1, r2)) :
  Calls Tryd.prog 5 #[.slice A0 l0.length c0, .int .i64 a1] w fun e w' => ∃ v0_ : Value, e = .returned (.tuple #[v0_, .bool r2]) ∧ Kd.R (Kd.int .i64) 3 w' w.heap.size (fun _ => True) v0_ r1 ∧ Below w.heap.size w w' := by
 have HR0 := Aside0.mk hr0
 have HC0 := Aside0.mk hc0
 clear hr0 hc0
 have HB := Aside0.mk (Below.refl w.heap.size w)
 have H : ((impl_GoodProgram.f k l0).bind fun t251 => (if t251 = true then ((impl_in.f a1 0 (wrap64 ((l0.length : Int) - 1))).bind fun t252 => (if t252 = true then ((impl_nexts.f l0 a1).bind fun t253 => (some (t253, true))) else (some (([] : List Int), false)))) else (some (([] : List Int), false)))) = some (r1, r2) := h
 clear h
 replace H := Option.bind_eq_some_iff.mp H
 obtain ⟨t251, A30, H⟩ := H
 (try dsimp only at H)
 have A3 := Aside0.mk A30
 clear A30
 by_cases c4 : t251 = true
 ·subst c4
  have H1 : ((impl_in.f a1 0 (wrap64 ((l0.length : Int) - 1))).bind fun t252 => (if t252 = true then ((impl_nexts.f l0 a1).bind fun t253 => (some (t253, true))) else (some (([] : List Int), false)))) = some (r1, r2) := by rw [if_pos rfl] at H; exact H
  clear H
  have H := H1
  clear H1
  replace H := Option.bind_eq_some_iff.mp H
  obtain ⟨t252, A50, H⟩ := H
  (try dsimp only at H)
  have A5 := Aside0.mk A50
  clear A50
  by_cases c6 : t252 = true
  ·subst c6
   have H1 : ((impl_nexts.f l0 a1).bind fun t253 => (some (t253, true))) = some (r1, r2) := by rw [if_pos rfl] at H; exact H
   clear H
   have H := H1
   clear H1
   replace H := Option.bind_eq_some_iff.mp H
   obtain ⟨t253, A70, H⟩ := H
   (try dsimp only at H)
   have A7 := Aside0.mk A70
   clear A70
   simp only [Option.some.injEq, Prod.mk.injEq] at H
   obtain ⟨rfl, rfl⟩ := H
   go_enter Tryd.func5, Tryd.ntmps5
   go_wp2_with (first | ((with_reducible refine gate_callee (f := 18) rfl ?_); refine goesL_ (some 7) rfl rfl Tryd.func18 (by kernel_rfl) rfl #[.slice A0 l0.length c0] rfl (by simp only [zA_, zB_, zD_] <;> rfl) ?_; (with_reducible refine (impl_GoodProgram.calls k _ _ l0 true _ ?side1 ?side2 A3.out).mono ?_); (case side1 => exact zC_ HR0.out); (case side2 => exact HC0.out); rintro e w8 ⟨rfl, hb⟩; refine ⟨_, rfl, ?_⟩; have n0_ := Aside0.mk (below_step (zb_ HB.out) hb); clear HB; have HB := n0_; clear n0_; (try clear hb); (try clear hb2); (try clear hk); (try clear hi)) | (go_at_call 19; (with_reducible refine (impl_in.calls a1 0 (wrap64 ((l0.length : Int) - 1)) true _ A5.out).mono ?_); rintro e w' ⟨rfl, ⟨nd, rfl⟩⟩) | ((with_reducible refine gate_callee (f := 20) rfl ?_); refine goesL_ (some 19) rfl rfl Tryd.func20 (by kernel_rfl) rfl #[.slice A0 l0.length c0, .int .i64 a1] rfl (by simp only [zA_, zB_, zD_] <;> rfl) ?_; (with_reducible refine (impl_nexts.calls _ _ l0 a1 t253 _ ?side1 ?side2 A7.out).mono ?_); (case side1 => exact Kd.C_below HR0.out (zb_ HB.out)); (case side2 => exact HC0.out); rintro e w9 ⟨v254, rfl, ho0, hb⟩; refine ⟨_, rfl, ?_⟩; have n0_ := Aside0.mk (Kd.R_lower ho0 (below_size (zb_ HB.out))); have n1_ := Aside0.mk (below_step (zb_ HB.out) hb); clear HB; have HO255 := n0_; have HB := n1_; clear n0_ n1_; (try clear hb); (try clear hb2); (try clear hk); (try clear hi); (try clear ho0)))
   go_ret2
   exact ⟨_, by first | rfl | (simp [errW_none, errW_some] <;> rfl) | (simp [*, errW_none, errW_some] <;> rfl), zR_ HO255.out, zb_ HB.out⟩
  ·replace c6 := Bool.eq_false_iff.mpr c6
   subst c6
   have H1 : (some (([] : List Int), false)) = some (r1, r2) := by rw [if_neg (show ¬ (false = true) by decide)] at H; exact H
   clear H
   have H := H1
   clear H1
   simp only [Option.some.injEq, Prod.mk.injEq] at H
   obtain ⟨rfl, rfl⟩ := H
   go_enter Tryd.func5, Tryd.ntmps5
   go_wp2_with (first | ((with_reducible refine gate_callee (f := 18) rfl ?_); refine goesL_ (some 7) rfl rfl Tryd.func18 (by kernel_rfl) rfl #[.slice A0 l0.length c0] rfl (by simp only [zA_, zB_, zD_] <;> rfl) ?_; (with_reducible refine (impl_GoodProgram.calls k _ _ l0 true _ ?side1 ?side2 A3.out).mono ?_); (case side1 => exact zC_ HR0.out); (case side2 => exact HC0.out); rintro e w10 ⟨rfl, hb⟩; refine ⟨_, rfl, ?_⟩; have n0_ := Aside0.mk (below_step (zb_ HB.out) hb); clear HB; have HB := n0_; clear n0_; (try clear hb); (try clear hb2); (try clear hk); (try clear hi)) | (go_at_call 19; (with_reducible refine (impl_in.calls a1 0 (wrap64 ((l0.length : Int) - 1)) false _ A5.out).mono ?_); rintro e w' ⟨rfl, ⟨nd, rfl⟩⟩))
   go_ret2
   exact ⟨_, by first | rfl | (simp [errW_none, errW_some] <;> rfl) | (simp [*, errW_none, errW_some] <;> rfl), by first | exact Kd.R_nil _ _ _ _ _ | exact Kd.N_nil _ _ _ _ _ | exact Kd.V_nil _ _ _ _ _ | exact Kd.Q_nil _ _ _ _ _ | exact Kd.S_nil _ _ _ _ _, zb_ HB.out⟩
 ·replace c4 := Bool.eq_false_iff.mpr c4
  subst c4
  have H1 : (some (([] : List Int), false)) = some (r1, r2) := by rw [if_neg (show ¬ (false = true) by decide)] at H; exact H
  clear H
  have H := H1
  clear H1
  simp only [Option.some.injEq, Prod.mk.injEq] at H
  obtain ⟨rfl, rfl⟩ := H
  go_enter Tryd.func5, Tryd.ntmps5
  go_wp2_with (first | ((with_reducible refine gate_callee (f := 18) rfl ?_); refine goesL_ (some 7) rfl rfl Tryd.func18 (by kernel_rfl) rfl #[.slice A0 l0.length c0] rfl (by simp only [zA_, zB_, zD_] <;> rfl) ?_; (with_reducible refine (impl_GoodProgram.calls k _ _ l0 false _ ?side1 ?side2 A3.out).mono ?_); (case side1 => exact zC_ HR0.out); (case side2 => exact HC0.out); rintro e w11 ⟨rfl, hb⟩; refine ⟨_, rfl, ?_⟩; have n0_ := Aside0.mk (below_step (zb_ HB.out) hb); clear HB; have HB := n0_; clear n0_; (try clear hb); (try clear hb2); (try clear hk); (try clear hi)))
  go_ret2
  exact ⟨_, by first | rfl | (simp [errW_none, errW_some] <;> rfl) | (simp [*, errW_none, errW_some] <;> rfl), by first | exact Kd.R_nil _ _ _ _ _ | exact Kd.N_nil _ _ _ _ _ | exact Kd.V_nil _ _ _ _ _ | exact Kd.Q_nil _ _ _ _ _ | exact Kd.S_nil _ _ _ _ _, zb_ HB.out⟩
def spec_l1In.f (a0 : Int) (a1 : Int) (a2 : Int) : Option (Bool) := if a0 ≥ a1 then (some (decide (a0 ≤ a2))) else (some false)
set_option maxHeartbeats 8000000 in
set_option maxRecDepth 100000 in
theorem spec_l1In.calls (a0 : Int) (a1 : Int) (a2 : Int) (r : Bool) (w : World) (h : spec_l1In.f a0 a1 a2 = some r) :
  Calls Tryd.prog 35 #[.int .i64 a0, .int .i64 a1, .int .i64 a2] w fun e w' => e = .returned (.bool r) ∧ Drawn0 w w' := by
 have H : (if a0 ≥ a1 then (some (decide (a0 ≤ a2))) else (some false)) = some r := h
 clear h
 by_cases c4 : a0 ≥ a1
 ·rw [if_pos c4] at H
  have c4b0 : decide (a1 ≤ a0) = true := decide_eq_true c4
  clear c4
  obtain rfl := Option.some.inj H
  go_enter Tryd.func35, Tryd.ntmps35
  go_wp2
  go_ret
  exact ⟨by first | rfl | (simp; done) | (simp [*]; done), by repeat (first | exact Drawn0.refl _ | apply Drawn0.step)⟩
 ·rw [if_neg c4] at H
  have c4b0 : decide (a1 ≤ a0) = false := decide_eq_false c4
  clear c4
  obtain rfl := Option.some.inj H
  go_enter Tryd.func35, Tryd.ntmps35
  go_wp2
  go_ret
  exact ⟨by first | rfl | (simp; done) | (simp [*]; done), by repeat (first | exact Drawn0.refl _ | apply Drawn0.step)⟩
def spec_l2Reg.f (a0 : Int) : Option (Bool) := (spec_l1In.f a0 0 5).bind fun t256 => (some t256)
set_option maxHeartbeats 8000000 in
set_option maxRecDepth 100000 in
theorem spec_l2Reg.calls (a0 : Int) (r : Bool) (w : World) (h : spec_l2Reg.f a0 = some r) :
  Calls Tryd.prog 39 #[.int .i64 a0] w fun e w' => e = .returned (.bool r) ∧ Drawn0 w w' := by
 have H : ((spec_l1In.f a0 0 5).bind fun t256 => (some t256)) = some r := h
 clear h
 replace H := Option.bind_eq_some_iff.mp H
 obtain ⟨t256, A20, H⟩ := H
 (try dsimp only at H)
 have A2 := Aside0.mk A20
 clear A20
 obtain rfl := Option.some.inj H
 go_enter Tryd.func39, Tryd.ntmps39
 go_wp2_with (first | ((with_reducible refine gate_callee (f := 35) rfl ?_); refine goesL_ (some 4) rfl rfl Tryd.func35 (by kernel_rfl) rfl #[.int .i64 a0, .int .i64 0, .int .i64 5] rfl (by simp only [zA_, zB_, zD_] <;> rfl) ?_; (with_reducible refine (spec_l1In.calls a0 0 5 t256 _ A2.out).mono ?_); rintro e w' ⟨rfl, ⟨nd, rfl⟩⟩; refine ⟨_, rfl, ?_⟩))
 go_ret
 exact ⟨by first | rfl | (simp; done) | (simp [*]; done), by repeat (first | exact Drawn0.refl _ | apply Drawn0.step)⟩
end Go.Proofs.YtpkbjgmeejlchaaDoor.PFnNexts
-- squeezed
