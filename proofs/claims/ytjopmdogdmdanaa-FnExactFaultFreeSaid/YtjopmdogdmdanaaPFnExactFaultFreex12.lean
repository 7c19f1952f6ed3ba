-- Made by a program of this session (wip/tools), which leans on the kit's print: checked by Lean alone.
import Derived.Test.YtjopmdogdmdanaaPFnExactFaultFreex0
import Derived.Test.YtjopmdogdmdanaaPFnExactFaultFreex1
import Derived.Test.YtjopmdogdmdanaaPFnExactFaultFreex2
import Derived.Test.YtjopmdogdmdanaaPFnExactFaultFreex7
import Derived.Test.YtjopmdogdmdanaaPFnExactFaultFreex9
import Derived.Test.YtjopmdogdmdanaaPFnExactFaultFreex10
import Derived.Test.YtjopmdogdmdanaaPFnExactFaultFreex11
namespace Go.Proofs.Ytjopmdogdmdanaa.PFnExactFaultFree
open Go.RowKit Go.Proofs.YtjopmdogdmdanaaW.PrintWords Go.Proofs.YtjopmdogdmdanaaW.PrintLast Go.Proofs.YtjopmdogdmdanaaW.PrintMore
attribute [local go_sem] max2_int min2_int max_two min_two max_three min_three max_four min_four   -- for this text's walks alone
set_option linter.unusedVariables false
set_option linter.unusedSimpArgs false
theorem R_me_ {α : Type} {enc : α → Value} {h1 : ∀ x, (enc x).oneCell' = true} {e base : Nat} {w : World} {ok : Nat → Prop} {v : Value} {xs : List α} (h : (Kd.scalar enc h1).R e w base ok v xs) : (Kd.scalar enc h1).R e w base (fun k_ => some k_ = v.ownBlock) v xs := ⟨fun _ hk => hk.symm, h.2⟩
theorem R_as_ {α : Type} {enc : α → Value} {h1 : ∀ x, (enc x).oneCell' = true} {e base base' : Nat} {w w' : World} {ok ok' : Nat → Prop} {v : Value} {xs ys : List α} (h : (Kd.scalar enc h1).R e w base ok v xs) (h' : (Kd.scalar enc h1).R e w' base' ok' v ys) : (Kd.scalar enc h1).R e w' base' ok v ys := ⟨h.1, h'.2⟩
def impl_run.l0 : Nat → List S26 → List Int → Int → List Int → Int → List Int → List Int → List Bool → Option (Int × Int × Int × List Int)
 | 0, _, _, _, _, _, _, _, _ => none
 | k + 1, p, ctx, fuel, tr, xa, xR, xC, xB => if (tr.length : Int) = fuel then some (0, 4, xa, tr) else (if tr.length < 17592186044416 then (impl_Machine_step.f k xa xR xC xB p ctx).bind fun x => (if x.1 = 0 then (if x.2.1 = true then (if 0 < (x.2.2.2.1.length : Int) then some (rd x.2.2.2.1 0, 0, 0, tr ++ [xa]) else none) else impl_run.l0 k p ctx fuel (tr ++ [xa]) x.2.2.1 x.2.2.2.1 x.2.2.2.2.1 x.2.2.2.2.2) else some (0, x.1, xa, tr ++ [xa])) else none)
def impl_run.f (k : Nat) (l0 : List S26) (l1 : List Int) (a2 : Int) : Option (Int × Int × Int × List Int) := (impl_NewMachine.f).bind fun m => impl_run.l0 k l0 l1 a2 [] m.1 m.2.1 m.2.2.1 m.2.2.2
theorem impl_run.mono_l : ∀ k, (∀ y0 y1 y2 y3 y4 y5 y6 y7, LeO (impl_run.l0 k y0 y1 y2 y3 y4 y5 y6 y7) (impl_run.l0 (k + 1) y0 y1 y2 y3 y4 y5 y6 y7))
 | 0 => fun _ _ _ _ _ _ _ _ r h => by simp [impl_run.l0] at h
 | k + 1 => by
  have ih0 := impl_run.mono_l k
  intro y0 y1 y2 y3 y4 y5 y6 y7
  unfold impl_run.l0
  repeat' first
  | (with_reducible exact ih0 _ _ _ _ _ _ _ _)
  | (with_reducible exact impl_Machine_step.mono _ _ _ _ _ _ _)
  | (with_reducible exact LeO.refl _)
  | (with_reducible exact LeO.none _)
  | (with_reducible refine LeO.ite ?_ ?_)
  | (with_reducible refine LeO.bind ?_ (fun _ => ?_))
theorem impl_run.mono : ∀ a0 a1 a2 k, LeO (impl_run.f k a0 a1 a2) (impl_run.f (k + 1) a0 a1 a2) := by
 intro a0 a1 a2 k
 unfold impl_run.f
 exact LeO.bind (LeO.refl _) (fun _ => impl_run.mono_l k _ _ _ _ _ _ _ _)
set_option maxHeartbeats 1000000 in
set_option maxRecDepth 100000 in
theorem impl_run.calls (k : Nat) (A0 : Option Addr) (c0 : Nat) (l0 : List S26) (A1 : Option Addr) (c1 : Nat) (l1 : List Int) (a2 : Int) (r1 : Int) (r2 : Int) (r3 : Int) (r4 : List Int) (w : World) (hr0 : Kd.C k26 w A0 l0.length l0) (hc0 : l0.length ≤ c0) (hr1 : Kd.C (Kd.int .i64) w A1 l1.length l1) (hc1 : l1.length ≤ c1) (h : impl_run.f k l0 l1 a2 = some (r1, r2, r3, r4)) :
  Calls Try.prog 77 #[.slice A0 l0.length c0, .slice A1 l1.length c1, .int .i64 a2] w fun e w' => ∃ v3_ : Value, e = .returned (.tuple #[.int .i64 r1, .int .i64 r2, .int .i64 r3, v3_]) ∧ Kd.R (Kd.int .i64) 3 w' w.heap.size (fun _ => True) v3_ r4 ∧ Below w.heap.size w w' := by
 have hum := Try.underlying116
 have HR0 := Aside0.mk hr0
 have HC0 := Aside0.mk hc0
 have HR1 := Aside0.mk hr1
 have HC1 := Aside0.mk hc1
 clear hr0 hc0 hr1 hc1
 have HB := Aside0.mk (Below.refl w.heap.size w)
 unfold impl_run.f at h
 replace h := Option.bind_eq_some_iff.mp h
 obtain ⟨⟨t1, t2, t3, t4⟩, G4', h⟩ := h
 dsimp only at h
 have G4 := Aside0.mk G4'
 clear G4'
 have H' := Aside0.mk h
 clear h
 go_enter Try.func77, Try.ntmps77
 go_wp2_with (first | (go_at_call 95; (with_reducible refine (impl_NewMachine.calls t1 t2 t3 t4 _ G4.out).mono ?_); rintro e w5 ⟨v1, v2, v3, rfl, ho0, ho1, ho2, hb⟩; have n0_ := Aside0.mk (Kd.R_lower ho0 (below_size (zb_ HB.out))); have n1_ := Aside0.mk (Kd.R_lower ho1 (below_size (zb_ HB.out))); have n2_ := Aside0.mk (Kd.R_lower ho2 (below_size (zb_ HB.out))); have n3_ := Aside0.mk (below_step (zb_ HB.out) hb); clear HB; have HO1 := n0_; have HO2 := n1_; have HO3 := n2_; have HB := n3_; clear n0_ n1_ n2_ n3_ hb ho0 ho1 ho2) | ((with_reducible refine gate_dst (N := 10) rfl ?_); refine box_event ?hg (N := 10) ?hd (cs := #[.int .i64 0, .slice none 0 0, .slice none 0 0, .slice none 0 0]) (t := 116) ?hr ?_; (case hd => rfl); (case hg => rfl); (case hr => first | (go_simp; done) | (go_simp; rfl)); intro gb hg w6 hbox hb; have n0_ := Aside0.mk (Kd.R_below (zR_ HO1.out) hb); have n1_ := Aside0.mk (Kd.R_below (zR_ HO2.out) hb); have n2_ := Aside0.mk (Kd.R_below (zR_ HO3.out) hb); have n3_ := Aside0.mk (below_step (zb_ HB.out) hb); have n4_ := Aside0.mk (hbox); have n5_ := Aside0.mk ((by rw [hg]; exact (below_size (zb_ HB.out)) : w.heap.size ≤ gb)); clear HO1 HO2 HO3 HB; have HO1 := n0_; have HO2 := n1_; have HO3 := n2_; have HB := n3_; have BK := n4_; have GE := n5_; clear n0_ n1_ n2_ n3_ n4_ n5_; clear hb hbox hg; have hcz7_0 : w6.cell? ⟨gb, 0, none⟩ = some (.int .i64 0) := (blk_cell BK.out 0).trans rfl; have hcz7_1 : w6.cell? ⟨gb, 1, none⟩ = some (.slice none 0 0) := (blk_cell BK.out 1).trans rfl; have hcz7_2 : w6.cell? ⟨gb, 2, none⟩ = some (.slice none 0 0) := (blk_cell BK.out 2).trans rfl; have hcz7_3 : w6.cell? ⟨gb, 3, none⟩ = some (.slice none 0 0) := (blk_cell BK.out 3).trans rfl; have hfz7_0 := blk_frozen BK.out 0; have hfz7_1 := blk_frozen BK.out 1; have hfz7_2 := blk_frozen BK.out 2; have hfz7_3 := blk_frozen BK.out 3; obtain ⟨B1, d1, e1⟩ := Kd.R_slice HO1.out; subst e1; obtain ⟨B2, d2, e2⟩ := Kd.R_slice HO2.out; subst e2; obtain ⟨B3, d3, e3⟩ := Kd.R_slice HO3.out; subst e3))
 go_loopg [11] k (fun kq v11 w' => ∃ (xt : List Int) (xa : Int) (xR : List Int) (xC : List Int) (xB : List Bool) (u1 : Value) (u2 : Value) (u3 : Value), Aside0 (impl_run.l0 kq l0 l1 a2 xt xa xR xC xB = some (r1, r2, r3, r4)) ∧ Aside0 (kq ≤ k) ∧ Aside0 (Kd.R (Kd.int .i64) 3 w' w.heap.size (fun k_ => some k_ ≠ (u1 : Value).ownBlock ∧ some k_ ≠ (u2 : Value).ownBlock) v11 xt) ∧ Aside0 (Kd.R (Kd.int .i64) 3 w' w.heap.size (fun k_ => some k_ ≠ (v11 : Value).ownBlock ∧ some k_ ≠ (u2 : Value).ownBlock) u1 xR) ∧ Aside0 (Kd.R (Kd.int .i64) 3 w' w.heap.size (fun k_ => some k_ ≠ (v11 : Value).ownBlock ∧ some k_ ≠ (u1 : Value).ownBlock) u2 xC) ∧ Aside0 (Kd.R Kd.bool 4 w' w.heap.size (fun _ => True) u3 xB) ∧ Aside0 (w'.heap[gb]? = some (.cells #[.int .i64 xa, u1, u2, u3] 116 (0, 0))) ∧ Aside0 (Below w.heap.size w w'))
 case atStart => exact ⟨[], t1, t2, t3, t4, .slice B1 t2.length d1, .slice B2 t3.length d2, .slice B3 t4.length d3, H', ⟨Nat.le_refl _⟩, ⟨Kd.R_nil _ _ _ _ _⟩, ⟨by (with_reducible repeat (first | apply Kd.R_alloc | apply Kd.R_drewN | apply Kd.R_drew)); exact Kd.R_mono (Kd.R_far (p := ⟨gb, 3, none⟩) (Kd.R_far (p := ⟨gb, 2, none⟩) (Kd.R_far (p := ⟨gb, 1, none⟩) (Kd.R_far (p := ⟨gb, 0, none⟩) (Kd.R_types HO1.out BK.out (by decide)) (fun _ hk => hk.2) (.int .i64 t1)) (fun _ hk => hk.2) (.slice B1 t2.length d1)) (fun _ hk => hk.2) (.slice B2 t3.length d2)) (fun _ hk => hk.2) (.slice B3 t4.length d3)) (fun _ hk => ⟨(by simp [Value.ownBlock]), hk.1⟩)⟩, ⟨by (with_reducible repeat (first | apply Kd.R_alloc | apply Kd.R_drewN | apply Kd.R_drew)); exact Kd.R_mono (Kd.R_far (p := ⟨gb, 3, none⟩) (Kd.R_far (p := ⟨gb, 2, none⟩) (Kd.R_far (p := ⟨gb, 1, none⟩) (Kd.R_far (p := ⟨gb, 0, none⟩) (Kd.R_types HO2.out BK.out (by decide)) (fun _ hk => hk.2) (.int .i64 t1)) (fun _ hk => hk.2) (.slice B1 t2.length d1)) (fun _ hk => hk.2) (.slice B2 t3.length d2)) (fun _ hk => hk.2) (.slice B3 t4.length d3)) (fun _ hk => ⟨(by simp [Value.ownBlock]), hk.1⟩)⟩, ⟨by (with_reducible repeat (first | apply Kd.R_alloc | apply Kd.R_drewN | apply Kd.R_drew)); exact Kd.R_mono (Kd.R_far (p := ⟨gb, 3, none⟩) (Kd.R_far (p := ⟨gb, 2, none⟩) (Kd.R_far (p := ⟨gb, 1, none⟩) (Kd.R_far (p := ⟨gb, 0, none⟩) (Kd.R_types HO3.out BK.out (by decide)) (fun _ hk => hk.2) (.int .i64 t1)) (fun _ hk => hk.2) (.slice B1 t2.length d1)) (fun _ hk => hk.2) (.slice B2 t3.length d2)) (fun _ hk => hk.2) (.slice B3 t4.length d3)) (fun _ _ => trivial)⟩, ⟨by (with_reducible repeat (first | refine blk_drewN ?_ _ | refine blk_drew ?_ | refine blk_alloc ?_ _)); refine blk_put (cs := #[.int .i64 t1, .slice B1 t2.length d1, .slice B2 t3.length d2, .slice none 0 0]) ?_ 3 _ rfl; (with_reducible repeat (first | refine blk_drewN ?_ _ | refine blk_drew ?_ | refine blk_alloc ?_ _)); refine blk_put (cs := #[.int .i64 t1, .slice B1 t2.length d1, .slice none 0 0, .slice none 0 0]) ?_ 2 _ rfl; (with_reducible repeat (first | refine blk_drewN ?_ _ | refine blk_drew ?_ | refine blk_alloc ?_ _)); refine blk_put (cs := #[.int .i64 t1, .slice none 0 0, .slice none 0 0, .slice none 0 0]) ?_ 1 _ rfl; (with_reducible repeat (first | refine blk_drewN ?_ _ | refine blk_drew ?_ | refine blk_alloc ?_ _)); refine blk_put (cs := #[.int .i64 0, .slice none 0 0, .slice none 0 0, .slice none 0 0]) ?_ 0 _ rfl; (with_reducible repeat (first | refine blk_drewN ?_ _ | refine blk_drew ?_ | refine blk_alloc ?_ _)); exact BK.out⟩, ⟨by repeat (first | (with_reducible first | exact HB.out | apply below_alloc | apply pw_below_drewN | apply below_drew1 | refine below_set ?_ GE.out) | exact HB.out)⟩⟩
 case round =>
  clear H' HB BK HO1 HO2 HO3
  try clear hcz7_0 hcz7_1 hcz7_2 hcz7_3 hfz7_0 hfz7_1 hfz7_2 hfz7_3
  obtain ⟨xt, xa, xR, xC, xB, u1, u2, u3, HA, HK1, HOT, HO1, HO2, HO3, BK, HB⟩ := hrel
  cases gk with
  | zero => exact absurd HA.out (by simp [impl_run.l0])
  | succ k1 =>
   have h := HA.out
   clear HA
   simp only [impl_run.l0] at h
   obtain ⟨Ao, co, eo⟩ := Kd.R_slice HOT.out
   subst eo
   have hcz15_0 : wr.cell? ⟨gb, 0, none⟩ = some (.int .i64 xa) := (blk_cell BK.out 0).trans rfl
   have hcz15_1 : wr.cell? ⟨gb, 1, none⟩ = some u1 := (blk_cell BK.out 1).trans rfl
   have hcz15_2 : wr.cell? ⟨gb, 2, none⟩ = some u2 := (blk_cell BK.out 2).trans rfl
   have hcz15_3 : wr.cell? ⟨gb, 3, none⟩ = some u3 := (blk_cell BK.out 3).trans rfl
   have hfz15_0 := blk_frozen BK.out 0
   have hfz15_1 := blk_frozen BK.out 1
   have hfz15_2 := blk_frozen BK.out 2
   have hfz15_3 := blk_frozen BK.out 3
   by_cases c1' : (xt.length : Int) = a2
   ·rw [if_pos c1'] at h
    have c1b0 : ((xt.length : Int) == a2) = true := beq_iff_eq.mpr c1'
    have c1b1 : (((xt.length : Int)) != a2) = false := bne_eq_false_iff_eq.mpr c1'
    clear c1'
    simp only [Option.some.injEq, Prod.mk.injEq] at h
    obtain ⟨rfl, rfl, rfl, rfl⟩ := h
    go_wp2
    repeat (go_quiet (fail); try go_wp2)
    refine bodyPost_ret (results_list (rs := [.tmp 6, .tmp 7, .tmp 8, .tmp 9]) rfl (by simp) (.tmp (.tmp (.tmp (.tmp .nil))))) rfl ?_
    exact ⟨_, by first | rfl | simp | (simp [*]; done), by (with_reducible repeat (first | apply Kd.R_alloc | apply Kd.R_drewN | apply Kd.R_drew)); exact Kd.R_mono HOT.out (fun _ _ => trivial), by repeat (first | (with_reducible first | exact HB.out | apply below_alloc | apply pw_below_drewN | apply below_drew1 | refine below_set ?_ GE.out) | exact HB.out)⟩
   rw [if_neg c1'] at h
   have c1b0 : ((xt.length : Int) == a2) = false := beq_eq_false_iff_ne.mpr c1'
   have c1b1 : (((xt.length : Int)) != a2) = true := bne_iff_ne.mpr c1'
   clear c1'
   by_cases c2 : xt.length < 17592186044416
   ·rw [if_pos c2] at h
    have LM := Aside0.mk c2
    clear c2
    obtain ⟨y, hy⟩ : ∃ y_ : List Int, y_ = xt ++ [xa] := ⟨_, rfl⟩
    rw [← hy] at h
    have NY := Aside0.mk hy
    clear hy
    replace h := Option.bind_eq_some_iff.mp h
    obtain ⟨⟨tf, te, ta, tR, tC, tB⟩, G5', h⟩ := h
    dsimp only at h
    have G5 := Aside0.mk G5'
    clear G5'
    obtain ⟨u11, hu11⟩ : ∃ u_ : Value, u_ = .slice Ao xt.length co := ⟨_, rfl⟩
    subst hu11
    by_cases c3 : tf = 0
    ·rw [if_pos c3] at h
     subst c3
     cases te with
     | true =>
      rw [if_pos rfl] at h
      by_cases c4 : 0 < (tR.length : Int)
      case neg => rw [if_neg c4] at h; cases h
      rw [if_pos c4] at h
      have c4b0 : decide (0 < (tR.length : Int)) = true := decide_eq_true c4
      have C4 := Aside0.mk c4
      clear c4
      simp only [Option.some.injEq, Prod.mk.injEq] at h
      obtain ⟨rfl, rfl, rfl, rfl⟩ := h
      go_wp2_with (first | ((with_reducible refine gate_builtin (b := .append) (xs := #[.tmp 24, .tmp 26]) rfl ?_); at_builtin; refine Kd.R_append (Kd.int .i64) (w0 := w) w.heap.size rfl (.tmp 24) (.tmp 26) 37 3 (.int .i64 0) 8 rfl Try.underlying37 info3 rfl (by decide) (by omega) (.slice Ao xt.length co) xt xa [.int .i64 xa] (fun k_ => some k_ ≠ (u1 : Value).ownBlock ∧ some k_ ≠ (u2 : Value).ownBlock) (fun _ => False) rfl rfl ?aP (fun _ hk => hk.elim) ?aF ?aO ?aB ?aS ?aL ?_; (case aP => exact rfl); (case aB => exact (by repeat (first | (with_reducible first | exact HB.out | apply below_alloc | apply pw_below_drewN | apply below_drew1 | refine below_set ?_ GE.out) | exact HB.out))); (case aF => exact (fun k_ hk => ⟨Kd.fresh' (Kd.R_lt (zR_ HO1.out)) k_ hk, Kd.fresh' (Kd.R_lt (zR_ HO2.out)) k_ hk⟩)); (case aO => exact (zR_ HOT.out)); (case aS => exact (below_size (by repeat (first | (with_reducible first | exact HB.out | apply below_alloc | apply pw_below_drewN | apply below_drew1 | refine below_set ?_ GE.out) | exact HB.out)))); (case aL => have := LM.out; omega); intro v27 w16 ho hb hg hat; rw [← NY.out] at ho; have n0_ := Aside0.mk (Kd.R_after (ok := (fun k_ => some k_ ≠ (u2 : Value).ownBlock)) (by (with_reducible repeat (first | apply Kd.R_alloc | apply Kd.R_drewN | apply Kd.R_drew)); exact Kd.R_mono HO1.out (fun _ hk => ⟨hk.2, hk.1⟩)) hg hat); have n1_ := Aside0.mk (Kd.R_after (ok := (fun k_ => some k_ ≠ (u1 : Value).ownBlock)) (by (with_reducible repeat (first | apply Kd.R_alloc | apply Kd.R_drewN | apply Kd.R_drew)); exact Kd.R_mono HO2.out (fun _ hk => ⟨hk.2, hk.1⟩)) hg hat); have n2_ := Aside0.mk (Kd.R_over' (zR_ HO3.out) (Kd.R_typed (zR_ HOT.out)) (by decide) hg); have n3_ := Aside0.mk (blk_grown (g := gb) (o := .cells #[.int .i64 xa, u1, u2, u3] 116 (0, 0)) (zO_ BK.out) hg (Kd.R_ne HOT.out BK.out (by decide))); have n4_ := Aside0.mk (hb); have n5_ := Aside0.mk (ho); clear HO1 HO2 HO3 BK HB HOT; have HO1 := n0_; have HO2 := n1_; have HO3 := n2_; have BK := n3_; have HB := n4_; have HOT := n5_; clear n0_ n1_ n2_ n3_ n4_ n5_; clear ho hb hg hat; have hcz17_0 : w16.cell? ⟨gb, 0, none⟩ = some (.int .i64 xa) := (blk_cell BK.out 0).trans rfl; have hcz17_1 : w16.cell? ⟨gb, 1, none⟩ = some (u1) := (blk_cell BK.out 1).trans rfl; have hcz17_2 : w16.cell? ⟨gb, 2, none⟩ = some (u2) := (blk_cell BK.out 2).trans rfl; have hcz17_3 : w16.cell? ⟨gb, 3, none⟩ = some (u3) := (blk_cell BK.out 3).trans rfl; have hfz17_0 := blk_frozen BK.out 0; have hfz17_1 := blk_frozen BK.out 1; have hfz17_2 := blk_frozen BK.out 2; have hfz17_3 := blk_frozen BK.out 3) | (go_at_call 96; (with_reducible refine (impl_Machine_step.calls k1 gb xa (fun k_ => some k_ = (u1 : Value).ownBlock) u1 xR (fun k_ => some k_ = (u2 : Value).ownBlock) u2 xC (fun k_ => some k_ = (u3 : Value).ownBlock) u3 xB _ _ l0 _ _ l1 0 true ta tR tC tB w _ ?s1 GE.out ?s3 ?s4 ?s5 ?s6 ?s7 ?s8 ?s9 HC0.out ?s11 HC1.out G5.out).mono ?_); (case s1 => (with_reducible repeat (first | refine blk_drewN ?_ _ | refine blk_drew ?_ | refine blk_alloc ?_ _)); exact BK.out); (case s3 => exact (by repeat (first | (with_reducible first | exact HB.out | apply below_alloc | apply pw_below_drewN | apply below_drew1 | refine below_set ?_ GE.out) | exact HB.out))); (case s4 => exact R_me_ (zR_ HO1.out)); (case s5 => exact (fun k_ e_ h_ => (HO1.out.1 k_ e_.symm).1 h_)); (case s6 => exact R_me_ (zR_ HO2.out)); (case s7 => exact (fun k_ e_ h_ => (HO2.out.1 k_ e_.symm).1 h_)); (case s8 => exact R_me_ (zR_ HO3.out)); (case s9 => exact Kd.C_kept_came k26_heap HR0.out (by repeat (first | (with_reducible first | exact HB.out | apply below_alloc | apply pw_below_drewN | apply below_drew1 | refine below_set ?_ GE.out) | exact HB.out)) (fun k_ hs_ => hs_.elim (fun e_ => e_.elim (fun e_ => Kd.R_base HO1.out k_ e_.symm) (fun e_ => e_.elim (fun e_ => Kd.R_base HO2.out k_ e_.symm) (fun e_ => Kd.R_base HO3.out k_ e_.symm))) (fun e_ => by rw [e_]; exact GE.out))); (case s11 => exact Kd.C_kept_came (Kd.heap_int .i64) HR1.out (by repeat (first | (with_reducible first | exact HB.out | apply below_alloc | apply pw_below_drewN | apply below_drew1 | refine below_set ?_ GE.out) | exact HB.out)) (fun k_ hs_ => hs_.elim (fun e_ => e_.elim (fun e_ => Kd.R_base HO1.out k_ e_.symm) (fun e_ => e_.elim (fun e_ => Kd.R_base HO2.out k_ e_.symm) (fun e_ => Kd.R_base HO3.out k_ e_.symm))) (fun e_ => by rw [e_]; exact GE.out))); rintro e w20 ⟨rfl, hbx, ho1, ho2, ho3, hb, hkp⟩; have n0_ := Aside0.mk (R_as_ HO1.out ho1); have n1_ := Aside0.mk (R_as_ HO2.out ho2); have n2_ := Aside0.mk (R_as_ HO3.out ho3); have n5_ := Aside0.mk (Kd.R_mono (Kd.R_kept (Kd.R_types (Kd.R_apart' (zR_ HOT.out) (Kd.R_typed (zR_ HO3.out)) (by decide)) (zO_ BK.out) (by decide)) hkp (fun k_ hk hs_ => hs_.elim (fun e_ => e_.elim hk.1.1.1 (fun e_ => e_.elim hk.1.1.2 hk.1.2)) hk.2)) (fun _ hk => hk.1.1)); clear HO1 HO2 HO3 BK HB HOT; have HO1 := n0_; have HO2 := n1_; have HO3 := n2_; have BK := Aside0.mk hbx; have HB := Aside0.mk hb; have HOT := n5_; clear n0_ n1_ n2_ n5_; clear hbx ho1 ho2 ho3 hb hkp; (try clear hcz17_0 hcz17_1 hcz17_2 hcz17_3 hfz17_0 hfz17_1 hfz17_2 hfz17_3); have hcz21_0 : w20.cell? ⟨gb, 0, none⟩ = some (.int .i64 ta) := (blk_cell BK.out 0).trans rfl; have hcz21_1 : w20.cell? ⟨gb, 1, none⟩ = some (u1) := (blk_cell BK.out 1).trans rfl; have hcz21_2 : w20.cell? ⟨gb, 2, none⟩ = some (u2) := (blk_cell BK.out 2).trans rfl; have hcz21_3 : w20.cell? ⟨gb, 3, none⟩ = some (u3) := (blk_cell BK.out 3).trans rfl; have hfz21_0 := blk_frozen BK.out 0; have hfz21_1 := blk_frozen BK.out 1; have hfz21_2 := blk_frozen BK.out 2; have hfz21_3 := blk_frozen BK.out 3; (have p9 : 0 ≤ (0 : Int) := by omega); (have q9 : (0 : Int) < (tR.length : Int) := C4.out); obtain ⟨g9, d9, e9, gb9, gl9, cl9, HG9⟩ := Kd.R_form HO1.out (by omega); subst e9; obtain ⟨hx9_0, hf9_0⟩ := Kd.R_celln 0 HO1.out 0 p9 q9; (try rw [show ((0 : Int)).toNat = 0 from rfl] at hx9_0 hf9_0); (have q10 : 0 < tR.length := by omega); replace p9 := eq_true p9; replace q9 := eq_true q9; replace q10 := eq_true q10))
      refine bodyPost_ret (results_list (rs := [.tmp 6, .tmp 7, .tmp 8, .tmp 9]) rfl (by simp) (.tmp (.tmp (.tmp (.tmp .nil))))) rfl ?_
      exact ⟨_, by first | rfl | simp | (simp [*]; done), by (with_reducible repeat (first | apply Kd.R_alloc | apply Kd.R_drewN | apply Kd.R_drew)); exact Kd.R_mono HOT.out (fun _ _ => trivial), by repeat (first | (with_reducible first | exact HB.out | apply below_alloc | apply pw_below_drewN | apply below_drew1 | refine below_set ?_ GE.out) | exact HB.out)⟩
     | false =>
      rw [if_neg Bool.false_ne_true] at h
      have H' := Aside0.mk h
      clear h
      go_wp2_with (first | ((with_reducible refine gate_builtin (b := .append) (xs := #[.tmp 24, .tmp 26]) rfl ?_); at_builtin; refine Kd.R_append (Kd.int .i64) (w0 := w) w.heap.size rfl (.tmp 24) (.tmp 26) 37 3 (.int .i64 0) 8 rfl Try.underlying37 info3 rfl (by decide) (by omega) (.slice Ao xt.length co) xt xa [.int .i64 xa] (fun k_ => some k_ ≠ (u1 : Value).ownBlock ∧ some k_ ≠ (u2 : Value).ownBlock) (fun _ => False) rfl rfl ?aP (fun _ hk => hk.elim) ?aF ?aO ?aB ?aS ?aL ?_; (case aP => exact rfl); (case aB => exact (by repeat (first | (with_reducible first | exact HB.out | apply below_alloc | apply pw_below_drewN | apply below_drew1 | refine below_set ?_ GE.out) | exact HB.out))); (case aF => exact (fun k_ hk => ⟨Kd.fresh' (Kd.R_lt (zR_ HO1.out)) k_ hk, Kd.fresh' (Kd.R_lt (zR_ HO2.out)) k_ hk⟩)); (case aO => exact (zR_ HOT.out)); (case aS => exact (below_size (by repeat (first | (with_reducible first | exact HB.out | apply below_alloc | apply pw_below_drewN | apply below_drew1 | refine below_set ?_ GE.out) | exact HB.out)))); (case aL => have := LM.out; omega); intro v27 w16 ho hb hg hat; rw [← NY.out] at ho; have n0_ := Aside0.mk (Kd.R_after (ok := (fun k_ => some k_ ≠ (u2 : Value).ownBlock)) (by (with_reducible repeat (first | apply Kd.R_alloc | apply Kd.R_drewN | apply Kd.R_drew)); exact Kd.R_mono HO1.out (fun _ hk => ⟨hk.2, hk.1⟩)) hg hat); have n1_ := Aside0.mk (Kd.R_after (ok := (fun k_ => some k_ ≠ (u1 : Value).ownBlock)) (by (with_reducible repeat (first | apply Kd.R_alloc | apply Kd.R_drewN | apply Kd.R_drew)); exact Kd.R_mono HO2.out (fun _ hk => ⟨hk.2, hk.1⟩)) hg hat); have n2_ := Aside0.mk (Kd.R_over' (zR_ HO3.out) (Kd.R_typed (zR_ HOT.out)) (by decide) hg); have n3_ := Aside0.mk (blk_grown (g := gb) (o := .cells #[.int .i64 xa, u1, u2, u3] 116 (0, 0)) (zO_ BK.out) hg (Kd.R_ne HOT.out BK.out (by decide))); have n4_ := Aside0.mk (hb); have n5_ := Aside0.mk (ho); clear HO1 HO2 HO3 BK HB HOT; have HO1 := n0_; have HO2 := n1_; have HO3 := n2_; have BK := n3_; have HB := n4_; have HOT := n5_; clear n0_ n1_ n2_ n3_ n4_ n5_; clear ho hb hg hat; have hcz17_0 : w16.cell? ⟨gb, 0, none⟩ = some (.int .i64 xa) := (blk_cell BK.out 0).trans rfl; have hcz17_1 : w16.cell? ⟨gb, 1, none⟩ = some (u1) := (blk_cell BK.out 1).trans rfl; have hcz17_2 : w16.cell? ⟨gb, 2, none⟩ = some (u2) := (blk_cell BK.out 2).trans rfl; have hcz17_3 : w16.cell? ⟨gb, 3, none⟩ = some (u3) := (blk_cell BK.out 3).trans rfl; have hfz17_0 := blk_frozen BK.out 0; have hfz17_1 := blk_frozen BK.out 1; have hfz17_2 := blk_frozen BK.out 2; have hfz17_3 := blk_frozen BK.out 3) | (go_at_call 96; (with_reducible refine (impl_Machine_step.calls k1 gb xa (fun k_ => some k_ = (u1 : Value).ownBlock) u1 xR (fun k_ => some k_ = (u2 : Value).ownBlock) u2 xC (fun k_ => some k_ = (u3 : Value).ownBlock) u3 xB _ _ l0 _ _ l1 0 false ta tR tC tB w _ ?s1 GE.out ?s3 ?s4 ?s5 ?s6 ?s7 ?s8 ?s9 HC0.out ?s11 HC1.out G5.out).mono ?_); (case s1 => (with_reducible repeat (first | refine blk_drewN ?_ _ | refine blk_drew ?_ | refine blk_alloc ?_ _)); exact BK.out); (case s3 => exact (by repeat (first | (with_reducible first | exact HB.out | apply below_alloc | apply pw_below_drewN | apply below_drew1 | refine below_set ?_ GE.out) | exact HB.out))); (case s4 => exact R_me_ (zR_ HO1.out)); (case s5 => exact (fun k_ e_ h_ => (HO1.out.1 k_ e_.symm).1 h_)); (case s6 => exact R_me_ (zR_ HO2.out)); (case s7 => exact (fun k_ e_ h_ => (HO2.out.1 k_ e_.symm).1 h_)); (case s8 => exact R_me_ (zR_ HO3.out)); (case s9 => exact Kd.C_kept_came k26_heap HR0.out (by repeat (first | (with_reducible first | exact HB.out | apply below_alloc | apply pw_below_drewN | apply below_drew1 | refine below_set ?_ GE.out) | exact HB.out)) (fun k_ hs_ => hs_.elim (fun e_ => e_.elim (fun e_ => Kd.R_base HO1.out k_ e_.symm) (fun e_ => e_.elim (fun e_ => Kd.R_base HO2.out k_ e_.symm) (fun e_ => Kd.R_base HO3.out k_ e_.symm))) (fun e_ => by rw [e_]; exact GE.out))); (case s11 => exact Kd.C_kept_came (Kd.heap_int .i64) HR1.out (by repeat (first | (with_reducible first | exact HB.out | apply below_alloc | apply pw_below_drewN | apply below_drew1 | refine below_set ?_ GE.out) | exact HB.out)) (fun k_ hs_ => hs_.elim (fun e_ => e_.elim (fun e_ => Kd.R_base HO1.out k_ e_.symm) (fun e_ => e_.elim (fun e_ => Kd.R_base HO2.out k_ e_.symm) (fun e_ => Kd.R_base HO3.out k_ e_.symm))) (fun e_ => by rw [e_]; exact GE.out))); rintro e w20 ⟨rfl, hbx, ho1, ho2, ho3, hb, hkp⟩; have n0_ := Aside0.mk (R_as_ HO1.out ho1); have n1_ := Aside0.mk (R_as_ HO2.out ho2); have n2_ := Aside0.mk (R_as_ HO3.out ho3); have n5_ := Aside0.mk (Kd.R_mono (Kd.R_kept (Kd.R_types (Kd.R_apart' (zR_ HOT.out) (Kd.R_typed (zR_ HO3.out)) (by decide)) (zO_ BK.out) (by decide)) hkp (fun k_ hk hs_ => hs_.elim (fun e_ => e_.elim hk.1.1.1 (fun e_ => e_.elim hk.1.1.2 hk.1.2)) hk.2)) (fun _ hk => hk.1.1)); clear HO1 HO2 HO3 BK HB HOT; have HO1 := n0_; have HO2 := n1_; have HO3 := n2_; have BK := Aside0.mk hbx; have HB := Aside0.mk hb; have HOT := n5_; clear n0_ n1_ n2_ n5_; clear hbx ho1 ho2 ho3 hb hkp; (try clear hcz17_0 hcz17_1 hcz17_2 hcz17_3 hfz17_0 hfz17_1 hfz17_2 hfz17_3); have hcz21_0 : w20.cell? ⟨gb, 0, none⟩ = some (.int .i64 ta) := (blk_cell BK.out 0).trans rfl; have hcz21_1 : w20.cell? ⟨gb, 1, none⟩ = some (u1) := (blk_cell BK.out 1).trans rfl; have hcz21_2 : w20.cell? ⟨gb, 2, none⟩ = some (u2) := (blk_cell BK.out 2).trans rfl; have hcz21_3 : w20.cell? ⟨gb, 3, none⟩ = some (u3) := (blk_cell BK.out 3).trans rfl; have hfz21_0 := blk_frozen BK.out 0; have hfz21_1 := blk_frozen BK.out 1; have hfz21_2 := blk_frozen BK.out 2; have hfz21_3 := blk_frozen BK.out 3))
      go_roundg k1
      case measure => have := HK1.out; omega
      case rel => exact ⟨y, ta, tR, tC, tB, u1, u2, u3, H', ⟨by have := HK1.out; omega⟩, ⟨zR_ HOT.out⟩, ⟨by (with_reducible repeat (first | apply Kd.R_alloc | apply Kd.R_drewN | apply Kd.R_drew)); exact Kd.R_mono HO1.out (fun _ hk => ⟨hk.2, hk.1⟩)⟩, ⟨by (with_reducible repeat (first | apply Kd.R_alloc | apply Kd.R_drewN | apply Kd.R_drew)); exact Kd.R_mono HO2.out (fun _ hk => ⟨hk.2, hk.1⟩)⟩, ⟨zR_ HO3.out⟩, ⟨zO_ BK.out⟩, ⟨by repeat (first | (with_reducible first | exact HB.out | apply below_alloc | apply pw_below_drewN | apply below_drew1 | refine below_set ?_ GE.out) | exact HB.out)⟩⟩
    rw [if_neg c3] at h
    have c3b0 : (tf == 0) = false := beq_eq_false_iff_ne.mpr c3
    have c3b1 : (tf != 0) = true := bne_iff_ne.mpr c3
    clear c3
    simp only [Option.some.injEq, Prod.mk.injEq] at h
    obtain ⟨rfl, rfl, rfl, rfl⟩ := h
    go_wp2_with (first | ((with_reducible refine gate_builtin (b := .append) (xs := #[.tmp 24, .tmp 26]) rfl ?_); at_builtin; refine Kd.R_append (Kd.int .i64) (w0 := w) w.heap.size rfl (.tmp 24) (.tmp 26) 37 3 (.int .i64 0) 8 rfl Try.underlying37 info3 rfl (by decide) (by omega) (.slice Ao xt.length co) xt xa [.int .i64 xa] (fun k_ => some k_ ≠ (u1 : Value).ownBlock ∧ some k_ ≠ (u2 : Value).ownBlock) (fun _ => False) rfl rfl ?aP (fun _ hk => hk.elim) ?aF ?aO ?aB ?aS ?aL ?_; (case aP => exact rfl); (case aB => exact (by repeat (first | (with_reducible first | exact HB.out | apply below_alloc | apply pw_below_drewN | apply below_drew1 | refine below_set ?_ GE.out) | exact HB.out))); (case aF => exact (fun k_ hk => ⟨Kd.fresh' (Kd.R_lt (zR_ HO1.out)) k_ hk, Kd.fresh' (Kd.R_lt (zR_ HO2.out)) k_ hk⟩)); (case aO => exact (zR_ HOT.out)); (case aS => exact (below_size (by repeat (first | (with_reducible first | exact HB.out | apply below_alloc | apply pw_below_drewN | apply below_drew1 | refine below_set ?_ GE.out) | exact HB.out)))); (case aL => have := LM.out; omega); intro v27 w16 ho hb hg hat; rw [← NY.out] at ho; have n0_ := Aside0.mk (Kd.R_after (ok := (fun k_ => some k_ ≠ (u2 : Value).ownBlock)) (by (with_reducible repeat (first | apply Kd.R_alloc | apply Kd.R_drewN | apply Kd.R_drew)); exact Kd.R_mono HO1.out (fun _ hk => ⟨hk.2, hk.1⟩)) hg hat); have n1_ := Aside0.mk (Kd.R_after (ok := (fun k_ => some k_ ≠ (u1 : Value).ownBlock)) (by (with_reducible repeat (first | apply Kd.R_alloc | apply Kd.R_drewN | apply Kd.R_drew)); exact Kd.R_mono HO2.out (fun _ hk => ⟨hk.2, hk.1⟩)) hg hat); have n2_ := Aside0.mk (Kd.R_over' (zR_ HO3.out) (Kd.R_typed (zR_ HOT.out)) (by decide) hg); have n3_ := Aside0.mk (blk_grown (g := gb) (o := .cells #[.int .i64 xa, u1, u2, u3] 116 (0, 0)) (zO_ BK.out) hg (Kd.R_ne HOT.out BK.out (by decide))); have n4_ := Aside0.mk (hb); have n5_ := Aside0.mk (ho); clear HO1 HO2 HO3 BK HB HOT; have HO1 := n0_; have HO2 := n1_; have HO3 := n2_; have BK := n3_; have HB := n4_; have HOT := n5_; clear n0_ n1_ n2_ n3_ n4_ n5_; clear ho hb hg hat; have hcz17_0 : w16.cell? ⟨gb, 0, none⟩ = some (.int .i64 xa) := (blk_cell BK.out 0).trans rfl; have hcz17_1 : w16.cell? ⟨gb, 1, none⟩ = some (u1) := (blk_cell BK.out 1).trans rfl; have hcz17_2 : w16.cell? ⟨gb, 2, none⟩ = some (u2) := (blk_cell BK.out 2).trans rfl; have hcz17_3 : w16.cell? ⟨gb, 3, none⟩ = some (u3) := (blk_cell BK.out 3).trans rfl; have hfz17_0 := blk_frozen BK.out 0; have hfz17_1 := blk_frozen BK.out 1; have hfz17_2 := blk_frozen BK.out 2; have hfz17_3 := blk_frozen BK.out 3) | (go_at_call 96; (with_reducible refine (impl_Machine_step.calls k1 gb xa (fun k_ => some k_ = (u1 : Value).ownBlock) u1 xR (fun k_ => some k_ = (u2 : Value).ownBlock) u2 xC (fun k_ => some k_ = (u3 : Value).ownBlock) u3 xB _ _ l0 _ _ l1 tf te ta tR tC tB w _ ?s1 GE.out ?s3 ?s4 ?s5 ?s6 ?s7 ?s8 ?s9 HC0.out ?s11 HC1.out G5.out).mono ?_); (case s1 => (with_reducible repeat (first | refine blk_drewN ?_ _ | refine blk_drew ?_ | refine blk_alloc ?_ _)); exact BK.out); (case s3 => exact (by repeat (first | (with_reducible first | exact HB.out | apply below_alloc | apply pw_below_drewN | apply below_drew1 | refine below_set ?_ GE.out) | exact HB.out))); (case s4 => exact R_me_ (zR_ HO1.out)); (case s5 => exact (fun k_ e_ h_ => (HO1.out.1 k_ e_.symm).1 h_)); (case s6 => exact R_me_ (zR_ HO2.out)); (case s7 => exact (fun k_ e_ h_ => (HO2.out.1 k_ e_.symm).1 h_)); (case s8 => exact R_me_ (zR_ HO3.out)); (case s9 => exact Kd.C_kept_came k26_heap HR0.out (by repeat (first | (with_reducible first | exact HB.out | apply below_alloc | apply pw_below_drewN | apply below_drew1 | refine below_set ?_ GE.out) | exact HB.out)) (fun k_ hs_ => hs_.elim (fun e_ => e_.elim (fun e_ => Kd.R_base HO1.out k_ e_.symm) (fun e_ => e_.elim (fun e_ => Kd.R_base HO2.out k_ e_.symm) (fun e_ => Kd.R_base HO3.out k_ e_.symm))) (fun e_ => by rw [e_]; exact GE.out))); (case s11 => exact Kd.C_kept_came (Kd.heap_int .i64) HR1.out (by repeat (first | (with_reducible first | exact HB.out | apply below_alloc | apply pw_below_drewN | apply below_drew1 | refine below_set ?_ GE.out) | exact HB.out)) (fun k_ hs_ => hs_.elim (fun e_ => e_.elim (fun e_ => Kd.R_base HO1.out k_ e_.symm) (fun e_ => e_.elim (fun e_ => Kd.R_base HO2.out k_ e_.symm) (fun e_ => Kd.R_base HO3.out k_ e_.symm))) (fun e_ => by rw [e_]; exact GE.out))); rintro e w20 ⟨rfl, hbx, ho1, ho2, ho3, hb, hkp⟩; have n0_ := Aside0.mk (R_as_ HO1.out ho1); have n1_ := Aside0.mk (R_as_ HO2.out ho2); have n2_ := Aside0.mk (R_as_ HO3.out ho3); have n5_ := Aside0.mk (Kd.R_mono (Kd.R_kept (Kd.R_types (Kd.R_apart' (zR_ HOT.out) (Kd.R_typed (zR_ HO3.out)) (by decide)) (zO_ BK.out) (by decide)) hkp (fun k_ hk hs_ => hs_.elim (fun e_ => e_.elim hk.1.1.1 (fun e_ => e_.elim hk.1.1.2 hk.1.2)) hk.2)) (fun _ hk => hk.1.1)); clear HO1 HO2 HO3 BK HB HOT; have HO1 := n0_; have HO2 := n1_; have HO3 := n2_; have BK := Aside0.mk hbx; have HB := Aside0.mk hb; have HOT := n5_; clear n0_ n1_ n2_ n5_; clear hbx ho1 ho2 ho3 hb hkp; (try clear hcz17_0 hcz17_1 hcz17_2 hcz17_3 hfz17_0 hfz17_1 hfz17_2 hfz17_3); have hcz21_0 : w20.cell? ⟨gb, 0, none⟩ = some (.int .i64 ta) := (blk_cell BK.out 0).trans rfl; have hcz21_1 : w20.cell? ⟨gb, 1, none⟩ = some (u1) := (blk_cell BK.out 1).trans rfl; have hcz21_2 : w20.cell? ⟨gb, 2, none⟩ = some (u2) := (blk_cell BK.out 2).trans rfl; have hcz21_3 : w20.cell? ⟨gb, 3, none⟩ = some (u3) := (blk_cell BK.out 3).trans rfl; have hfz21_0 := blk_frozen BK.out 0; have hfz21_1 := blk_frozen BK.out 1; have hfz21_2 := blk_frozen BK.out 2; have hfz21_3 := blk_frozen BK.out 3))
    refine bodyPost_ret (results_list (rs := [.tmp 6, .tmp 7, .tmp 8, .tmp 9]) rfl (by simp) (.tmp (.tmp (.tmp (.tmp .nil))))) rfl ?_
    exact ⟨_, by first | rfl | simp | (simp [*]; done), by (with_reducible repeat (first | apply Kd.R_alloc | apply Kd.R_drewN | apply Kd.R_drew)); exact Kd.R_mono HOT.out (fun _ _ => trivial), by repeat (first | (with_reducible first | exact HB.out | apply below_alloc | apply pw_below_drewN | apply below_drew1 | refine below_set ?_ GE.out) | exact HB.out)⟩
   rw [if_neg c2] at h
   cases h
def impl_TraceOf.j0 : Nat → List (S26) → List Int → Bool → Option (List Int × Int × Bool)
 | 0, _, _, _ => none
 | k + 1, x0, x1, x18 => if x18 = true then (some (([] : List Int), 0, false)) else ((impl_run.f k x0 x1 100).bind fun bt276 => (some (bt276.2.2.2, bt276.2.1, true)))
def impl_TraceOf.f (k : Nat) (l0 : List (S26)) (l1 : List Int) : Option (List Int × Int × Bool) := (impl_GoodProgram.f k l0).bind fun t274 => (if t274 = true then ((impl_isContext.f l1).bind fun t275 => (impl_TraceOf.j0 k l0 l1 (!t275))) else (impl_TraceOf.j0 k l0 l1 true))
theorem impl_TraceOf.mono_l : ∀ k, (∀ y0 y1 y2, LeO (impl_TraceOf.j0 k y0 y1 y2) (impl_TraceOf.j0 (k + 1) y0 y1 y2))
 | 0 => fun _ _ _ r h => by simp [impl_TraceOf.j0] at h
 | k + 1 => by
  have ih0 := impl_TraceOf.mono_l k
  ·intro y0 y1 y2
   unfold impl_TraceOf.j0
   repeat' first
   | (with_reducible exact ih0 _ _ _)
   | (with_reducible exact impl_GoodProgram.mono _ _)
   | (with_reducible exact impl_run.mono _ _ _ _)
   | (with_reducible exact LeO.refl _)
   | (with_reducible exact LeO.none _)
   | (with_reducible refine LeO.ite ?_ ?_)
   | (with_reducible refine LeO.bind ?_ (fun _ => ?_))
   | exact ih0 _ _ _
   | exact impl_GoodProgram.mono _ _
   | exact impl_run.mono _ _ _ _
   | exact LeO.none _
   | refine LeO.ite ?_ ?_
   | refine LeO.bind ?_ (fun _ => ?_)
theorem impl_TraceOf.mono : ∀ a0 a1 k, LeO (impl_TraceOf.f k a0 a1) (impl_TraceOf.f (k + 1) a0 a1) := by
 intro a0 a1 k
 have ih0 := impl_TraceOf.mono_l k
 unfold impl_TraceOf.f
 repeat' first
   | (with_reducible exact ih0 _ _ _)
   | (with_reducible exact impl_GoodProgram.mono _ _)
   | (with_reducible exact impl_run.mono _ _ _ _)
   | (with_reducible exact LeO.refl _)
   | (with_reducible exact LeO.none _)
   | (with_reducible refine LeO.ite ?_ ?_)
   | (with_reducible refine LeO.bind ?_ (fun _ => ?_))
   | exact ih0 _ _ _
   | exact impl_GoodProgram.mono _ _
   | exact impl_run.mono _ _ _ _
   | exact LeO.none _
   | refine LeO.ite ?_ ?_
   | refine LeO.bind ?_ (fun _ => ?_)
set_option maxHeartbeats 8000000 in
set_option maxRecDepth 100000 in
theorem impl_TraceOf.calls (k : Nat) (A0 : Option Addr) (c0 : Nat) (l0 : List (S26)) (A1 : Option Addr) (c1 : Nat) (l1 : List Int) (r1 : List Int) (r2 : Int) (r3 : Bool) (w : World) (hr0 : Kd.C k26 w A0 l0.length l0) (hc0 : l0.length ≤ c0) (hr1 : Kd.C (Kd.int .i64) w A1 l1.length l1) (hc1 : l1.length ≤ c1) (h : impl_TraceOf.f k l0 l1 = some (r1, r2, r3)) :
  Calls Try.prog 53 #[.slice A0 l0.length c0, .slice A1 l1.length c1] w fun e w' => ∃ v0_ : Value, e = .returned (.tuple #[v0_, .int .i64 r2, .bool r3]) ∧ Kd.R (Kd.int .i64) 3 w' w.heap.size (fun _ => True) v0_ r1 ∧ Below w.heap.size w w' := by
 have HR0 := Aside0.mk hr0
 have HC0 := Aside0.mk hc0
 clear hr0 hc0
 have HR1 := Aside0.mk hr1
 have HC1 := Aside0.mk hc1
 clear hr1 hc1
 have HB := Aside0.mk (Below.refl w.heap.size w)
 have H : ((impl_GoodProgram.f k l0).bind fun t274 => (if t274 = true then ((impl_isContext.f l1).bind fun t275 => (impl_TraceOf.j0 k l0 l1 (!t275))) else (impl_TraceOf.j0 k l0 l1 true))) = some (r1, r2, r3) := h
 clear h
 have HC3 := Aside0.mk H
 clear H
 go_enter Try.func53, Try.ntmps53
 go_upto_region 1 with (fail)
 go_cut [18] (fun v18 wc => ∃ (kq : Nat) (x18_2 : Bool), v18 = .bool x18_2 ∧ Aside0 (impl_TraceOf.j0 kq l0 l1 x18_2 = some (r1, r2, r3)) ∧ Aside0 (kq ≤ k) ∧ Aside0 (Below w.heap.size w wc))
 case first => as_aux_lemma =>
  have H := HC3.out
  clear HC3
  replace H := Option.bind_eq_some_iff.mp H
  obtain ⟨t274, A40, H⟩ := H
  (try dsimp only at H)
  have A4 := Aside0.mk A40
  clear A40
  by_cases c5 : t274 = true
  ·subst c5
   have H1 : ((impl_isContext.f l1).bind fun t275 => (impl_TraceOf.j0 k l0 l1 (!t275))) = some (r1, r2, r3) := by rw [if_pos rfl] at H; exact H
   clear H
   have H := H1
   clear H1
   replace H := Option.bind_eq_some_iff.mp H
   obtain ⟨t275, A60, H⟩ := H
   (try dsimp only at H)
   have A6 := Aside0.mk A60
   clear A60
   have H' := Aside0.mk H
   clear H
   go_wp2_with (first | ((with_reducible refine gate_callee (f := 20) rfl ?_); refine goesL_ (some 12) rfl rfl Try.func20 (by kernel_rfl) rfl #[.slice A0 l0.length c0] rfl (by simp only [zA_, zB_, zD_] <;> rfl) ?_; (with_reducible refine (impl_GoodProgram.calls k _ _ l0 true _ ?side1 ?side2 A4.out).mono ?_); (case side1 => exact zC_ (Kd.C_below HR0.out HB.out)); (case side2 => exact HC0.out); rintro e w7 ⟨rfl, hb⟩; refine ⟨_, rfl, ?_⟩; have n0_ := Aside0.mk (below_step (zb_ HB.out) hb); clear HB; have HB := n0_; clear n0_; (try clear hb); (try clear hb2); (try clear hk); (try clear hi)) | (go_at_call 76; (with_reducible refine (impl_isContext.calls _ _ l1 t275 _ ?side1 ?side2 A6.out).mono ?_); (case side1 => exact zC_ (Kd.C_below HR1.out HB.out)); (case side2 => exact HC1.out); rintro e w8 ⟨rfl, hb⟩; have n0_ := Aside0.mk (below_step (zb_ HB.out) hb); clear HB; have HB := n0_; clear n0_; (try clear hb); (try clear hb2); (try clear hk); (try clear hi)))
   go_meet
   case rel => exact ⟨_, (!t275), (by first | rfl | (simp; done) | (simp [*]; done)), H', ⟨by first | omega | exact Nat.le_refl _⟩, ⟨zb_ HB.out⟩⟩
  ·replace c5 := Bool.eq_false_iff.mpr c5
   subst c5
   have H1 : (impl_TraceOf.j0 k l0 l1 true) = some (r1, r2, r3) := by rw [if_neg (show ¬ (false = true) by decide)] at H; exact H
   clear H
   have H := H1
   clear H1
   have H' := Aside0.mk H
   clear H
   go_wp2_with (first | ((with_reducible refine gate_callee (f := 20) rfl ?_); refine goesL_ (some 12) rfl rfl Try.func20 (by kernel_rfl) rfl #[.slice A0 l0.length c0] rfl (by simp only [zA_, zB_, zD_] <;> rfl) ?_; (with_reducible refine (impl_GoodProgram.calls k _ _ l0 false _ ?side1 ?side2 A4.out).mono ?_); (case side1 => exact zC_ (Kd.C_below HR0.out HB.out)); (case side2 => exact HC0.out); rintro e w9 ⟨rfl, hb⟩; refine ⟨_, rfl, ?_⟩; have n0_ := Aside0.mk (below_step (zb_ HB.out) hb); clear HB; have HB := n0_; clear n0_; (try clear hb); (try clear hb2); (try clear hk); (try clear hi)))
   go_meet
   case rel => exact ⟨_, (true), (by first | rfl | (simp; done) | (simp [*]; done)), H', ⟨by first | omega | exact Nat.le_refl _⟩, ⟨zb_ HB.out⟩⟩
 case rest => as_aux_lemma =>
  clear HC3
  try clear c1
  try clear c2
  try clear p2
  try clear c5
  obtain ⟨kq, x18_2, rfl, HA, HJ2, HB⟩ := hcut
  cases kq with
  | zero => exact absurd HA.out (by simp [impl_TraceOf.j0])
  | succ kj2 =>
   have H := HA.out
   clear HA
   simp only [impl_TraceOf.j0] at H
   by_cases c10 : x18_2 = true
   ·subst c10
    have H1 : (some (([] : List Int), 0, false)) = some (r1, r2, r3) := by rw [if_pos rfl] at H; exact H
    clear H
    have H := H1
    clear H1
    simp only [Option.some.injEq, Prod.mk.injEq] at H
    obtain ⟨rfl, rfl, rfl⟩ := H
    go_wp2
    go_ret3
    exact ⟨_, by first | rfl | (simp [errW_none, errW_some] <;> rfl) | (simp [*, errW_none, errW_some] <;> rfl), by first | exact Kd.R_nil _ _ _ _ _ | exact Kd.N_nil _ _ _ _ _ | exact Kd.V_nil _ _ _ _ _ | exact Kd.Q_nil _ _ _ _ _ | exact Kd.S_nil _ _ _ _ _, zb_ HB.out⟩
   ·replace c10 := Bool.eq_false_iff.mpr c10
    subst c10
    have H1 : ((impl_run.f kj2 l0 l1 100).bind fun bt276 => (some (bt276.2.2.2, bt276.2.1, true))) = some (r1, r2, r3) := by rw [if_neg (show ¬ (false = true) by decide)] at H; exact H
    clear H
    have H := H1
    clear H1
    replace H := Option.bind_eq_some_iff.mp H
    obtain ⟨⟨t276, t277, t278, t279⟩, A110, H⟩ := H
    (try dsimp only at H)
    have A11 := Aside0.mk A110
    clear A110
    simp only [Option.some.injEq, Prod.mk.injEq] at H
    obtain ⟨rfl, rfl, rfl⟩ := H
    go_wp2_with (first | ((with_reducible refine gate_callee (f := 77) rfl ?_); refine goesL_ (some 22) rfl rfl Try.func77 (by kernel_rfl) rfl #[.slice A0 l0.length c0, .slice A1 l1.length c1, .int .i64 100] rfl (by simp only [zA_, zB_, zD_] <;> rfl) ?_; (with_reducible refine (impl_run.calls kj2 _ _ l0 _ _ l1 100 t276 t277 t278 t279 _ ?side1 ?side2 ?side3 ?side4 A11.out).mono ?_); (case side1 => exact zC_ (Kd.C_below HR0.out HB.out)); (case side2 => exact HC0.out); (case side3 => exact zC_ (Kd.C_below HR1.out HB.out)); (case side4 => exact HC1.out); rintro e w12 ⟨v280, rfl, ho0, hb⟩; refine ⟨_, rfl, ?_⟩; have n0_ := Aside0.mk (Kd.R_lower ho0 (below_size (zb_ HB.out))); have n1_ := Aside0.mk (below_step (zb_ HB.out) hb); clear HB; have HO281 := n0_; have HB := n1_; clear n0_ n1_; (try clear hb); (try clear hb2); (try clear hk); (try clear hi); (try clear ho0)))
    go_ret3
    exact ⟨_, by first | rfl | (simp [errW_none, errW_some] <;> rfl) | (simp [*, errW_none, errW_some] <;> rfl), zR_ HO281.out, zb_ HB.out⟩
def impl_FaultFree.f (k : Nat) (l0 : List (S26)) (l1 : List Int) : Option (Bool × Bool) := (impl_TraceOf.f k l0 l1).bind fun bt282 => (if bt282.2.2 = true then (some ((bt282.2.1 == 0), bt282.2.2)) else (some (false, bt282.2.2)))
theorem impl_FaultFree.mono : ∀ a0 a1 k, LeO (impl_FaultFree.f k a0 a1) (impl_FaultFree.f (k + 1) a0 a1) := by
 intro a0 a1 k
 unfold impl_FaultFree.f
 repeat' first
   | (with_reducible exact impl_TraceOf.mono _ _ _)
   | (with_reducible exact LeO.refl _)
   | (with_reducible exact LeO.none _)
   | (with_reducible refine LeO.ite ?_ ?_)
   | (with_reducible refine LeO.bind ?_ (fun _ => ?_))
   | exact impl_TraceOf.mono _ _ _
   | exact LeO.none _
   | refine LeO.ite ?_ ?_
   | refine LeO.bind ?_ (fun _ => ?_)
set_option maxHeartbeats 8000000 in
set_option maxRecDepth 100000 in
theorem impl_FaultFree.calls (k : Nat) (A0 : Option Addr) (c0 : Nat) (l0 : List (S26)) (A1 : Option Addr) (c1 : Nat) (l1 : List Int) (r1 : Bool) (r2 : Bool) (w : World) (hr0 : Kd.C k26 w A0 l0.length l0) (hc0 : l0.length ≤ c0) (hr1 : Kd.C (Kd.int .i64) w A1 l1.length l1) (hc1 : l1.length ≤ c1) (h : impl_FaultFree.f k l0 l1 = some (r1, r2)) :
  Calls Try.prog 51 #[.slice A0 l0.length c0, .slice A1 l1.length c1] w fun e w' => e = .returned (.tuple #[.bool r1, .bool r2]) ∧ Below w.heap.size w w' := by
 have HR0 := Aside0.mk hr0
 have HC0 := Aside0.mk hc0
 clear hr0 hc0
 have HR1 := Aside0.mk hr1
 have HC1 := Aside0.mk hc1
 clear hr1 hc1
 have HB := Aside0.mk (Below.refl w.heap.size w)
 have H : ((impl_TraceOf.f k l0 l1).bind fun bt282 => (if bt282.2.2 = true then (some ((bt282.2.1 == 0), bt282.2.2)) else (some (false, bt282.2.2)))) = some (r1, r2) := h
 clear h
 replace H := Option.bind_eq_some_iff.mp H
 obtain ⟨⟨t282, t283, t284⟩, A30, H⟩ := H
 (try dsimp only at H)
 have A3 := Aside0.mk A30
 clear A30
 by_cases c4 : t284 = true
 ·subst c4
  have H1 : (some ((t283 == 0), true)) = some (r1, r2) := by rw [if_pos rfl] at H; exact H
  clear H
  have H := H1
  clear H1
  simp only [Option.some.injEq, Prod.mk.injEq] at H
  obtain ⟨rfl, rfl⟩ := H
  go_enter Try.func51, Try.ntmps51
  go_wp2_with (first | ((with_reducible refine gate_callee (f := 53) rfl ?_); refine goesL_ (some 12) rfl rfl Try.func53 (by kernel_rfl) rfl #[.slice A0 l0.length c0, .slice A1 l1.length c1] rfl (by simp only [zA_, zB_, zD_] <;> rfl) ?_; (with_reducible refine (impl_TraceOf.calls k _ _ l0 _ _ l1 t282 t283 true _ ?side1 ?side2 ?side3 ?side4 A3.out).mono ?_); (case side1 => exact zC_ HR0.out); (case side2 => exact HC0.out); (case side3 => exact zC_ HR1.out); (case side4 => exact HC1.out); rintro e w5 ⟨v285, rfl, ho0, hb⟩; refine ⟨_, rfl, ?_⟩; have n0_ := Aside0.mk (Kd.R_lower ho0 (below_size (zb_ HB.out))); have n1_ := Aside0.mk (below_step (zb_ HB.out) hb); clear HB; have HO286 := n0_; have HB := n1_; clear n0_ n1_; (try clear hb); (try clear hb2); (try clear hk); (try clear hi); (try clear ho0)))
  go_ret2
  exact ⟨by first | rfl | (simp [errW_none, errW_some] <;> rfl) | (simp [*, errW_none, errW_some] <;> rfl), zb_ HB.out⟩
 ·replace c4 := Bool.eq_false_iff.mpr c4
  subst c4
  have H1 : (some (false, false)) = some (r1, r2) := by rw [if_neg (show ¬ (false = true) by decide)] at H; exact H
  clear H
  have H := H1
  clear H1
  simp only [Option.some.injEq, Prod.mk.injEq] at H
  obtain ⟨rfl, rfl⟩ := H
  go_enter Try.func51, Try.ntmps51
  go_wp2_with (first | ((with_reducible refine gate_callee (f := 53) rfl ?_); refine goesL_ (some 12) rfl rfl Try.func53 (by kernel_rfl) rfl #[.slice A0 l0.length c0, .slice A1 l1.length c1] rfl (by simp only [zA_, zB_, zD_] <;> rfl) ?_; (with_reducible refine (impl_TraceOf.calls k _ _ l0 _ _ l1 t282 t283 false _ ?side1 ?side2 ?side3 ?side4 A3.out).mono ?_); (case side1 => exact zC_ HR0.out); (case side2 => exact HC0.out); (case side3 => exact zC_ HR1.out); (case side4 => exact HC1.out); rintro e w6 ⟨v285, rfl, ho0, hb⟩; refine ⟨_, rfl, ?_⟩; have n0_ := Aside0.mk (Kd.R_lower ho0 (below_size (zb_ HB.out))); have n1_ := Aside0.mk (below_step (zb_ HB.out) hb); clear HB; have HO286 := n0_; have HB := n1_; clear n0_ n1_; (try clear hb); (try clear hb2); (try clear hk); (try clear hi); (try clear ho0)))
  go_ret2
  exact ⟨by first | rfl | (simp [errW_none, errW_some] <;> rfl) | (simp [*, errW_none, errW_some] <;> rfl), zb_ HB.out⟩
def laws_FnExactFaultFree.j0 : Nat → List (S23) → List Int → List (S26) → List Int → Bool → Option (Bool)
 | 0, _, _, _, _, _ => none
 | k + 1, x0, x1, x8, x9, x45 => if x45 = true then (none) else ((laws_toStepS.f k x0).bind fun t304 => ((laws_eqStepS.f k x8 t304).bind fun t307 => (if t307 = true then ((laws_toIntS.f k x1).bind fun t308 => ((laws_eqIntS.f k x9 t308).bind fun t311 => (if t311 = true then (some true) else (none)))) else (none))))
def laws_FnExactFaultFree.f (k : Nat) (l0 : List (S23)) (l1 : List Int) : Option (Bool) := if (l1.length : Int) > 1048576 then (some true) else ((laws_szStepS.f l0 1048576).bind fun t287 => (if t287 < 0 then (some true) else ((laws_toStepS.f k l0).bind fun t288 => ((laws_toIntS.f k l1).bind fun t291 => ((spec_FaultFree.f k t288 t291).bind fun bt294 => ((laws_toStepS.f k l0).bind fun t296 => ((laws_toIntS.f k l1).bind fun t299 => ((impl_FaultFree.f k t296 t299).bind fun bt302 => (if (bt302.1 != bt294.1) = true then (laws_FnExactFaultFree.j0 k l0 l1 t296 t299 true) else (laws_FnExactFaultFree.j0 k l0 l1 t296 t299 (bt302.2 != bt294.2)))))))))))
theorem laws_FnExactFaultFree.mono_l : ∀ k, (∀ y0 y1 y2 y3 y4, LeO (laws_FnExactFaultFree.j0 k y0 y1 y2 y3 y4) (laws_FnExactFaultFree.j0 (k + 1) y0 y1 y2 y3 y4))
 | 0 => fun _ _ _ _ _ r h => by simp [laws_FnExactFaultFree.j0] at h
 | k + 1 => by
  have ih0 := laws_FnExactFaultFree.mono_l k
  ·intro y0 y1 y2 y3 y4
   unfold laws_FnExactFaultFree.j0
   repeat' first
   | (with_reducible exact ih0 _ _ _ _ _)
   | (with_reducible exact impl_FaultFree.mono _ _ _)
   | (with_reducible exact laws_eqIntS.mono _ _ _)
   | (with_reducible exact laws_eqStepS.mono _ _ _)
   | (with_reducible exact laws_toIntS.mono _ _)
   | (with_reducible exact laws_toStepS.mono _ _)
   | (with_reducible exact spec_FaultFree.mono _ _ _)
   | (with_reducible exact LeO.refl _)
   | (with_reducible exact LeO.none _)
   | (with_reducible refine LeO.ite ?_ ?_)
   | (with_reducible refine LeO.bind ?_ (fun _ => ?_))
   | exact ih0 _ _ _ _ _
   | exact impl_FaultFree.mono _ _ _
   | exact laws_eqIntS.mono _ _ _
   | exact laws_eqStepS.mono _ _ _
   | exact laws_toIntS.mono _ _
   | exact laws_toStepS.mono _ _
   | exact spec_FaultFree.mono _ _ _
   | exact LeO.none _
   | refine LeO.ite ?_ ?_
   | refine LeO.bind ?_ (fun _ => ?_)
theorem laws_FnExactFaultFree.mono : ∀ a0 a1 k, LeO (laws_FnExactFaultFree.f k a0 a1) (laws_FnExactFaultFree.f (k + 1) a0 a1) := by
 intro a0 a1 k
 have ih0 := laws_FnExactFaultFree.mono_l k
 unfold laws_FnExactFaultFree.f
 repeat' first
   | (with_reducible exact ih0 _ _ _ _ _)
   | (with_reducible exact impl_FaultFree.mono _ _ _)
   | (with_reducible exact laws_eqIntS.mono _ _ _)
   | (with_reducible exact laws_eqStepS.mono _ _ _)
   | (with_reducible exact laws_toIntS.mono _ _)
   | (with_reducible exact laws_toStepS.mono _ _)
   | (with_reducible exact spec_FaultFree.mono _ _ _)
   | (with_reducible exact LeO.refl _)
   | (with_reducible exact LeO.none _)
   | (with_reducible refine LeO.ite ?_ ?_)
   | (with_reducible refine LeO.bind ?_ (fun _ => ?_))
   | exact ih0 _ _ _ _ _
   | exact impl_FaultFree.mono _ _ _
   | exact laws_eqIntS.mono _ _ _
   | exact laws_eqStepS.mono _ _ _
   | exact laws_toIntS.mono _ _
   | exact laws_toStepS.mono _ _
   | exact spec_FaultFree.mono _ _ _
   | exact LeO.none _
   | refine LeO.ite ?_ ?_
   | refine LeO.bind ?_ (fun _ => ?_)
set_option maxHeartbeats 8000000 in
set_option maxRecDepth 100000 in
theorem laws_FnExactFaultFree.calls (k : Nat) (A0 : Option Addr) (c0 : Nat) (l0 : List (S23)) (A1 : Option Addr) (c1 : Nat) (l1 : List Int) (r : Bool) (w : World) (hr0 : Kd.C k23 w A0 l0.length l0) (hc0 : l0.length ≤ c0) (hr1 : Kd.C (Kd.int .i64) w A1 l1.length l1) (hc1 : l1.length ≤ c1) (h : laws_FnExactFaultFree.f k l0 l1 = some r) :
  Calls Try.prog 12 #[.slice A0 l0.length c0, .slice A1 l1.length c1] w fun e w' => e = .returned (.bool r) ∧ Below w.heap.size w w' := by
 have HR0 := Aside0.mk hr0
 have HC0 := Aside0.mk hc0
 clear hr0 hc0
 have HR1 := Aside0.mk hr1
 have HC1 := Aside0.mk hc1
 clear hr1 hc1
 have HB := Aside0.mk (Below.refl w.heap.size w)
 have HTop := Aside0.mk (Nat.zero_le w.heap.size)
 have H : (if (l1.length : Int) > 1048576 then (some true) else ((laws_szStepS.f l0 1048576).bind fun t287 => (if t287 < 0 then (some true) else ((laws_toStepS.f k l0).bind fun t288 => ((laws_toIntS.f k l1).bind fun t291 => ((spec_FaultFree.f k t288 t291).bind fun bt294 => ((laws_toStepS.f k l0).bind fun t296 => ((laws_toIntS.f k l1).bind fun t299 => ((impl_FaultFree.f k t296 t299).bind fun bt302 => (if (bt302.1 != bt294.1) = true then (laws_FnExactFaultFree.j0 k l0 l1 t296 t299 true) else (laws_FnExactFaultFree.j0 k l0 l1 t296 t299 (bt302.2 != bt294.2)))))))))))) = some r := h
 clear h
 by_cases c3 : (l1.length : Int) > 1048576
 ·rw [if_pos c3] at H
  have c3b0 : decide (1048576 < (l1.length : Int)) = true := decide_eq_true c3
  have c3b1 : decide (1048576 < l1.length) = true := decide_eq_true (by omega)
  clear c3
  obtain rfl := Option.some.inj H
  go_enter Try.func12, Try.ntmps12
  go_wp2
  go_ret
  exact ⟨by first | rfl | (simp [errW_none, errW_some] <;> rfl) | (simp [*, errW_none, errW_some] <;> rfl), zb_ HB.out⟩
 rw [if_neg c3] at H
 have c3b0 : decide (1048576 < (l1.length : Int)) = false := decide_eq_false c3
 have c3b1 : decide (1048576 < l1.length) = false := decide_eq_false (by omega)
 clear c3
 replace H := Option.bind_eq_some_iff.mp H
 obtain ⟨t287, A40, H⟩ := H
 (try dsimp only at H)
 have A4 := Aside0.mk A40
 clear A40
 by_cases c5 : t287 < 0
 ·rw [if_pos c5] at H
  have c5b0 : decide (t287 < 0) = true := decide_eq_true c5
  clear c5
  obtain rfl := Option.some.inj H
  go_enter Try.func12, Try.ntmps12
  go_wp2_with (first | ((with_reducible refine gate_callee (f := 17) rfl ?_); refine goesL_ (some 17) rfl rfl Try.func17 (by kernel_rfl) rfl #[.slice A0 l0.length c0, .int .i64 1048576] rfl (by simp only [zA_, zB_, zD_] <;> rfl) ?_; (with_reducible refine (laws_szStepS.calls _ _ l0 1048576 t287 _ ?side1 ?side2 A4.out).mono ?_); (case side1 => exact zC_ HR0.out); (case side2 => exact HC0.out); rintro e w' ⟨rfl, ⟨nd, rfl⟩⟩; refine ⟨_, rfl, ?_⟩))
  go_ret
  exact ⟨by first | rfl | (simp [errW_none, errW_some] <;> rfl) | (simp [*, errW_none, errW_some] <;> rfl), zb_ HB.out⟩
 rw [if_neg c5] at H
 have c5b0 : decide (t287 < 0) = false := decide_eq_false c5
 clear c5
 replace H := Option.bind_eq_some_iff.mp H
 obtain ⟨t288, A60, H⟩ := H
 (try dsimp only at H)
 have A6 := Aside0.mk A60
 clear A60
 replace H := Option.bind_eq_some_iff.mp H
 obtain ⟨t291, A70, H⟩ := H
 (try dsimp only at H)
 have A7 := Aside0.mk A70
 clear A70
 replace H := Option.bind_eq_some_iff.mp H
 obtain ⟨⟨t294, t295⟩, A80, H⟩ := H
 (try dsimp only at H)
 have A8 := Aside0.mk A80
 clear A80
 replace H := Option.bind_eq_some_iff.mp H
 obtain ⟨t296, A90, H⟩ := H
 (try dsimp only at H)
 have A9 := Aside0.mk A90
 clear A90
 replace H := Option.bind_eq_some_iff.mp H
 obtain ⟨t299, A100, H⟩ := H
 (try dsimp only at H)
 have A10 := Aside0.mk A100
 clear A100
 replace H := Option.bind_eq_some_iff.mp H
 obtain ⟨⟨t302, t303⟩, A110, H⟩ := H
 (try dsimp only at H)
 have A11 := Aside0.mk A110
 clear A110
 have HC12 := Aside0.mk H
 clear H
 go_enter Try.func12, Try.ntmps12
 go_upto_region 11 with (first | ((with_reducible refine gate_callee (f := 17) rfl ?_); refine goesL_ (some 17) rfl rfl Try.func17 (by kernel_rfl) rfl #[.slice A0 l0.length c0, .int .i64 1048576] rfl (by simp only [zA_, zB_, zD_] <;> rfl) ?_; (with_reducible refine (laws_szStepS.calls _ _ l0 1048576 t287 _ ?side1 ?side2 A4.out).mono ?_); (case side1 => exact zC_ HR0.out); (case side2 => exact HC0.out); rintro e w' ⟨rfl, ⟨nd, rfl⟩⟩; refine ⟨_, rfl, ?_⟩) | ((with_reducible refine gate_callee (f := 19) rfl ?_); refine goesL_ (some 22) rfl rfl Try.func19 (by kernel_rfl) rfl #[.slice A0 l0.length c0] rfl (by simp only [zA_, zB_, zD_] <;> rfl) ?_; (with_reducible refine (laws_toStepS.calls k _ _ l0 t288 _ ?side1 ?side2 A6.out).mono ?_); (case side1 => exact zC_ HR0.out); (case side2 => exact HC0.out); rintro e w13 ⟨v289, rfl, ho0, hb⟩; refine ⟨_, rfl, ?_⟩; have n0_ := Aside0.mk (Kd.R_mono (ok' := fun _ => True) (Kd.R_lower ho0 (below_size (zb_ HB.out))) (fun _ _ => trivial)); have n1_ := Aside0.mk (below_step (zb_ HB.out) hb); clear HB; have HO290 := n0_; have HB := n1_; clear n0_ n1_; (try clear hb); (try clear hb2); (try clear hk); (try clear hi); (try clear ho0)) | ((with_reducible refine gate_callee (f := 48) rfl ?_); refine goesL_ (some 24) rfl rfl Try.func48 (by kernel_rfl) rfl #[.slice A1 l1.length c1] rfl (by simp only [zA_, zB_, zD_] <;> rfl) ?_; (with_reducible refine (laws_toIntS.calls k _ _ l1 t291 _ ?side1 ?side2 A7.out).mono ?_); (case side1 => exact zC_ (Kd.C_below HR1.out HB.out)); (case side2 => exact HC1.out); rintro e w14 ⟨v292, rfl, ho0, hb⟩; refine ⟨_, rfl, ?_⟩; have n0_ := Aside0.mk (Kd.R_below (zR_ HO290.out) hb); have n1_ := Aside0.mk (Kd.R_mono (ok' := fun _ => True) (Kd.R_lower ho0 (below_size (zb_ HB.out))) (fun _ _ => trivial)); have n2_ := Aside0.mk (below_step (zb_ HB.out) hb); clear HO290; clear HB; have HO290 := n0_; have HO293 := n1_; have HB := n2_; clear n0_ n1_ n2_; (try clear hb); (try clear hb2); (try clear hk); (try clear hi); (try clear ho0); obtain ⟨Ao15, co15, eo15⟩ := Kd.R_slice HO290.out; subst eo15; obtain ⟨Ao16, co16, eo16⟩ := Kd.R_slice HO293.out; subst eo16) | ((with_reducible refine gate_callee (f := 50) rfl ?_); refine goesL_ (some 25) rfl rfl Try.func50 (by kernel_rfl) rfl #[.slice Ao15 t288.length co15, .slice Ao16 t291.length co16] rfl (by simp only [zA_, zB_, zD_] <;> rfl) ?_; (with_reducible refine (spec_FaultFree.calls k _ _ t288 _ _ t291 t294 t295 _ ?side1 ?side2 ?side3 ?side4 A8.out).mono ?_); (case side1 => exact zC_ (Kd.R_reads' HO290.out).2.2); (case side2 => exact (Kd.R_reads' HO290.out).2.1); (case side3 => exact zC_ (Kd.R_reads' HO293.out).2.2); (case side4 => exact (Kd.R_reads' HO293.out).2.1); rintro e w17 ⟨rfl, hb⟩; refine ⟨_, rfl, ?_⟩; have n0_ := Aside0.mk (Kd.R_below (zR_ HO290.out) hb); have n1_ := Aside0.mk (Kd.R_below (zR_ HO293.out) hb); have n2_ := Aside0.mk (below_step (zb_ HB.out) hb); clear HO290; clear HO293; clear HB; have HO290 := n0_; have HO293 := n1_; have HB := n2_; clear n0_ n1_ n2_; (try clear hb); (try clear hb2); (try clear hk); (try clear hi)) | ((with_reducible refine gate_callee (f := 19) rfl ?_); refine goesL_ (some 29) rfl rfl Try.func19 (by kernel_rfl) rfl #[.slice A0 l0.length c0] rfl (by simp only [zA_, zB_, zD_] <;> rfl) ?_; (with_reducible refine (laws_toStepS.calls k _ _ l0 t296 _ ?side1 ?side2 A9.out).mono ?_); (case side1 => exact zC_ (Kd.C_below HR0.out HB.out)); (case side2 => exact HC0.out); rintro e w18 ⟨v297, rfl, ho0, hb⟩; refine ⟨_, rfl, ?_⟩; have n0_ := Aside0.mk (Kd.R_below (zR_ HO290.out) hb); have n1_ := Aside0.mk (Kd.R_below (zR_ HO293.out) hb); have n2_ := Aside0.mk (Kd.R_mono (ok' := fun _ => True) (Kd.R_lower ho0 (below_size (zb_ HB.out))) (fun _ _ => trivial)); have n3_ := Aside0.mk (below_step (zb_ HB.out) hb); clear HO290; clear HO293; clear HB; have HO290 := n0_; have HO293 := n1_; have HO298 := n2_; have HB := n3_; clear n0_ n1_ n2_ n3_; (try clear hb); (try clear hb2); (try clear hk); (try clear hi); (try clear ho0)) | ((with_reducible refine gate_callee (f := 48) rfl ?_); refine goesL_ (some 31) rfl rfl Try.func48 (by kernel_rfl) rfl #[.slice A1 l1.length c1] rfl (by simp only [zA_, zB_, zD_] <;> rfl) ?_; (with_reducible refine (laws_toIntS.calls k _ _ l1 t299 _ ?side1 ?side2 A10.out).mono ?_); (case side1 => exact zC_ (Kd.C_below HR1.out HB.out)); (case side2 => exact HC1.out); rintro e w19 ⟨v300, rfl, ho0, hb⟩; refine ⟨_, rfl, ?_⟩; have n0_ := Aside0.mk (Kd.R_below (zR_ HO290.out) hb); have n1_ := Aside0.mk (Kd.R_below (zR_ HO293.out) hb); have n2_ := Aside0.mk (Kd.R_below (zR_ HO298.out) hb); have n3_ := Aside0.mk (Kd.R_mono (ok' := fun _ => True) (Kd.R_lower ho0 (below_size (zb_ HB.out))) (fun _ _ => trivial)); have n4_ := Aside0.mk (below_step (zb_ HB.out) hb); clear HO290; clear HO293; clear HO298; clear HB; have HO290 := n0_; have HO293 := n1_; have HO298 := n2_; have HO301 := n3_; have HB := n4_; clear n0_ n1_ n2_ n3_ n4_; (try clear hb); (try clear hb2); (try clear hk); (try clear hi); (try clear ho0); obtain ⟨Ao20, co20, eo20⟩ := Kd.R_slice HO298.out; subst eo20; obtain ⟨Ao21, co21, eo21⟩ := Kd.R_slice HO301.out; subst eo21) | ((with_reducible refine gate_callee (f := 51) rfl ?_); refine goesL_ (some 35) rfl rfl Try.func51 (by kernel_rfl) rfl #[.slice Ao20 t296.length co20, .slice Ao21 t299.length co21] rfl (by simp only [zA_, zB_, zD_] <;> rfl) ?_; (with_reducible refine (impl_FaultFree.calls k _ _ t296 _ _ t299 t302 t303 _ ?side1 ?side2 ?side3 ?side4 A11.out).mono ?_); (case side1 => exact zC_ (Kd.R_reads' HO298.out).2.2); (case side2 => exact (Kd.R_reads' HO298.out).2.1); (case side3 => exact zC_ (Kd.R_reads' HO301.out).2.2); (case side4 => exact (Kd.R_reads' HO301.out).2.1); rintro e w22 ⟨rfl, hb⟩; refine ⟨_, rfl, ?_⟩; have n0_ := Aside0.mk (Kd.R_below (zR_ HO290.out) hb); have n1_ := Aside0.mk (Kd.R_below (zR_ HO293.out) hb); have n2_ := Aside0.mk (Kd.R_below (zR_ HO298.out) hb); have n3_ := Aside0.mk (Kd.R_below (zR_ HO301.out) hb); have n4_ := Aside0.mk (below_step (zb_ HB.out) hb); clear HO290; clear HO293; clear HO298; clear HO301; clear HB; have HO290 := n0_; have HO293 := n1_; have HO298 := n2_; have HO301 := n3_; have HB := n4_; clear n0_ n1_ n2_ n3_ n4_; (try clear hb); (try clear hb2); (try clear hk); (try clear hi)))
 (try simp only [Act.put, List.setIfInBounds_toArray, List.set_cons_zero, List.set_cons_succ])
 go_cut [45] (fun v45 wc => ∃ (kq : Nat) (x45_11 : Bool), v45 = .bool x45_11 ∧ Aside0 (laws_FnExactFaultFree.j0 kq l0 l1 t296 t299 x45_11 = some r) ∧ Aside0 (kq ≤ k) ∧ Aside0 (Kd.R k26 26 wc w.heap.size (fun _ => True) (.slice Ao20 t296.length co20) t296) ∧ Aside0 (Kd.R (Kd.int .i64) 3 wc w.heap.size (fun _ => True) (.slice Ao21 t299.length co21) t299) ∧ Aside0 (Below w.heap.size w wc))
 case first => as_aux_lemma =>
  have H := HC12.out
  clear HC12
  by_cases c23 : (t302 != t294) = true
  ·rw [if_pos c23] at H
   have c23b0 : (t302 != t294) = true := c23
   (try (have c23b1 : decide (t302 = t294) = false := by simpa using c23))
   (try (have c23b2 : (t302 == t294) = false := by simpa using c23))
   (try (have c23b3 : ¬ (t302 = t294) := by simpa using c23))
   clear c23
   (first | rw [c23b0] | (simp only [i64_w, i32_w]; rw [c23b0]) | skip)
   have H' := Aside0.mk H
   clear H
   go_wp2
   go_meet
   case rel => exact ⟨_, (true), (by first | rfl | (simp; done) | (simp [*]; done)), H', ⟨by first | omega | exact Nat.le_refl _⟩, ⟨Kd.R_mono (zR_ HO298.out) (fun _ _ => trivial)⟩, ⟨Kd.R_mono (zR_ HO301.out) (fun _ _ => trivial)⟩, ⟨zb_ HB.out⟩⟩
  rw [if_neg c23] at H
  have c23b0 : (t302 != t294) = false := by simpa using c23
  (try (have c23b1 : decide (t302 = t294) = true := by simpa using c23))
  (try (have c23b2 : (t302 == t294) = true := by simpa using c23))
  clear c23
  (first | rw [c23b0] | (simp only [i64_w, i32_w]; rw [c23b0]) | skip)
  have H' := Aside0.mk H
  clear H
  go_wp2
  go_meet
  case rel => exact ⟨_, ((t303 != t295)), (by first | rfl | (simp; done) | (simp [*]; done)), H', ⟨by first | omega | exact Nat.le_refl _⟩, ⟨Kd.R_mono (zR_ HO298.out) (fun _ _ => trivial)⟩, ⟨Kd.R_mono (zR_ HO301.out) (fun _ _ => trivial)⟩, ⟨zb_ HB.out⟩⟩
 case rest => as_aux_lemma =>
  clear HC12
  try clear c1
  try clear c2
  try clear p2
  try clear c3
  try clear c3b0
  try clear c3b1
  try clear c4
  try clear c5
  try clear c5b0
  try clear c12
  try clear c17
  try clear c19
  try clear c23
  try clear c23b0
  try clear c23b1
  try clear c23b2
  obtain ⟨kq, x45_11, rfl, HA, HJ11, HO_8, HO_9, HB⟩ := hcut
  cases kq with
  | zero => exact absurd HA.out (by simp [laws_FnExactFaultFree.j0])
  | succ kj11 =>
   have H := HA.out
   clear HA
   simp only [laws_FnExactFaultFree.j0] at H
   by_cases c24 : x45_11 = true
   ·subst c24
    have H1 : (none) = some r := by rw [if_pos rfl] at H; exact H
    clear H
    have H := H1
    clear H1
    exact absurd H (by simp)
   ·replace c24 := Bool.eq_false_iff.mpr c24
    subst c24
    have H1 : ((laws_toStepS.f kj11 l0).bind fun t304 => ((laws_eqStepS.f kj11 t296 t304).bind fun t307 => (if t307 = true then ((laws_toIntS.f kj11 l1).bind fun t308 => ((laws_eqIntS.f kj11 t299 t308).bind fun t311 => (if t311 = true then (some true) else (none)))) else (none)))) = some r := by rw [if_neg (show ¬ (false = true) by decide)] at H; exact H
    clear H
    have H := H1
    clear H1
    replace H := Option.bind_eq_some_iff.mp H
    obtain ⟨t304, A250, H⟩ := H
    (try dsimp only at H)
    have A25 := Aside0.mk A250
    clear A250
    replace H := Option.bind_eq_some_iff.mp H
    obtain ⟨t307, A260, H⟩ := H
    (try dsimp only at H)
    have A26 := Aside0.mk A260
    clear A260
    by_cases c27 : t307 = true
    ·subst c27
     have H1 : ((laws_toIntS.f kj11 l1).bind fun t308 => ((laws_eqIntS.f kj11 t299 t308).bind fun t311 => (if t311 = true then (some true) else (none)))) = some r := by rw [if_pos rfl] at H; exact H
     clear H
     have H := H1
     clear H1
     replace H := Option.bind_eq_some_iff.mp H
     obtain ⟨t308, A280, H⟩ := H
     (try dsimp only at H)
     have A28 := Aside0.mk A280
     clear A280
     replace H := Option.bind_eq_some_iff.mp H
     obtain ⟨t311, A290, H⟩ := H
     (try dsimp only at H)
     have A29 := Aside0.mk A290
     clear A290
     by_cases c30 : t311 = true
     ·subst c30
      have H1 : (some true) = some r := by rw [if_pos rfl] at H; exact H
      clear H
      have H := H1
      clear H1
      obtain rfl := Option.some.inj H
      go_wp2_with (first | ((with_reducible refine gate_callee (f := 19) rfl ?_); refine goesL_ (some 48) rfl rfl Try.func19 (by kernel_rfl) rfl #[.slice A0 l0.length c0] rfl (by simp only [zA_, zB_, zD_] <;> rfl) ?_; (with_reducible refine (laws_toStepS.calls kj11 _ _ l0 t304 _ ?side1 ?side2 A25.out).mono ?_); (case side1 => exact zC_ (Kd.C_below HR0.out HB.out)); (case side2 => exact HC0.out); rintro e w31 ⟨v305, rfl, ho0, hb⟩; refine ⟨_, rfl, ?_⟩; have n0_ := Aside0.mk (Kd.R_below (zR_ HO_8.out) hb); have n1_ := Aside0.mk (Kd.R_below (zR_ HO_9.out) hb); have n2_ := Aside0.mk (Kd.R_mono (ok' := fun _ => True) (Kd.R_lower ho0 (below_size (zb_ HB.out))) (fun _ _ => trivial)); have n3_ := Aside0.mk (below_step (zb_ HB.out) hb); clear HO_8; clear HO_9; clear HB; have HO_8 := n0_; have HO_9 := n1_; have HO306 := n2_; have HB := n3_; clear n0_ n1_ n2_ n3_; (try clear hb); (try clear hb2); (try clear hk); (try clear hi); (try clear ho0); obtain ⟨Ao32, co32, eo32⟩ := Kd.R_slice HO306.out; subst eo32) | ((with_reducible refine gate_callee (f := 21) rfl ?_); refine goesL_ (some 49) rfl rfl Try.func21 (by kernel_rfl) rfl #[.slice Ao20 t296.length co20, .slice Ao32 t304.length co32] rfl (by simp only [zA_, zB_, zD_] <;> rfl) ?_; (with_reducible refine (laws_eqStepS.calls kj11 _ _ t296 _ _ t304 true _ ?side1 ?side2 ?side3 ?side4 A26.out).mono ?_); (case side1 => exact zC_ (Kd.R_reads' HO_8.out).2.2); (case side2 => exact (Kd.R_reads' HO_8.out).2.1); (case side3 => exact zC_ (Kd.R_reads' HO306.out).2.2); (case side4 => exact (Kd.R_reads' HO306.out).2.1); rintro e w33 ⟨rfl, hb⟩; refine ⟨_, rfl, ?_⟩; have n0_ := Aside0.mk (Kd.R_below (zR_ HO_8.out) hb); have n1_ := Aside0.mk (Kd.R_below (zR_ HO_9.out) hb); have n2_ := Aside0.mk (Kd.R_below (zR_ HO306.out) hb); have n3_ := Aside0.mk (below_step (zb_ HB.out) hb); clear HO_8; clear HO_9; clear HO306; clear HB; have HO_8 := n0_; have HO_9 := n1_; have HO306 := n2_; have HB := n3_; clear n0_ n1_ n2_ n3_; (try clear hb); (try clear hb2); (try clear hk); (try clear hi)) | ((with_reducible refine gate_callee (f := 48) rfl ?_); refine goesL_ (some 53) rfl rfl Try.func48 (by kernel_rfl) rfl #[.slice A1 l1.length c1] rfl (by simp only [zA_, zB_, zD_] <;> rfl) ?_; (with_reducible refine (laws_toIntS.calls kj11 _ _ l1 t308 _ ?side1 ?side2 A28.out).mono ?_); (case side1 => exact zC_ (Kd.C_below HR1.out HB.out)); (case side2 => exact HC1.out); rintro e w34 ⟨v309, rfl, ho0, hb⟩; refine ⟨_, rfl, ?_⟩; have n0_ := Aside0.mk (Kd.R_below (zR_ HO_8.out) hb); have n1_ := Aside0.mk (Kd.R_below (zR_ HO_9.out) hb); have n2_ := Aside0.mk (Kd.R_below (zR_ HO306.out) hb); have n3_ := Aside0.mk (Kd.R_mono (ok' := fun _ => True) (Kd.R_lower ho0 (below_size (zb_ HB.out))) (fun _ _ => trivial)); have n4_ := Aside0.mk (below_step (zb_ HB.out) hb); clear HO_8; clear HO_9; clear HO306; clear HB; have HO_8 := n0_; have HO_9 := n1_; have HO306 := n2_; have HO310 := n3_; have HB := n4_; clear n0_ n1_ n2_ n3_ n4_; (try clear hb); (try clear hb2); (try clear hk); (try clear hi); (try clear ho0); obtain ⟨Ao35, co35, eo35⟩ := Kd.R_slice HO310.out; subst eo35) | ((with_reducible refine gate_callee (f := 26) rfl ?_); refine goesL_ (some 54) rfl rfl Try.func26 (by kernel_rfl) rfl #[.slice Ao21 t299.length co21, .slice Ao35 t308.length co35] rfl (by simp only [zA_, zB_, zD_] <;> rfl) ?_; (with_reducible refine (laws_eqIntS.calls kj11 _ _ t299 _ _ t308 true _ ?side1 ?side2 ?side3 ?side4 A29.out).mono ?_); (case side1 => exact zC_ (Kd.R_reads' HO_9.out).2.2); (case side2 => exact (Kd.R_reads' HO_9.out).2.1); (case side3 => exact zC_ (Kd.R_reads' HO310.out).2.2); (case side4 => exact (Kd.R_reads' HO310.out).2.1); rintro e w' ⟨rfl, ⟨nd, rfl⟩⟩; refine ⟨_, rfl, ?_⟩))
      go_ret
      exact ⟨by first | rfl | (simp [errW_none, errW_some] <;> rfl) | (simp [*, errW_none, errW_some] <;> rfl), zb_ HB.out⟩
     ·replace c30 := Bool.eq_false_iff.mpr c30
      subst c30
      have H1 : (none) = some r := by rw [if_neg (show ¬ (false = true) by decide)] at H; exact H
      clear H
      have H := H1
      clear H1
      exact absurd H (by simp)
    ·replace c27 := Bool.eq_false_iff.mpr c27
     subst c27
     have H1 : (none) = some r := by rw [if_neg (show ¬ (false = true) by decide)] at H; exact H
     clear H
     have H := H1
     clear H1
     exact absurd H (by simp)
/-- The one pure statement of laws_FnExactFaultFree. -/
def laws_FnExactFaultFree.Pure : Prop := ∀ (l0 : List (S23)) (l1 : List Int), (l0.length ≤ maxLen ∧ ∀ y_ ∈ l0, ((Lit.int .i64 y_.f0).wf = true ∧ (Lit.int .i64 y_.f1).wf = true ∧ (Lit.int .i64 y_.f2).wf = true ∧ (Lit.int .i64 y_.f3).wf = true ∧ (Lit.int .i64 y_.f4).wf = true ∧ (Lit.int .i64 y_.f5).wf = true)) → (l1.length ≤ maxLen ∧ ∀ y_ ∈ l1, (Lit.int .i64 y_).wf = true) → ∃ k, laws_FnExactFaultFree.f k l0 l1 = some true
theorem laws_FnExactFaultFree.walk : True := trivial
end Go.Proofs.Ytjopmdogdmdanaa.PFnExactFaultFree
-- squeezed
