-- Made by a program of this session (wip/tools), which leans on the kit's print: checked by Lean alone.
import Derived.Test.YtjopmdogdmdanaaPFnExactTraceOfx0
import Derived.Test.YtjopmdogdmdanaaPFnExactTraceOfx1
import Derived.Test.YtjopmdogdmdanaaPFnExactTraceOfx2
import Derived.Test.YtjopmdogdmdanaaPFnExactTraceOfx7
import Derived.Test.YtjopmdogdmdanaaPFnExactTraceOfx8
import Derived.Test.YtjopmdogdmdanaaPFnExactTraceOfx9
import Derived.Test.YtjopmdogdmdanaaPFnExactTraceOfx11
namespace Go.Proofs.Ytjopmdogdmdanaa.PFnExactTraceOf
open Go.RowKit Go.Proofs.YtjopmdogdmdanaaW.PrintWords Go.Proofs.YtjopmdogdmdanaaW.PrintLast Go.Proofs.YtjopmdogdmdanaaW.PrintMore
attribute [local go_sem] max2_int min2_int max_two min_two max_three min_three max_four min_four   -- for this text's walks alone
set_option linter.unusedVariables false
set_option linter.unusedSimpArgs false
theorem R_me_ {α : Type} {enc : α → Value} {h1 : ∀ x, (enc x).oneCell' = true} {e base : Nat} {w : World} {ok : Nat → Prop} {v : Value} {xs : List α} (h : (Kd.scalar enc h1).R e w base ok v xs) : (Kd.scalar enc h1).R e w base (fun k_ => some k_ = v.ownBlock) v xs := ⟨fun _ hk => hk.symm, h.2⟩
theorem R_as_ {α : Type} {enc : α → Value} {h1 : ∀ x, (enc x).oneCell' = true} {e base base' : Nat} {w w' : World} {ok ok' : Nat → Prop} {v : Value} {xs ys : List α} (h : (Kd.scalar enc h1).R e w base ok v xs) (h' : (Kd.scalar enc h1).R e w' base' ok' v ys) : (Kd.scalar enc h1).R e w' base' ok v ys := ⟨h.1, h'.2⟩
def impl_run.l0 : Nat → List S26 → List Int → Int → List Int → Int → List Int → List Int → List Bool → Option (Int × Int × Int × List Int)
 | 0, _, _, _, _, _, _, _, _ => none
 | k + 1, p, ctx, fuel, tr, xa, xR, xC, xB => if (tr.length : Int) = fuel then some (0, 4, xa, tr) else (if tr.length < 17592186044416 then (impl_Machine_step.f k xa xR xC xB p ctx).bind fun x => (if x.1 = 0 then (if x.2.1 = true then (if 0 < (x.2.2.2.1.length : Int) then some (rd x.2.2.2.1 0, 0, 0, tr ++ [xa]) else none) else impl_run.l0 k p ctx fuel (tr ++ [xa]) x.2.2.1 x.2.2.2.1 x.2.2.2.2.1 x.2.2.2.2.2) else some (0, x.1, xa, tr ++ [xa])) else none)
def impl_run.f (k : Nat) (l0 : List S26) (l1 : List Int) (a2 : Int) : Option (Int × Int × Int × List Int) := (impl_NewMachine.f).bind fun m => impl_run.l0 k l0 l1 a2 [] m.1 m.2.1 m.2.2.1 m.2.2.2
theorem impl_run.mono_l : ∀ k, (∀ y0 y1 y2 y3 y4 y5 y6 y7, LeO (impl_run.l0 k y0 y1 y2 y3 y4 y5 y6 y7) (impl_run.l0 (k + 1) y0 y1 y2 y3 y4 y5 y6 y7))
 | 0 => fun _ _ _ _ _ _ _ _ r h => by simp [impl_run.l0] at h
 | k + 1 => by
  have ih0 := impl_run.mono_l k
  intro y0 y1 y2 y3 y4 y5 y6 y7
  unfold impl_run.l0
  repeat' first
  | (with_reducible exact ih0 _ _ _ _ _ _ _ _)
  | (with_reducible exact impl_Machine_step.mono _ _ _ _ _ _ _)
  | (with_reducible exact LeO.refl _)
  | (with_reducible exact LeO.none _)
  | (with_reducible refine LeO.ite ?_ ?_)
  | (with_reducible refine LeO.bind ?_ (fun _ => ?_))
theorem impl_run.mono : ∀ a0 a1 a2 k, LeO (impl_run.f k a0 a1 a2) (impl_run.f (k + 1) a0 a1 a2) := by
 intro a0 a1 a2 k
 unfold impl_run.f
 exact LeO.bind (LeO.refl _) (fun _ => impl_run.mono_l k _ _ _ _ _ _ _ _)
set_option maxHeartbeats 1000000 in
set_option maxRecDepth 100000 in
theorem impl_run.calls (k : Nat) (A0 : Option Addr) (c0 : Nat) (l0 : List S26) (A1 : Option Addr) (c1 : Nat) (l1 : List Int) (a2 : Int) (r1 : Int) (r2 : Int) (r3 : Int) (r4 : List Int) (w : World) (hr0 : Kd.C k26 w A0 l0.length l0) (hc0 : l0.length ≤ c0) (hr1 : Kd.C (Kd.int .i64) w A1 l1.length l1) (hc1 : l1.length ≤ c1) (h : impl_run.f k l0 l1 a2 = some (r1, r2, r3, r4)) :
  Calls Try.prog 77 #[.slice A0 l0.length c0, .slice A1 l1.length c1, .int .i64 a2] w fun e w' => ∃ v3_ : Value, e = .returned (.tuple #[.int .i64 r1, .int .i64 r2, .int .i64 r3, v3_]) ∧ Kd.R (Kd.int .i64) 3 w' w.heap.size (fun _ => True) v3_ r4 ∧ Below w.heap.size w w' := by
 have hum := Try.underlying116
 have HR0 := Aside0.mk hr0
 have HC0 := Aside0.mk hc0
 have HR1 := Aside0.mk hr1
 have HC1 := Aside0.mk hc1
 clear hr0 hc0 hr1 hc1
 have HB := Aside0.mk (Below.refl w.heap.size w)
 unfold impl_run.f at h
 replace h := Option.bind_eq_some_iff.mp h
 obtain ⟨⟨t1, t2, t3, t4⟩, G4', h⟩ := h
 dsimp only at h
 have G4 := Aside0.mk G4'
 clear G4'
 have H' := Aside0.mk h
 clear h
 go_enter Try.func77, Try.ntmps77
 go_wp2_with (first | (go_at_call 95; (with_reducible refine (impl_NewMachine.calls t1 t2 t3 t4 _ G4.out).mono ?_); rintro e w5 ⟨v1, v2, v3, rfl, ho0, ho1, ho2, hb⟩; have n0_ := Aside0.mk (Kd.R_lower ho0 (below_size (zb_ HB.out))); have n1_ := Aside0.mk (Kd.R_lower ho1 (below_size (zb_ HB.out))); have n2_ := Aside0.mk (Kd.R_lower ho2 (below_size (zb_ HB.out))); have n3_ := Aside0.mk (below_step (zb_ HB.out) hb); clear HB; have HO1 := n0_; have HO2 := n1_; have HO3 := n2_; have HB := n3_; clear n0_ n1_ n2_ n3_ hb ho0 ho1 ho2) | ((with_reducible refine gate_dst (N := 10) rfl ?_); refine box_event ?hg (N := 10) ?hd (cs := #[.int .i64 0, .slice none 0 0, .slice none 0 0, .slice none 0 0]) (t := 116) ?hr ?_; (case hd => rfl); (case hg => rfl); (case hr => first | (go_simp; done) | (go_simp; rfl)); intro gb hg w6 hbox hb; have n0_ := Aside0.mk (Kd.R_below (zR_ HO1.out) hb); have n1_ := Aside0.mk (Kd.R_below (zR_ HO2.out) hb); have n2_ := Aside0.mk (Kd.R_below (zR_ HO3.out) hb); have n3_ := Aside0.mk (below_step (zb_ HB.out) hb); have n4_ := Aside0.mk (hbox); have n5_ := Aside0.mk ((by rw [hg]; exact (below_size (zb_ HB.out)) : w.heap.size ≤ gb)); clear HO1 HO2 HO3 HB; have HO1 := n0_; have HO2 := n1_; have HO3 := n2_; have HB := n3_; have BK := n4_; have GE := n5_; clear n0_ n1_ n2_ n3_ n4_ n5_; clear hb hbox hg; have hcz7_0 : w6.cell? ⟨gb, 0, none⟩ = some (.int .i64 0) := (blk_cell BK.out 0).trans rfl; have hcz7_1 : w6.cell? ⟨gb, 1, none⟩ = some (.slice none 0 0) := (blk_cell BK.out 1).trans rfl; have hcz7_2 : w6.cell? ⟨gb, 2, none⟩ = some (.slice none 0 0) := (blk_cell BK.out 2).trans rfl; have hcz7_3 : w6.cell? ⟨gb, 3, none⟩ = some (.slice none 0 0) := (blk_cell BK.out 3).trans rfl; have hfz7_0 := blk_frozen BK.out 0; have hfz7_1 := blk_frozen BK.out 1; have hfz7_2 := blk_frozen BK.out 2; have hfz7_3 := blk_frozen BK.out 3; obtain ⟨B1, d1, e1⟩ := Kd.R_slice HO1.out; subst e1; obtain ⟨B2, d2, e2⟩ := Kd.R_slice HO2.out; subst e2; obtain ⟨B3, d3, e3⟩ := Kd.R_slice HO3.out; subst e3))
 go_loopg [11] k (fun kq v11 w' => ∃ (xt : List Int) (xa : Int) (xR : List Int) (xC : List Int) (xB : List Bool) (u1 : Value) (u2 : Value) (u3 : Value), Aside0 (impl_run.l0 kq l0 l1 a2 xt xa xR xC xB = some (r1, r2, r3, r4)) ∧ Aside0 (kq ≤ k) ∧ Aside0 (Kd.R (Kd.int .i64) 3 w' w.heap.size (fun k_ => some k_ ≠ (u1 : Value).ownBlock ∧ some k_ ≠ (u2 : Value).ownBlock) v11 xt) ∧ Aside0 (Kd.R (Kd.int .i64) 3 w' w.heap.size (fun k_ => some k_ ≠ (v11 : Value).ownBlock ∧ some k_ ≠ (u2 : Value).ownBlock) u1 xR) ∧ Aside0 (Kd.R (Kd.int .i64) 3 w' w.heap.size (fun k_ => some k_ ≠ (v11 : Value).ownBlock ∧ some k_ ≠ (u1 : Value).ownBlock) u2 xC) ∧ Aside0 (Kd.R Kd.bool 4 w' w.heap.size (fun _ => True) u3 xB) ∧ Aside0 (w'.heap[gb]? = some (.cells #[.int .i64 xa, u1, u2, u3] 116 (0, 0))) ∧ Aside0 (Below w.heap.size w w'))
 case atStart => exact ⟨[], t1, t2, t3, t4, .slice B1 t2.length d1, .slice B2 t3.length d2, .slice B3 t4.length d3, H', ⟨Nat.le_refl _⟩, ⟨Kd.R_nil _ _ _ _ _⟩, ⟨by (with_reducible repeat (first | apply Ra_ | apply Rn_ | apply Rd_)); exact Kd.R_mono (Kd.R_far (p := ⟨gb, 3, none⟩) (Kd.R_far (p := ⟨gb, 2, none⟩) (Kd.R_far (p := ⟨gb, 1, none⟩) (Kd.R_far (p := ⟨gb, 0, none⟩) (Kd.R_types HO1.out BK.out (by decide)) (fun _ hk => hk.2) (.int .i64 t1)) (fun _ hk => hk.2) (.slice B1 t2.length d1)) (fun _ hk => hk.2) (.slice B2 t3.length d2)) (fun _ hk => hk.2) (.slice B3 t4.length d3)) (fun _ hk => ⟨(by simp [Value.ownBlock]), hk.1⟩)⟩, ⟨by (with_reducible repeat (first | apply Ra_ | apply Rn_ | apply Rd_)); exact Kd.R_mono (Kd.R_far (p := ⟨gb, 3, none⟩) (Kd.R_far (p := ⟨gb, 2, none⟩) (Kd.R_far (p := ⟨gb, 1, none⟩) (Kd.R_far (p := ⟨gb, 0, none⟩) (Kd.R_types HO2.out BK.out (by decide)) (fun _ hk => hk.2) (.int .i64 t1)) (fun _ hk => hk.2) (.slice B1 t2.length d1)) (fun _ hk => hk.2) (.slice B2 t3.length d2)) (fun _ hk => hk.2) (.slice B3 t4.length d3)) (fun _ hk => ⟨(by simp [Value.ownBlock]), hk.1⟩)⟩, ⟨by (with_reducible repeat (first | apply Ra_ | apply Rn_ | apply Rd_)); exact Kd.R_mono (Kd.R_far (p := ⟨gb, 3, none⟩) (Kd.R_far (p := ⟨gb, 2, none⟩) (Kd.R_far (p := ⟨gb, 1, none⟩) (Kd.R_far (p := ⟨gb, 0, none⟩) (Kd.R_types HO3.out BK.out (by decide)) (fun _ hk => hk.2) (.int .i64 t1)) (fun _ hk => hk.2) (.slice B1 t2.length d1)) (fun _ hk => hk.2) (.slice B2 t3.length d2)) (fun _ hk => hk.2) (.slice B3 t4.length d3)) (fun _ _ => trivial)⟩, ⟨by (with_reducible repeat (first | refine on_ ?_ _ | refine od_ ?_ | refine oa_ ?_ _)); refine blk_put (cs := #[.int .i64 t1, .slice B1 t2.length d1, .slice B2 t3.length d2, .slice none 0 0]) ?_ 3 _ rfl; refine blk_put (cs := #[.int .i64 t1, .slice B1 t2.length d1, .slice none 0 0, .slice none 0 0]) ?_ 2 _ rfl; refine blk_put (cs := #[.int .i64 t1, .slice none 0 0, .slice none 0 0, .slice none 0 0]) ?_ 1 _ rfl; refine blk_put (cs := #[.int .i64 0, .slice none 0 0, .slice none 0 0, .slice none 0 0]) ?_ 0 _ rfl; (with_reducible repeat (first | refine on_ ?_ _ | refine od_ ?_ | refine oa_ ?_ _)); exact BK.out⟩, ⟨by repeat (first | (with_reducible first | exact HB.out | apply ba_ | apply bn_ | apply bd_ | refine bs_ ?_ GE.out) | exact HB.out)⟩⟩
 case round =>
  clear H' HB BK HO1 HO2 HO3
  try clear hcz7_0 hcz7_1 hcz7_2 hcz7_3 hfz7_0 hfz7_1 hfz7_2 hfz7_3
  obtain ⟨xt, xa, xR, xC, xB, u1, u2, u3, HA, HK1, HOT, HO1, HO2, HO3, BK, HB⟩ := hrel
  cases gk with
  | zero => exact absurd HA.out (by simp [impl_run.l0])
  | succ k1 =>
   have h := HA.out
   clear HA
   simp only [impl_run.l0] at h
   obtain ⟨Ao, co, eo⟩ := Kd.R_slice HOT.out
   subst eo
   have hcz15_0 : wr.cell? ⟨gb, 0, none⟩ = some (.int .i64 xa) := (blk_cell BK.out 0).trans rfl
   have hcz15_1 : wr.cell? ⟨gb, 1, none⟩ = some u1 := (blk_cell BK.out 1).trans rfl
   have hcz15_2 : wr.cell? ⟨gb, 2, none⟩ = some u2 := (blk_cell BK.out 2).trans rfl
   have hcz15_3 : wr.cell? ⟨gb, 3, none⟩ = some u3 := (blk_cell BK.out 3).trans rfl
   have hfz15_0 := blk_frozen BK.out 0
   have hfz15_1 := blk_frozen BK.out 1
   have hfz15_2 := blk_frozen BK.out 2
   have hfz15_3 := blk_frozen BK.out 3
   by_cases c1' : (xt.length : Int) = a2
   ·rw [if_pos c1'] at h
    have c1b0 : ((xt.length : Int) == a2) = true := beq_iff_eq.mpr c1'
    have c1b1 : (((xt.length : Int)) != a2) = false := bne_eq_false_iff_eq.mpr c1'
    clear c1'
    simp only [Option.some.injEq, Prod.mk.injEq] at h
    obtain ⟨rfl, rfl, rfl, rfl⟩ := h
    go_wp2
    repeat (go_quiet (fail); try go_wp2)
    refine bodyPost_ret (results_list (rs := [.tmp 6, .tmp 7, .tmp 8, .tmp 9]) rfl (by simp) (.tmp (.tmp (.tmp (.tmp .nil))))) rfl ?_
    exact ⟨_, by first | rfl | simp | (simp [*]; done), by (with_reducible repeat (first | apply Ra_ | apply Rn_ | apply Rd_)); exact Kd.R_mono HOT.out (fun _ _ => trivial), by repeat (first | (with_reducible first | exact HB.out | apply ba_ | apply bn_ | apply bd_ | refine bs_ ?_ GE.out) | exact HB.out)⟩
   rw [if_neg c1'] at h
   have c1b0 : ((xt.length : Int) == a2) = false := beq_eq_false_iff_ne.mpr c1'
   have c1b1 : (((xt.length : Int)) != a2) = true := bne_iff_ne.mpr c1'
   clear c1'
   by_cases c2 : xt.length < 17592186044416
   ·rw [if_pos c2] at h
    have LM := Aside0.mk c2
    clear c2
    obtain ⟨y, hy⟩ : ∃ y_ : List Int, y_ = xt ++ [xa] := ⟨_, rfl⟩
    rw [← hy] at h
    have NY := Aside0.mk hy
    clear hy
    replace h := Option.bind_eq_some_iff.mp h
    obtain ⟨⟨tf, te, ta, tR, tC, tB⟩, G5', h⟩ := h
    dsimp only at h
    have G5 := Aside0.mk G5'
    clear G5'
    obtain ⟨u11, hu11⟩ : ∃ u_ : Value, u_ = .slice Ao xt.length co := ⟨_, rfl⟩
    subst hu11
    by_cases c3 : tf = 0
    ·rw [if_pos c3] at h
     subst c3
     cases te with
     | true =>
      rw [if_pos rfl] at h
      by_cases c4 : 0 < (tR.length : Int)
      case neg => rw [if_neg c4] at h; cases h
      rw [if_pos c4] at h
      have c4b0 : decide (0 < (tR.length : Int)) = true := decide_eq_true c4
      have C4 := Aside0.mk c4
      clear c4
      simp only [Option.some.injEq, Prod.mk.injEq] at h
      obtain ⟨rfl, rfl, rfl, rfl⟩ := h
      go_wp2_with (first | ((with_reducible refine gate_builtin (b := .append) (xs := #[.tmp 24, .tmp 26]) rfl ?_); at_builtin; refine Kd.R_append (Kd.int .i64) (w0 := w) w.heap.size rfl (.tmp 24) (.tmp 26) 37 3 (.int .i64 0) 8 rfl Try.underlying37 info3 rfl (by decide) (by omega) (.slice Ao xt.length co) xt xa [.int .i64 xa] (fun k_ => some k_ ≠ (u1 : Value).ownBlock ∧ some k_ ≠ (u2 : Value).ownBlock) (fun _ => False) rfl rfl ?aP (fun _ hk => hk.elim) ?aF ?aO ?aB ?aS ?aL ?_; (case aP => exact rfl); (case aB => exact (by repeat (first | (with_reducible first | exact HB.out | apply ba_ | apply bn_ | apply bd_ | refine bs_ ?_ GE.out) | exact HB.out))); (case aF => exact (fun k_ hk => ⟨Kd.fresh' (Kd.R_lt (zR_ HO1.out)) k_ hk, Kd.fresh' (Kd.R_lt (zR_ HO2.out)) k_ hk⟩)); (case aO => exact (zR_ HOT.out)); (case aS => exact (below_size (by repeat (first | (with_reducible first | exact HB.out | apply ba_ | apply bn_ | apply bd_ | refine bs_ ?_ GE.out) | exact HB.out)))); (case aL => have := LM.out; omega); intro v27 w16 ho hb hg hat; rw [← NY.out] at ho; have n0_ := Aside0.mk (Kd.R_after (ok := (fun k_ => some k_ ≠ (u2 : Value).ownBlock)) (by (with_reducible repeat (first | apply Ra_ | apply Rn_ | apply Rd_)); exact Kd.R_mono HO1.out (fun _ hk => ⟨hk.2, hk.1⟩)) hg hat); have n1_ := Aside0.mk (Kd.R_after (ok := (fun k_ => some k_ ≠ (u1 : Value).ownBlock)) (by (with_reducible repeat (first | apply Ra_ | apply Rn_ | apply Rd_)); exact Kd.R_mono HO2.out (fun _ hk => ⟨hk.2, hk.1⟩)) hg hat); have n2_ := Aside0.mk (Kd.R_over' (zR_ HO3.out) (Kd.R_typed (zR_ HOT.out)) (by decide) hg); have n3_ := Aside0.mk (blk_grown (g := gb) (o := .cells #[.int .i64 xa, u1, u2, u3] 116 (0, 0)) (zO_ BK.out) hg (Kd.R_ne HOT.out BK.out (by decide))); have n4_ := Aside0.mk (hb); have n5_ := Aside0.mk (ho); clear HO1 HO2 HO3 BK HB HOT; have HO1 := n0_; have HO2 := n1_; have HO3 := n2_; have BK := n3_; have HB := n4_; have HOT := n5_; clear n0_ n1_ n2_ n3_ n4_ n5_; clear ho hb hg hat; have hcz17_0 : w16.cell? ⟨gb, 0, none⟩ = some (.int .i64 xa) := (blk_cell BK.out 0).trans rfl; have hcz17_1 : w16.cell? ⟨gb, 1, none⟩ = some (u1) := (blk_cell BK.out 1).trans rfl; have hcz17_2 : w16.cell? ⟨gb, 2, none⟩ = some (u2) := (blk_cell BK.out 2).trans rfl; have hcz17_3 : w16.cell? ⟨gb, 3, none⟩ = some (u3) := (blk_cell BK.out 3).trans rfl; have hfz17_0 := blk_frozen BK.out 0; have hfz17_1 := blk_frozen BK.out 1; have hfz17_2 := blk_frozen BK.out 2; have hfz17_3 := blk_frozen BK.out 3) | (go_at_call 96; (with_reducible refine (impl_Machine_step.calls k1 gb xa (fun k_ => some k_ = (u1 : Value).ownBlock) u1 xR (fun k_ => some k_ = (u2 : Value).ownBlock) u2 xC (fun k_ => some k_ = (u3 : Value).ownBlock) u3 xB _ _ l0 _ _ l1 0 true ta tR tC tB w _ ?s1 GE.out ?s3 ?s4 ?s5 ?s6 ?s7 ?s8 ?s9 HC0.out ?s11 HC1.out G5.out).mono ?_); (case s1 => (with_reducible repeat (first | refine on_ ?_ _ | refine od_ ?_ | refine oa_ ?_ _)); exact BK.out); (case s3 => exact (by repeat (first | (with_reducible first | exact HB.out | apply ba_ | apply bn_ | apply bd_ | refine bs_ ?_ GE.out) | exact HB.out))); (case s4 => exact R_me_ (zR_ HO1.out)); (case s5 => exact (fun k_ e_ h_ => (HO1.out.1 k_ e_.symm).1 h_)); (case s6 => exact R_me_ (zR_ HO2.out)); (case s7 => exact (fun k_ e_ h_ => (HO2.out.1 k_ e_.symm).1 h_)); (case s8 => exact R_me_ (zR_ HO3.out)); (case s9 => exact Kd.C_kept_came k26_heap HR0.out (by repeat (first | (with_reducible first | exact HB.out | apply ba_ | apply bn_ | apply bd_ | refine bs_ ?_ GE.out) | exact HB.out)) (fun k_ hs_ => hs_.elim (fun e_ => e_.elim (fun e_ => Kd.R_base HO1.out k_ e_.symm) (fun e_ => e_.elim (fun e_ => Kd.R_base HO2.out k_ e_.symm) (fun e_ => Kd.R_base HO3.out k_ e_.symm))) (fun e_ => by rw [e_]; exact GE.out))); (case s11 => exact Kd.C_kept_came (Kd.heap_int .i64) HR1.out (by repeat (first | (with_reducible first | exact HB.out | apply ba_ | apply bn_ | apply bd_ | refine bs_ ?_ GE.out) | exact HB.out)) (fun k_ hs_ => hs_.elim (fun e_ => e_.elim (fun e_ => Kd.R_base HO1.out k_ e_.symm) (fun e_ => e_.elim (fun e_ => Kd.R_base HO2.out k_ e_.symm) (fun e_ => Kd.R_base HO3.out k_ e_.symm))) (fun e_ => by rw [e_]; exact GE.out))); rintro e w20 ⟨rfl, hbx, ho1, ho2, ho3, hb, hkp⟩; have n0_ := Aside0.mk (R_as_ HO1.out ho1); have n1_ := Aside0.mk (R_as_ HO2.out ho2); have n2_ := Aside0.mk (R_as_ HO3.out ho3); have n5_ := Aside0.mk (Kd.R_mono (Kd.R_kept (Kd.R_types (Kd.R_apart' (zR_ HOT.out) (Kd.R_typed (zR_ HO3.out)) (by decide)) (zO_ BK.out) (by decide)) hkp (fun k_ hk hs_ => hs_.elim (fun e_ => e_.elim hk.1.1.1 (fun e_ => e_.elim hk.1.1.2 hk.1.2)) hk.2)) (fun _ hk => hk.1.1)); clear HO1 HO2 HO3 BK HB HOT; have HO1 := n0_; have HO2 := n1_; have HO3 := n2_; have BK := Aside0.mk hbx; have HB := Aside0.mk hb; have HOT := n5_; clear n0_ n1_ n2_ n5_; clear hbx ho1 ho2 ho3 hb hkp; (try clear hcz17_0 hcz17_1 hcz17_2 hcz17_3 hfz17_0 hfz17_1 hfz17_2 hfz17_3); have hcz21_0 : w20.cell? ⟨gb, 0, none⟩ = some (.int .i64 ta) := (blk_cell BK.out 0).trans rfl; have hcz21_1 : w20.cell? ⟨gb, 1, none⟩ = some (u1) := (blk_cell BK.out 1).trans rfl; have hcz21_2 : w20.cell? ⟨gb, 2, none⟩ = some (u2) := (blk_cell BK.out 2).trans rfl; have hcz21_3 : w20.cell? ⟨gb, 3, none⟩ = some (u3) := (blk_cell BK.out 3).trans rfl; have hfz21_0 := blk_frozen BK.out 0; have hfz21_1 := blk_frozen BK.out 1; have hfz21_2 := blk_frozen BK.out 2; have hfz21_3 := blk_frozen BK.out 3; (have p9 : 0 ≤ (0 : Int) := by omega); (have q9 : (0 : Int) < (tR.length : Int) := C4.out); obtain ⟨g9, d9, e9, gb9, gl9, cl9, HG9⟩ := Kd.R_form HO1.out (by omega); subst e9; obtain ⟨hx9_0, hf9_0⟩ := Kd.R_celln 0 HO1.out 0 p9 q9; (try rw [show ((0 : Int)).toNat = 0 from rfl] at hx9_0 hf9_0); (have q10 : 0 < tR.length := by omega); replace p9 := eq_true p9; replace q9 := eq_true q9; replace q10 := eq_true q10))
      refine bodyPost_ret (results_list (rs := [.tmp 6, .tmp 7, .tmp 8, .tmp 9]) rfl (by simp) (.tmp (.tmp (.tmp (.tmp .nil))))) rfl ?_
      exact ⟨_, by first | rfl | simp | (simp [*]; done), by (with_reducible repeat (first | apply Ra_ | apply Rn_ | apply Rd_)); exact Kd.R_mono HOT.out (fun _ _ => trivial), by repeat (first | (with_reducible first | exact HB.out | apply ba_ | apply bn_ | apply bd_ | refine bs_ ?_ GE.out) | exact HB.out)⟩
     | false =>
      rw [if_neg Bool.false_ne_true] at h
      have H' := Aside0.mk h
      clear h
      go_wp2_with (first | ((with_reducible refine gate_builtin (b := .append) (xs := #[.tmp 24, .tmp 26]) rfl ?_); at_builtin; refine Kd.R_append (Kd.int .i64) (w0 := w) w.heap.size rfl (.tmp 24) (.tmp 26) 37 3 (.int .i64 0) 8 rfl Try.underlying37 info3 rfl (by decide) (by omega) (.slice Ao xt.length co) xt xa [.int .i64 xa] (fun k_ => some k_ ≠ (u1 : Value).ownBlock ∧ some k_ ≠ (u2 : Value).ownBlock) (fun _ => False) rfl rfl ?aP (fun _ hk => hk.elim) ?aF ?aO ?aB ?aS ?aL ?_; (case aP => exact rfl); (case aB => exact (by repeat (first | (with_reducible first | exact HB.out | apply ba_ | apply bn_ | apply bd_ | refine bs_ ?_ GE.out) | exact HB.out))); (case aF => exact (fun k_ hk => ⟨Kd.fresh' (Kd.R_lt (zR_ HO1.out)) k_ hk, Kd.fresh' (Kd.R_lt (zR_ HO2.out)) k_ hk⟩)); (case aO => exact (zR_ HOT.out)); (case aS => exact (below_size (by repeat (first | (with_reducible first | exact HB.out | apply ba_ | apply bn_ | apply bd_ | refine bs_ ?_ GE.out) | exact HB.out)))); (case aL => have := LM.out; omega); intro v27 w16 ho hb hg hat; rw [← NY.out] at ho; have n0_ := Aside0.mk (Kd.R_after (ok := (fun k_ => some k_ ≠ (u2 : Value).ownBlock)) (by (with_reducible repeat (first | apply Ra_ | apply Rn_ | apply Rd_)); exact Kd.R_mono HO1.out (fun _ hk => ⟨hk.2, hk.1⟩)) hg hat); have n1_ := Aside0.mk (Kd.R_after (ok := (fun k_ => some k_ ≠ (u1 : Value).ownBlock)) (by (with_reducible repeat (first | apply Ra_ | apply Rn_ | apply Rd_)); exact Kd.R_mono HO2.out (fun _ hk => ⟨hk.2, hk.1⟩)) hg hat); have n2_ := Aside0.mk (Kd.R_over' (zR_ HO3.out) (Kd.R_typed (zR_ HOT.out)) (by decide) hg); have n3_ := Aside0.mk (blk_grown (g := gb) (o := .cells #[.int .i64 xa, u1, u2, u3] 116 (0, 0)) (zO_ BK.out) hg (Kd.R_ne HOT.out BK.out (by decide))); have n4_ := Aside0.mk (hb); have n5_ := Aside0.mk (ho); clear HO1 HO2 HO3 BK HB HOT; have HO1 := n0_; have HO2 := n1_; have HO3 := n2_; have BK := n3_; have HB := n4_; have HOT := n5_; clear n0_ n1_ n2_ n3_ n4_ n5_; clear ho hb hg hat; have hcz17_0 : w16.cell? ⟨gb, 0, none⟩ = some (.int .i64 xa) := (blk_cell BK.out 0).trans rfl; have hcz17_1 : w16.cell? ⟨gb, 1, none⟩ = some (u1) := (blk_cell BK.out 1).trans rfl; have hcz17_2 : w16.cell? ⟨gb, 2, none⟩ = some (u2) := (blk_cell BK.out 2).trans rfl; have hcz17_3 : w16.cell? ⟨gb, 3, none⟩ = some (u3) := (blk_cell BK.out 3).trans rfl; have hfz17_0 := blk_frozen BK.out 0; have hfz17_1 := blk_frozen BK.out 1; have hfz17_2 := blk_frozen BK.out 2; have hfz17_3 := blk_frozen BK.out 3) | (go_at_call 96; (with_reducible refine (impl_Machine_step.calls k1 gb xa (fun k_ => some k_ = (u1 : Value).ownBlock) u1 xR (fun k_ => some k_ = (u2 : Value).ownBlock) u2 xC (fun k_ => some k_ = (u3 : Value).ownBlock) u3 xB _ _ l0 _ _ l1 0 false ta tR tC tB w _ ?s1 GE.out ?s3 ?s4 ?s5 ?s6 ?s7 ?s8 ?s9 HC0.out ?s11 HC1.out G5.out).mono ?_); (case s1 => (with_reducible repeat (first | refine on_ ?_ _ | refine od_ ?_ | refine oa_ ?_ _)); exact BK.out); (case s3 => exact (by repeat (first | (with_reducible first | exact HB.out | apply ba_ | apply bn_ | apply bd_ | refine bs_ ?_ GE.out) | exact HB.out))); (case s4 => exact R_me_ (zR_ HO1.out)); (case s5 => exact (fun k_ e_ h_ => (HO1.out.1 k_ e_.symm).1 h_)); (case s6 => exact R_me_ (zR_ HO2.out)); (case s7 => exact (fun k_ e_ h_ => (HO2.out.1 k_ e_.symm).1 h_)); (case s8 => exact R_me_ (zR_ HO3.out)); (case s9 => exact Kd.C_kept_came k26_heap HR0.out (by repeat (first | (with_reducible first | exact HB.out | apply ba_ | apply bn_ | apply bd_ | refine bs_ ?_ GE.out) | exact HB.out)) (fun k_ hs_ => hs_.elim (fun e_ => e_.elim (fun e_ => Kd.R_base HO1.out k_ e_.symm) (fun e_ => e_.elim (fun e_ => Kd.R_base HO2.out k_ e_.symm) (fun e_ => Kd.R_base HO3.out k_ e_.symm))) (fun e_ => by rw [e_]; exact GE.out))); (case s11 => exact Kd.C_kept_came (Kd.heap_int .i64) HR1.out (by repeat (first | (with_reducible first | exact HB.out | apply ba_ | apply bn_ | apply bd_ | refine bs_ ?_ GE.out) | exact HB.out)) (fun k_ hs_ => hs_.elim (fun e_ => e_.elim (fun e_ => Kd.R_base HO1.out k_ e_.symm) (fun e_ => e_.elim (fun e_ => Kd.R_base HO2.out k_ e_.symm) (fun e_ => Kd.R_base HO3.out k_ e_.symm))) (fun e_ => by rw [e_]; exact GE.out))); rintro e w20 ⟨rfl, hbx, ho1, ho2, ho3, hb, hkp⟩; have n0_ := Aside0.mk (R_as_ HO1.out ho1); have n1_ := Aside0.mk (R_as_ HO2.out ho2); have n2_ := Aside0.mk (R_as_ HO3.out ho3); have n5_ := Aside0.mk (Kd.R_mono (Kd.R_kept (Kd.R_types (Kd.R_apart' (zR_ HOT.out) (Kd.R_typed (zR_ HO3.out)) (by decide)) (zO_ BK.out) (by decide)) hkp (fun k_ hk hs_ => hs_.elim (fun e_ => e_.elim hk.1.1.1 (fun e_ => e_.elim hk.1.1.2 hk.1.2)) hk.2)) (fun _ hk => hk.1.1)); clear HO1 HO2 HO3 BK HB HOT; have HO1 := n0_; have HO2 := n1_; have HO3 := n2_; have BK := Aside0.mk hbx; have HB := Aside0.mk hb; have HOT := n5_; clear n0_ n1_ n2_ n5_; clear hbx ho1 ho2 ho3 hb hkp; (try clear hcz17_0 hcz17_1 hcz17_2 hcz17_3 hfz17_0 hfz17_1 hfz17_2 hfz17_3); have hcz21_0 : w20.cell? ⟨gb, 0, none⟩ = some (.int .i64 ta) := (blk_cell BK.out 0).trans rfl; have hcz21_1 : w20.cell? ⟨gb, 1, none⟩ = some (u1) := (blk_cell BK.out 1).trans rfl; have hcz21_2 : w20.cell? ⟨gb, 2, none⟩ = some (u2) := (blk_cell BK.out 2).trans rfl; have hcz21_3 : w20.cell? ⟨gb, 3, none⟩ = some (u3) := (blk_cell BK.out 3).trans rfl; have hfz21_0 := blk_frozen BK.out 0; have hfz21_1 := blk_frozen BK.out 1; have hfz21_2 := blk_frozen BK.out 2; have hfz21_3 := blk_frozen BK.out 3))
      go_roundg k1
      case measure => have := HK1.out; omega
      case rel => exact ⟨y, ta, tR, tC, tB, u1, u2, u3, H', ⟨by have := HK1.out; omega⟩, ⟨zR_ HOT.out⟩, ⟨by (with_reducible repeat (first | apply Ra_ | apply Rn_ | apply Rd_)); exact Kd.R_mono HO1.out (fun _ hk => ⟨hk.2, hk.1⟩)⟩, ⟨by (with_reducible repeat (first | apply Ra_ | apply Rn_ | apply Rd_)); exact Kd.R_mono HO2.out (fun _ hk => ⟨hk.2, hk.1⟩)⟩, ⟨zR_ HO3.out⟩, ⟨zO_ BK.out⟩, ⟨by repeat (first | (with_reducible first | exact HB.out | apply ba_ | apply bn_ | apply bd_ | refine bs_ ?_ GE.out) | exact HB.out)⟩⟩
    rw [if_neg c3] at h
    have c3b0 : (tf == 0) = false := beq_eq_false_iff_ne.mpr c3
    have c3b1 : (tf != 0) = true := bne_iff_ne.mpr c3
    clear c3
    simp only [Option.some.injEq, Prod.mk.injEq] at h
    obtain ⟨rfl, rfl, rfl, rfl⟩ := h
    go_wp2_with (first | ((with_reducible refine gate_builtin (b := .append) (xs := #[.tmp 24, .tmp 26]) rfl ?_); at_builtin; refine Kd.R_append (Kd.int .i64) (w0 := w) w.heap.size rfl (.tmp 24) (.tmp 26) 37 3 (.int .i64 0) 8 rfl Try.underlying37 info3 rfl (by decide) (by omega) (.slice Ao xt.length co) xt xa [.int .i64 xa] (fun k_ => some k_ ≠ (u1 : Value).ownBlock ∧ some k_ ≠ (u2 : Value).ownBlock) (fun _ => False) rfl rfl ?aP (fun _ hk => hk.elim) ?aF ?aO ?aB ?aS ?aL ?_; (case aP => exact rfl); (case aB => exact (by repeat (first | (with_reducible first | exact HB.out | apply ba_ | apply bn_ | apply bd_ | refine bs_ ?_ GE.out) | exact HB.out))); (case aF => exact (fun k_ hk => ⟨Kd.fresh' (Kd.R_lt (zR_ HO1.out)) k_ hk, Kd.fresh' (Kd.R_lt (zR_ HO2.out)) k_ hk⟩)); (case aO => exact (zR_ HOT.out)); (case aS => exact (below_size (by repeat (first | (with_reducible first | exact HB.out | apply ba_ | apply bn_ | apply bd_ | refine bs_ ?_ GE.out) | exact HB.out)))); (case aL => have := LM.out; omega); intro v27 w16 ho hb hg hat; rw [← NY.out] at ho; have n0_ := Aside0.mk (Kd.R_after (ok := (fun k_ => some k_ ≠ (u2 : Value).ownBlock)) (by (with_reducible repeat (first | apply Ra_ | apply Rn_ | apply Rd_)); exact Kd.R_mono HO1.out (fun _ hk => ⟨hk.2, hk.1⟩)) hg hat); have n1_ := Aside0.mk (Kd.R_after (ok := (fun k_ => some k_ ≠ (u1 : Value).ownBlock)) (by (with_reducible repeat (first | apply Ra_ | apply Rn_ | apply Rd_)); exact Kd.R_mono HO2.out (fun _ hk => ⟨hk.2, hk.1⟩)) hg hat); have n2_ := Aside0.mk (Kd.R_over' (zR_ HO3.out) (Kd.R_typed (zR_ HOT.out)) (by decide) hg); have n3_ := Aside0.mk (blk_grown (g := gb) (o := .cells #[.int .i64 xa, u1, u2, u3] 116 (0, 0)) (zO_ BK.out) hg (Kd.R_ne HOT.out BK.out (by decide))); have n4_ := Aside0.mk (hb); have n5_ := Aside0.mk (ho); clear HO1 HO2 HO3 BK HB HOT; have HO1 := n0_; have HO2 := n1_; have HO3 := n2_; have BK := n3_; have HB := n4_; have HOT := n5_; clear n0_ n1_ n2_ n3_ n4_ n5_; clear ho hb hg hat; have hcz17_0 : w16.cell? ⟨gb, 0, none⟩ = some (.int .i64 xa) := (blk_cell BK.out 0).trans rfl; have hcz17_1 : w16.cell? ⟨gb, 1, none⟩ = some (u1) := (blk_cell BK.out 1).trans rfl; have hcz17_2 : w16.cell? ⟨gb, 2, none⟩ = some (u2) := (blk_cell BK.out 2).trans rfl; have hcz17_3 : w16.cell? ⟨gb, 3, none⟩ = some (u3) := (blk_cell BK.out 3).trans rfl; have hfz17_0 := blk_frozen BK.out 0; have hfz17_1 := blk_frozen BK.out 1; have hfz17_2 := blk_frozen BK.out 2; have hfz17_3 := blk_frozen BK.out 3) | (go_at_call 96; (with_reducible refine (impl_Machine_step.calls k1 gb xa (fun k_ => some k_ = (u1 : Value).ownBlock) u1 xR (fun k_ => some k_ = (u2 : Value).ownBlock) u2 xC (fun k_ => some k_ = (u3 : Value).ownBlock) u3 xB _ _ l0 _ _ l1 tf te ta tR tC tB w _ ?s1 GE.out ?s3 ?s4 ?s5 ?s6 ?s7 ?s8 ?s9 HC0.out ?s11 HC1.out G5.out).mono ?_); (case s1 => (with_reducible repeat (first | refine on_ ?_ _ | refine od_ ?_ | refine oa_ ?_ _)); exact BK.out); (case s3 => exact (by repeat (first | (with_reducible first | exact HB.out | apply ba_ | apply bn_ | apply bd_ | refine bs_ ?_ GE.out) | exact HB.out))); (case s4 => exact R_me_ (zR_ HO1.out)); (case s5 => exact (fun k_ e_ h_ => (HO1.out.1 k_ e_.symm).1 h_)); (case s6 => exact R_me_ (zR_ HO2.out)); (case s7 => exact (fun k_ e_ h_ => (HO2.out.1 k_ e_.symm).1 h_)); (case s8 => exact R_me_ (zR_ HO3.out)); (case s9 => exact Kd.C_kept_came k26_heap HR0.out (by repeat (first | (with_reducible first | exact HB.out | apply ba_ | apply bn_ | apply bd_ | refine bs_ ?_ GE.out) | exact HB.out)) (fun k_ hs_ => hs_.elim (fun e_ => e_.elim (fun e_ => Kd.R_base HO1.out k_ e_.symm) (fun e_ => e_.elim (fun e_ => Kd.R_base HO2.out k_ e_.symm) (fun e_ => Kd.R_base HO3.out k_ e_.symm))) (fun e_ => by rw [e_]; exact GE.out))); (case s11 => exact Kd.C_kept_came (Kd.heap_int .i64) HR1.out (by repeat (first | (with_reducible first | exact HB.out | apply ba_ | apply bn_ | apply bd_ | refine bs_ ?_ GE.out) | exact HB.out)) (fun k_ hs_ => hs_.elim (fun e_ => e_.elim (fun e_ => Kd.R_base HO1.out k_ e_.symm) (fun e_ => e_.elim (fun e_ => Kd.R_base HO2.out k_ e_.symm) (fun e_ => Kd.R_base HO3.out k_ e_.symm))) (fun e_ => by rw [e_]; exact GE.out))); rintro e w20 ⟨rfl, hbx, ho1, ho2, ho3, hb, hkp⟩; have n0_ := Aside0.mk (R_as_ HO1.out ho1); have n1_ := Aside0.mk (R_as_ HO2.out ho2); have n2_ := Aside0.mk (R_as_ HO3.out ho3); have n5_ := Aside0.mk (Kd.R_mono (Kd.R_kept (Kd.R_types (Kd.R_apart' (zR_ HOT.out) (Kd.R_typed (zR_ HO3.out)) (by decide)) (zO_ BK.out) (by decide)) hkp (fun k_ hk hs_ => hs_.elim (fun e_ => e_.elim hk.1.1.1 (fun e_ => e_.elim hk.1.1.2 hk.1.2)) hk.2)) (fun _ hk => hk.1.1)); clear HO1 HO2 HO3 BK HB HOT; have HO1 := n0_; have HO2 := n1_; have HO3 := n2_; have BK := Aside0.mk hbx; have HB := Aside0.mk hb; have HOT := n5_; clear n0_ n1_ n2_ n5_; clear hbx ho1 ho2 ho3 hb hkp; (try clear hcz17_0 hcz17_1 hcz17_2 hcz17_3 hfz17_0 hfz17_1 hfz17_2 hfz17_3); have hcz21_0 : w20.cell? ⟨gb, 0, none⟩ = some (.int .i64 ta) := (blk_cell BK.out 0).trans rfl; have hcz21_1 : w20.cell? ⟨gb, 1, none⟩ = some (u1) := (blk_cell BK.out 1).trans rfl; have hcz21_2 : w20.cell? ⟨gb, 2, none⟩ = some (u2) := (blk_cell BK.out 2).trans rfl; have hcz21_3 : w20.cell? ⟨gb, 3, none⟩ = some (u3) := (blk_cell BK.out 3).trans rfl; have hfz21_0 := blk_frozen BK.out 0; have hfz21_1 := blk_frozen BK.out 1; have hfz21_2 := blk_frozen BK.out 2; have hfz21_3 := blk_frozen BK.out 3))
    refine bodyPost_ret (results_list (rs := [.tmp 6, .tmp 7, .tmp 8, .tmp 9]) rfl (by simp) (.tmp (.tmp (.tmp (.tmp .nil))))) rfl ?_
    exact ⟨_, by first | rfl | simp | (simp [*]; done), by (with_reducible repeat (first | apply Ra_ | apply Rn_ | apply Rd_)); exact Kd.R_mono HOT.out (fun _ _ => trivial), by repeat (first | (with_reducible first | exact HB.out | apply ba_ | apply bn_ | apply bd_ | refine bs_ ?_ GE.out) | exact HB.out)⟩
   rw [if_neg c2] at h
   cases h
def impl_TraceOf.j0 : Nat → List (S26) → List Int → Bool → Option (List Int × Int × Bool)
 | 0, _, _, _ => none
 | k + 1, x0, x1, x18 => if x18 = true then (some (([] : List Int), 0, false)) else ((impl_run.f k x0 x1 100).bind fun bt279 => (some (bt279.2.2.2, bt279.2.1, true)))
def impl_TraceOf.f (k : Nat) (l0 : List (S26)) (l1 : List Int) : Option (List Int × Int × Bool) := (impl_GoodProgram.f k l0).bind fun t277 => (if t277 = true then ((impl_isContext.f l1).bind fun t278 => (impl_TraceOf.j0 k l0 l1 (!t278))) else (impl_TraceOf.j0 k l0 l1 true))
theorem impl_TraceOf.mono_l : ∀ k, (∀ y0 y1 y2, LeO (impl_TraceOf.j0 k y0 y1 y2) (impl_TraceOf.j0 (k + 1) y0 y1 y2))
 | 0 => fun _ _ _ r h => by simp [impl_TraceOf.j0] at h
 | k + 1 => by
  have ih0 := impl_TraceOf.mono_l k
  ·intro y0 y1 y2
   unfold impl_TraceOf.j0
   repeat' first
   | (with_reducible exact ih0 _ _ _)
   | (with_reducible exact impl_GoodProgram.mono _ _)
   | (with_reducible exact impl_run.mono _ _ _ _)
   | (with_reducible exact LeO.refl _)
   | (with_reducible exact LeO.none _)
   | (with_reducible refine LeO.ite ?_ ?_)
   | (with_reducible refine LeO.bind ?_ (fun _ => ?_))
   | exact ih0 _ _ _
   | exact impl_GoodProgram.mono _ _
   | exact impl_run.mono _ _ _ _
   | exact LeO.none _
   | refine LeO.ite ?_ ?_
   | refine LeO.bind ?_ (fun _ => ?_)
theorem impl_TraceOf.mono : ∀ a0 a1 k, LeO (impl_TraceOf.f k a0 a1) (impl_TraceOf.f (k + 1) a0 a1) := by
 intro a0 a1 k
 have ih0 := impl_TraceOf.mono_l k
 unfold impl_TraceOf.f
 repeat' first
   | (with_reducible exact ih0 _ _ _)
   | (with_reducible exact impl_GoodProgram.mono _ _)
   | (with_reducible exact impl_run.mono _ _ _ _)
   | (with_reducible exact LeO.refl _)
   | (with_reducible exact LeO.none _)
   | (with_reducible refine LeO.ite ?_ ?_)
   | (with_reducible refine LeO.bind ?_ (fun _ => ?_))
   | exact ih0 _ _ _
   | exact impl_GoodProgram.mono _ _
   | exact impl_run.mono _ _ _ _
   | exact LeO.none _
   | refine LeO.ite ?_ ?_
   | refine LeO.bind ?_ (fun _ => ?_)
set_option maxHeartbeats 8000000 in
set_option maxRecDepth 100000 in
theorem impl_TraceOf.calls (k : Nat) (A0 : Option Addr) (c0 : Nat) (l0 : List (S26)) (A1 : Option Addr) (c1 : Nat) (l1 : List Int) (r1 : List Int) (r2 : Int) (r3 : Bool) (w : World) (hr0 : Kd.C k26 w A0 l0.length l0) (hc0 : l0.length ≤ c0) (hr1 : Kd.C (Kd.int .i64) w A1 l1.length l1) (hc1 : l1.length ≤ c1) (h : impl_TraceOf.f k l0 l1 = some (r1, r2, r3)) :
  Calls Try.prog 53 #[.slice A0 l0.length c0, .slice A1 l1.length c1] w fun e w' => ∃ v0_ : Value, e = .returned (.tuple #[v0_, .int .i64 r2, .bool r3]) ∧ Kd.R (Kd.int .i64) 3 w' w.heap.size (fun _ => True) v0_ r1 ∧ Below w.heap.size w w' := by
 have HR0 := Aside0.mk hr0
 have HC0 := Aside0.mk hc0
 clear hr0 hc0
 have HR1 := Aside0.mk hr1
 have HC1 := Aside0.mk hc1
 clear hr1 hc1
 have HB := Aside0.mk (Below.refl w.heap.size w)
 have H : ((impl_GoodProgram.f k l0).bind fun t277 => (if t277 = true then ((impl_isContext.f l1).bind fun t278 => (impl_TraceOf.j0 k l0 l1 (!t278))) else (impl_TraceOf.j0 k l0 l1 true))) = some (r1, r2, r3) := h
 clear h
 have HC3 := Aside0.mk H
 clear H
 go_enter Try.func53, Try.ntmps53
 go_upto_region 1 with (fail)
 go_cut [18] (fun v18 wc => ∃ (kq : Nat) (x18_2 : Bool), v18 = .bool x18_2 ∧ Aside0 (impl_TraceOf.j0 kq l0 l1 x18_2 = some (r1, r2, r3)) ∧ Aside0 (kq ≤ k) ∧ Aside0 (Below w.heap.size w wc))
 case first => as_aux_lemma =>
  have H := HC3.out
  clear HC3
  replace H := Option.bind_eq_some_iff.mp H
  obtain ⟨t277, A40, H⟩ := H
  (try dsimp only at H)
  have A4 := Aside0.mk A40
  clear A40
  by_cases c5 : t277 = true
  ·subst c5
   have H1 : ((impl_isContext.f l1).bind fun t278 => (impl_TraceOf.j0 k l0 l1 (!t278))) = some (r1, r2, r3) := by rw [if_pos rfl] at H; exact H
   clear H
   have H := H1
   clear H1
   replace H := Option.bind_eq_some_iff.mp H
   obtain ⟨t278, A60, H⟩ := H
   (try dsimp only at H)
   have A6 := Aside0.mk A60
   clear A60
   have H' := Aside0.mk H
   clear H
   go_wp2_with (first | ((with_reducible refine gate_callee (f := 20) rfl ?_); refine goesL_ (some 12) rfl rfl Try.func20 (by kernel_rfl) rfl #[.slice A0 l0.length c0] rfl (by simp only [zA_, zB_, zD_] <;> rfl) ?_; (with_reducible refine (impl_GoodProgram.calls k _ _ l0 true _ ?side1 ?side2 A4.out).mono ?_); (case side1 => exact zC_ (Kd.C_below HR0.out HB.out)); (case side2 => exact HC0.out); rintro e w7 ⟨rfl, hb⟩; refine ⟨_, rfl, ?_⟩; have n0_ := Aside0.mk (below_step (zb_ HB.out) hb); clear HB; have HB := n0_; clear n0_; (try clear hb); (try clear hb2); (try clear hk); (try clear hi)) | (go_at_call 76; (with_reducible refine (impl_isContext.calls _ _ l1 t278 _ ?side1 ?side2 A6.out).mono ?_); (case side1 => exact zC_ (Kd.C_below HR1.out HB.out)); (case side2 => exact HC1.out); rintro e w8 ⟨rfl, hb⟩; have n0_ := Aside0.mk (below_step (zb_ HB.out) hb); clear HB; have HB := n0_; clear n0_; (try clear hb); (try clear hb2); (try clear hk); (try clear hi)))
   go_meet
   case rel => exact ⟨_, (!t278), (by first | rfl | (simp; done) | (simp [*]; done)), H', ⟨by first | omega | exact Nat.le_refl _⟩, ⟨zb_ HB.out⟩⟩
  ·replace c5 := Bool.eq_false_iff.mpr c5
   subst c5
   have H1 : (impl_TraceOf.j0 k l0 l1 true) = some (r1, r2, r3) := by rw [if_neg (show ¬ (false = true) by decide)] at H; exact H
   clear H
   have H := H1
   clear H1
   have H' := Aside0.mk H
   clear H
   go_wp2_with (first | ((with_reducible refine gate_callee (f := 20) rfl ?_); refine goesL_ (some 12) rfl rfl Try.func20 (by kernel_rfl) rfl #[.slice A0 l0.length c0] rfl (by simp only [zA_, zB_, zD_] <;> rfl) ?_; (with_reducible refine (impl_GoodProgram.calls k _ _ l0 false _ ?side1 ?side2 A4.out).mono ?_); (case side1 => exact zC_ (Kd.C_below HR0.out HB.out)); (case side2 => exact HC0.out); rintro e w9 ⟨rfl, hb⟩; refine ⟨_, rfl, ?_⟩; have n0_ := Aside0.mk (below_step (zb_ HB.out) hb); clear HB; have HB := n0_; clear n0_; (try clear hb); (try clear hb2); (try clear hk); (try clear hi)))
   go_meet
   case rel => exact ⟨_, (true), (by first | rfl | (simp; done) | (simp [*]; done)), H', ⟨by first | omega | exact Nat.le_refl _⟩, ⟨zb_ HB.out⟩⟩
 case rest => as_aux_lemma =>
  clear HC3
  obtain ⟨kq, x18_2, rfl, HA, HJ2, HB⟩ := hcut
  cases kq with
  | zero => exact absurd HA.out (by simp [impl_TraceOf.j0])
  | succ kj2 =>
   have H := HA.out
   clear HA
   simp only [impl_TraceOf.j0] at H
   by_cases c10 : x18_2 = true
   ·subst c10
    have H1 : (some (([] : List Int), 0, false)) = some (r1, r2, r3) := by rw [if_pos rfl] at H; exact H
    clear H
    have H := H1
    clear H1
    simp only [Option.some.injEq, Prod.mk.injEq] at H
    obtain ⟨rfl, rfl, rfl⟩ := H
    go_wp2
    go_ret3
    exact ⟨_, by first | rfl | (simp <;> rfl) | (simp [*] <;> rfl), by first | exact Kd.R_nil _ _ _ _ _ | exact Kd.N_nil _ _ _ _ _ | exact Kd.V_nil _ _ _ _ _ | exact Kd.Q_nil _ _ _ _ _ | exact Kd.S_nil _ _ _ _ _, zb_ HB.out⟩
   ·replace c10 := Bool.eq_false_iff.mpr c10
    subst c10
    have H1 : ((impl_run.f kj2 l0 l1 100).bind fun bt279 => (some (bt279.2.2.2, bt279.2.1, true))) = some (r1, r2, r3) := by rw [if_neg (show ¬ (false = true) by decide)] at H; exact H
    clear H
    have H := H1
    clear H1
    replace H := Option.bind_eq_some_iff.mp H
    obtain ⟨⟨t279, t280, t281, t282⟩, A110, H⟩ := H
    (try dsimp only at H)
    have A11 := Aside0.mk A110
    clear A110
    simp only [Option.some.injEq, Prod.mk.injEq] at H
    obtain ⟨rfl, rfl, rfl⟩ := H
    go_wp2_with (first | ((with_reducible refine gate_callee (f := 77) rfl ?_); refine goesL_ (some 22) rfl rfl Try.func77 (by kernel_rfl) rfl #[.slice A0 l0.length c0, .slice A1 l1.length c1, .int .i64 100] rfl (by simp only [zA_, zB_, zD_] <;> rfl) ?_; (with_reducible refine (impl_run.calls kj2 _ _ l0 _ _ l1 100 t279 t280 t281 t282 _ ?side1 ?side2 ?side3 ?side4 A11.out).mono ?_); (case side1 => exact zC_ (Kd.C_below HR0.out HB.out)); (case side2 => exact HC0.out); (case side3 => exact zC_ (Kd.C_below HR1.out HB.out)); (case side4 => exact HC1.out); rintro e w12 ⟨v283, rfl, ho0, hb⟩; refine ⟨_, rfl, ?_⟩; have n0_ := Aside0.mk (Kd.R_lower ho0 (below_size (zb_ HB.out))); have n1_ := Aside0.mk (below_step (zb_ HB.out) hb); clear HB; have HO284 := n0_; have HB := n1_; clear n0_ n1_; (try clear hb); (try clear hb2); (try clear hk); (try clear hi); (try clear ho0)))
    go_ret3
    exact ⟨_, by first | rfl | (simp <;> rfl) | (simp [*] <;> rfl), zR_ HO284.out, zb_ HB.out⟩
def laws_FnExactTraceOf.f (k : Nat) (l0 : List (S23)) (l1 : List Int) : Option (Bool) := if (l1.length : Int) > 1048576 then (some true) else ((laws_szStepS.f l0 1048576).bind fun t285 => (if t285 < 0 then (some true) else ((laws_toStepS.f k l0).bind fun t286 => ((laws_toIntS.f k l1).bind fun t289 => ((spec_TraceOf.f k t286 t289).bind fun bt292 => ((laws_toStepS.f k l0).bind fun t297 => ((laws_toIntS.f k l1).bind fun t300 => ((impl_TraceOf.f k t297 t300).bind fun bt303 => ((laws_eqIntS.f k bt303.1 bt292.1).bind fun t308 => (if t308 = true then (if bt303.2.1 = bt292.2.1 then (if (bt303.2.2 != bt292.2.2) = true then (none) else ((laws_toStepS.f k l0).bind fun t309 => ((laws_eqStepS.f k t297 t309).bind fun t312 => (if t312 = true then ((laws_toIntS.f k l1).bind fun t313 => ((laws_eqIntS.f k t300 t313).bind fun t316 => (if t316 = true then ((laws_markStepS.f k t297 1).bind fun bt317 => ((laws_markIntS.f k t300 bt317.1).bind fun bt319 => (if bt319.1 < 0 then (none) else ((laws_eqIntS.f k bt303.1 bt292.1).bind fun t321 => (if t321 = true then ((laws_markIntS.f k bt303.1 1).bind fun bt322 => ((laws_heldIntS.f k bt322.2 1).bind fun t324 => (if t324 < 0 then (none) else (if t324 = bt322.1 then ((laws_toStepS.f k l0).bind fun t325 => ((laws_toIntS.f k l1).bind fun t328 => ((impl_TraceOf.f k t325 t328).bind fun bt331 => ((laws_eqIntS.f k bt331.1 bt292.1).bind fun t336 => (if t336 = true then (if bt331.2.1 = bt292.2.1 then (if (bt331.2.2 != bt292.2.2) = true then (none) else ((laws_heldIntS.f k bt322.2 1).bind fun t337 => (if t337 < 0 then (none) else (if t337 = bt322.1 then (some true) else (none))))) else (none)) else (none)))))) else (none))))) else (none)))))) else (none)))) else (none))))) else (none)) else (none)))))))))))
theorem laws_FnExactTraceOf.mono : ∀ a0 a1 k, LeO (laws_FnExactTraceOf.f k a0 a1) (laws_FnExactTraceOf.f (k + 1) a0 a1) := by
 intro a0 a1 k
 unfold laws_FnExactTraceOf.f
 repeat' first
   | (with_reducible exact impl_TraceOf.mono _ _ _)
   | (with_reducible exact laws_eqIntS.mono _ _ _)
   | (with_reducible exact laws_eqStepS.mono _ _ _)
   | (with_reducible exact laws_heldIntS.mono _ _ _)
   | (with_reducible exact laws_markIntS.mono _ _ _)
   | (with_reducible exact laws_markStepS.mono _ _ _)
   | (with_reducible exact laws_toIntS.mono _ _)
   | (with_reducible exact laws_toStepS.mono _ _)
   | (with_reducible exact spec_TraceOf.mono _ _ _)
   | (with_reducible exact LeO.refl _)
   | (with_reducible exact LeO.none _)
   | (with_reducible refine LeO.ite ?_ ?_)
   | (with_reducible refine LeO.bind ?_ (fun _ => ?_))
   | exact impl_TraceOf.mono _ _ _
   | exact laws_eqIntS.mono _ _ _
   | exact laws_eqStepS.mono _ _ _
   | exact laws_heldIntS.mono _ _ _
   | exact laws_markIntS.mono _ _ _
   | exact laws_markStepS.mono _ _ _
   | exact laws_toIntS.mono _ _
   | exact laws_toStepS.mono _ _
   | exact spec_TraceOf.mono _ _ _
   | exact LeO.none _
   | refine LeO.ite ?_ ?_
   | refine LeO.bind ?_ (fun _ => ?_)
set_option maxHeartbeats 8000000 in
set_option maxRecDepth 100000 in
theorem laws_FnExactTraceOf.calls (k : Nat) (A0 : Option Addr) (c0 : Nat) (l0 : List (S23)) (A1 : Option Addr) (c1 : Nat) (l1 : List Int) (r : Bool) (w : World) (hr0 : Kd.C k23 w A0 l0.length l0) (hc0 : l0.length ≤ c0) (hr1 : Kd.C (Kd.int .i64) w A1 l1.length l1) (hc1 : l1.length ≤ c1) (h : laws_FnExactTraceOf.f k l0 l1 = some r) :
  Calls Try.prog 13 #[.slice A0 l0.length c0, .slice A1 l1.length c1] w fun e w' => e = .returned (.bool r) ∧ Below w.heap.size w w' := by
 have HR0 := Aside0.mk hr0
 have HC0 := Aside0.mk hc0
 clear hr0 hc0
 have HR1 := Aside0.mk hr1
 have HC1 := Aside0.mk hc1
 clear hr1 hc1
 have HB := Aside0.mk (Below.refl w.heap.size w)
 have HTop := Aside0.mk (Nat.zero_le w.heap.size)
 have H : (if (l1.length : Int) > 1048576 then (some true) else ((laws_szStepS.f l0 1048576).bind fun t285 => (if t285 < 0 then (some true) else ((laws_toStepS.f k l0).bind fun t286 => ((laws_toIntS.f k l1).bind fun t289 => ((spec_TraceOf.f k t286 t289).bind fun bt292 => ((laws_toStepS.f k l0).bind fun t297 => ((laws_toIntS.f k l1).bind fun t300 => ((impl_TraceOf.f k t297 t300).bind fun bt303 => ((laws_eqIntS.f k bt303.1 bt292.1).bind fun t308 => (if t308 = true then (if bt303.2.1 = bt292.2.1 then (if (bt303.2.2 != bt292.2.2) = true then (none) else ((laws_toStepS.f k l0).bind fun t309 => ((laws_eqStepS.f k t297 t309).bind fun t312 => (if t312 = true then ((laws_toIntS.f k l1).bind fun t313 => ((laws_eqIntS.f k t300 t313).bind fun t316 => (if t316 = true then ((laws_markStepS.f k t297 1).bind fun bt317 => ((laws_markIntS.f k t300 bt317.1).bind fun bt319 => (if bt319.1 < 0 then (none) else ((laws_eqIntS.f k bt303.1 bt292.1).bind fun t321 => (if t321 = true then ((laws_markIntS.f k bt303.1 1).bind fun bt322 => ((laws_heldIntS.f k bt322.2 1).bind fun t324 => (if t324 < 0 then (none) else (if t324 = bt322.1 then ((laws_toStepS.f k l0).bind fun t325 => ((laws_toIntS.f k l1).bind fun t328 => ((impl_TraceOf.f k t325 t328).bind fun bt331 => ((laws_eqIntS.f k bt331.1 bt292.1).bind fun t336 => (if t336 = true then (if bt331.2.1 = bt292.2.1 then (if (bt331.2.2 != bt292.2.2) = true then (none) else ((laws_heldIntS.f k bt322.2 1).bind fun t337 => (if t337 < 0 then (none) else (if t337 = bt322.1 then (some true) else (none))))) else (none)) else (none)))))) else (none))))) else (none)))))) else (none)))) else (none))))) else (none)) else (none)))))))))))) = some r := h
 clear h
 by_cases c3 : (l1.length : Int) > 1048576
 ·rw [if_pos c3] at H
  have c3b0 : decide (1048576 < (l1.length : Int)) = true := decide_eq_true c3
  have c3b1 : decide (1048576 < l1.length) = true := decide_eq_true (by omega)
  clear c3
  obtain rfl := Option.some.inj H
  go_enter Try.func13, Try.ntmps13
  go_wp2
  go_ret
  exact ⟨by first | rfl | (simp <;> rfl) | (simp [*] <;> rfl), zb_ HB.out⟩
 rw [if_neg c3] at H
 have c3b0 : decide (1048576 < (l1.length : Int)) = false := decide_eq_false c3
 have c3b1 : decide (1048576 < l1.length) = false := decide_eq_false (by omega)
 clear c3
 replace H := Option.bind_eq_some_iff.mp H
 obtain ⟨t285, A40, H⟩ := H
 (try dsimp only at H)
 have A4 := Aside0.mk A40
 clear A40
 by_cases c5 : t285 < 0
 ·rw [if_pos c5] at H
  have c5b0 : decide (t285 < 0) = true := decide_eq_true c5
  clear c5
  obtain rfl := Option.some.inj H
  go_enter Try.func13, Try.ntmps13
  go_wp2_with (first | ((with_reducible refine gate_callee (f := 17) rfl ?_); refine goesL_ (some 25) rfl rfl Try.func17 (by kernel_rfl) rfl #[.slice A0 l0.length c0, .int .i64 1048576] rfl (by simp only [zA_, zB_, zD_] <;> rfl) ?_; (with_reducible refine (laws_szStepS.calls _ _ l0 1048576 t285 _ ?side1 ?side2 A4.out).mono ?_); (case side1 => exact zC_ HR0.out); (case side2 => exact HC0.out); rintro e w' ⟨rfl, ⟨nd, rfl⟩⟩; refine ⟨_, rfl, ?_⟩))
  go_ret
  exact ⟨by first | rfl | (simp <;> rfl) | (simp [*] <;> rfl), zb_ HB.out⟩
 rw [if_neg c5] at H
 have c5b0 : decide (t285 < 0) = false := decide_eq_false c5
 clear c5
 replace H := Option.bind_eq_some_iff.mp H
 obtain ⟨t286, A60, H⟩ := H
 (try dsimp only at H)
 have A6 := Aside0.mk A60
 clear A60
 replace H := Option.bind_eq_some_iff.mp H
 obtain ⟨t289, A70, H⟩ := H
 (try dsimp only at H)
 have A7 := Aside0.mk A70
 clear A70
 replace H := Option.bind_eq_some_iff.mp H
 obtain ⟨⟨t292, t293, t294⟩, A80, H⟩ := H
 (try dsimp only at H)
 have A8 := Aside0.mk A80
 clear A80
 replace H := Option.bind_eq_some_iff.mp H
 obtain ⟨t297, A90, H⟩ := H
 (try dsimp only at H)
 have A9 := Aside0.mk A90
 clear A90
 replace H := Option.bind_eq_some_iff.mp H
 obtain ⟨t300, A100, H⟩ := H
 (try dsimp only at H)
 have A10 := Aside0.mk A100
 clear A100
 replace H := Option.bind_eq_some_iff.mp H
 obtain ⟨⟨t303, t304, t305⟩, A110, H⟩ := H
 (try dsimp only at H)
 have A11 := Aside0.mk A110
 clear A110
 replace H := Option.bind_eq_some_iff.mp H
 obtain ⟨t308, A120, H⟩ := H
 (try dsimp only at H)
 have A12 := Aside0.mk A120
 clear A120
 by_cases c13 : t308 = true
 ·subst c13
  have H1 : (if t304 = t293 then (if (t305 != t294) = true then (none) else ((laws_toStepS.f k l0).bind fun t309 => ((laws_eqStepS.f k t297 t309).bind fun t312 => (if t312 = true then ((laws_toIntS.f k l1).bind fun t313 => ((laws_eqIntS.f k t300 t313).bind fun t316 => (if t316 = true then ((laws_markStepS.f k t297 1).bind fun bt317 => ((laws_markIntS.f k t300 bt317.1).bind fun bt319 => (if bt319.1 < 0 then (none) else ((laws_eqIntS.f k t303 t292).bind fun t321 => (if t321 = true then ((laws_markIntS.f k t303 1).bind fun bt322 => ((laws_heldIntS.f k bt322.2 1).bind fun t324 => (if t324 < 0 then (none) else (if t324 = bt322.1 then ((laws_toStepS.f k l0).bind fun t325 => ((laws_toIntS.f k l1).bind fun t328 => ((impl_TraceOf.f k t325 t328).bind fun bt331 => ((laws_eqIntS.f k bt331.1 t292).bind fun t336 => (if t336 = true then (if bt331.2.1 = t293 then (if (bt331.2.2 != t294) = true then (none) else ((laws_heldIntS.f k bt322.2 1).bind fun t337 => (if t337 < 0 then (none) else (if t337 = bt322.1 then (some true) else (none))))) else (none)) else (none)))))) else (none))))) else (none)))))) else (none)))) else (none))))) else (none)) = some r := by rw [if_pos rfl] at H; exact H
  clear H
  have H := H1
  clear H1
  by_cases c14 : t304 = t293
  ·rw [if_pos c14] at H
   have c14b0 : (t304 == t293) = true := beq_iff_eq.mpr c14
   have c14b1 : (t304 != t293) = false := bne_eq_false_iff_eq.mpr c14
   clear c14
   by_cases c15 : (t305 != t294) = true
   ·rw [if_pos c15] at H
    exact absurd H (by simp)
   rw [if_neg c15] at H
   have c15b0 : (t305 != t294) = false := by simpa using c15
   (try (have c15b1 : decide (t305 = t294) = true := by simpa using c15))
   (try (have c15b2 : (t305 == t294) = true := by simpa using c15))
   clear c15
   replace H := Option.bind_eq_some_iff.mp H
   obtain ⟨t309, A160, H⟩ := H
   (try dsimp only at H)
   have A16 := Aside0.mk A160
   clear A160
   replace H := Option.bind_eq_some_iff.mp H
   obtain ⟨t312, A170, H⟩ := H
   (try dsimp only at H)
   have A17 := Aside0.mk A170
   clear A170
   by_cases c18 : t312 = true
   ·subst c18
    have H1 : ((laws_toIntS.f k l1).bind fun t313 => ((laws_eqIntS.f k t300 t313).bind fun t316 => (if t316 = true then ((laws_markStepS.f k t297 1).bind fun bt317 => ((laws_markIntS.f k t300 bt317.1).bind fun bt319 => (if bt319.1 < 0 then (none) else ((laws_eqIntS.f k t303 t292).bind fun t321 => (if t321 = true then ((laws_markIntS.f k t303 1).bind fun bt322 => ((laws_heldIntS.f k bt322.2 1).bind fun t324 => (if t324 < 0 then (none) else (if t324 = bt322.1 then ((laws_toStepS.f k l0).bind fun t325 => ((laws_toIntS.f k l1).bind fun t328 => ((impl_TraceOf.f k t325 t328).bind fun bt331 => ((laws_eqIntS.f k bt331.1 t292).bind fun t336 => (if t336 = true then (if bt331.2.1 = t293 then (if (bt331.2.2 != t294) = true then (none) else ((laws_heldIntS.f k bt322.2 1).bind fun t337 => (if t337 < 0 then (none) else (if t337 = bt322.1 then (some true) else (none))))) else (none)) else (none)))))) else (none))))) else (none)))))) else (none)))) = some r := by rw [if_pos rfl] at H; exact H
    clear H
    have H := H1
    clear H1
    replace H := Option.bind_eq_some_iff.mp H
    obtain ⟨t313, A190, H⟩ := H
    (try dsimp only at H)
    have A19 := Aside0.mk A190
    clear A190
    replace H := Option.bind_eq_some_iff.mp H
    obtain ⟨t316, A200, H⟩ := H
    (try dsimp only at H)
    have A20 := Aside0.mk A200
    clear A200
    by_cases c21 : t316 = true
    ·subst c21
     have H1 : ((laws_markStepS.f k t297 1).bind fun bt317 => ((laws_markIntS.f k t300 bt317.1).bind fun bt319 => (if bt319.1 < 0 then (none) else ((laws_eqIntS.f k t303 t292).bind fun t321 => (if t321 = true then ((laws_markIntS.f k t303 1).bind fun bt322 => ((laws_heldIntS.f k bt322.2 1).bind fun t324 => (if t324 < 0 then (none) else (if t324 = bt322.1 then ((laws_toStepS.f k l0).bind fun t325 => ((laws_toIntS.f k l1).bind fun t328 => ((impl_TraceOf.f k t325 t328).bind fun bt331 => ((laws_eqIntS.f k bt331.1 t292).bind fun t336 => (if t336 = true then (if bt331.2.1 = t293 then (if (bt331.2.2 != t294) = true then (none) else ((laws_heldIntS.f k bt322.2 1).bind fun t337 => (if t337 < 0 then (none) else (if t337 = bt322.1 then (some true) else (none))))) else (none)) else (none)))))) else (none))))) else (none)))))) = some r := by rw [if_pos rfl] at H; exact H
     clear H
     have H := H1
     clear H1
     replace H := Option.bind_eq_some_iff.mp H
     obtain ⟨⟨t317, t318⟩, A220, H⟩ := H
     (try dsimp only at H)
     have A22 := Aside0.mk A220
     clear A220
     replace H := Option.bind_eq_some_iff.mp H
     obtain ⟨⟨t319, t320⟩, A230, H⟩ := H
     (try dsimp only at H)
     have A23 := Aside0.mk A230
     clear A230
     by_cases c24 : t319 < 0
     ·rw [if_pos c24] at H
      exact absurd H (by simp)
     rw [if_neg c24] at H
     have c24b0 : decide (t319 < 0) = false := decide_eq_false c24
     clear c24
     replace H := Option.bind_eq_some_iff.mp H
     obtain ⟨t321, A250, H⟩ := H
     (try dsimp only at H)
     have A25 := Aside0.mk A250
     clear A250
     by_cases c26 : t321 = true
     ·subst c26
      have H1 : ((laws_markIntS.f k t303 1).bind fun bt322 => ((laws_heldIntS.f k bt322.2 1).bind fun t324 => (if t324 < 0 then (none) else (if t324 = bt322.1 then ((laws_toStepS.f k l0).bind fun t325 => ((laws_toIntS.f k l1).bind fun t328 => ((impl_TraceOf.f k t325 t328).bind fun bt331 => ((laws_eqIntS.f k bt331.1 t292).bind fun t336 => (if t336 = true then (if bt331.2.1 = t293 then (if (bt331.2.2 != t294) = true then (none) else ((laws_heldIntS.f k bt322.2 1).bind fun t337 => (if t337 < 0 then (none) else (if t337 = bt322.1 then (some true) else (none))))) else (none)) else (none)))))) else (none))))) = some r := by rw [if_pos rfl] at H; exact H
      clear H
      have H := H1
      clear H1
      replace H := Option.bind_eq_some_iff.mp H
      obtain ⟨⟨t322, t323⟩, A270, H⟩ := H
      (try dsimp only at H)
      have A27 := Aside0.mk A270
      clear A270
      replace H := Option.bind_eq_some_iff.mp H
      obtain ⟨t324, A280, H⟩ := H
      (try dsimp only at H)
      have A28 := Aside0.mk A280
      clear A280
      by_cases c29 : t324 < 0
      ·rw [if_pos c29] at H
       exact absurd H (by simp)
      rw [if_neg c29] at H
      have c29b0 : decide (t324 < 0) = false := decide_eq_false c29
      clear c29
      by_cases c30 : t324 = t322
      ·rw [if_pos c30] at H
       have c30b0 : (t324 == t322) = true := beq_iff_eq.mpr c30
       have c30b1 : (t324 != t322) = false := bne_eq_false_iff_eq.mpr c30
       clear c30
       replace H := Option.bind_eq_some_iff.mp H
       obtain ⟨t325, A310, H⟩ := H
       (try dsimp only at H)
       have A31 := Aside0.mk A310
       clear A310
       replace H := Option.bind_eq_some_iff.mp H
       obtain ⟨t328, A320, H⟩ := H
       (try dsimp only at H)
       have A32 := Aside0.mk A320
       clear A320
       replace H := Option.bind_eq_some_iff.mp H
       obtain ⟨⟨t331, t332, t333⟩, A330, H⟩ := H
       (try dsimp only at H)
       have A33 := Aside0.mk A330
       clear A330
       replace H := Option.bind_eq_some_iff.mp H
       obtain ⟨t336, A340, H⟩ := H
       (try dsimp only at H)
       have A34 := Aside0.mk A340
       clear A340
       by_cases c35 : t336 = true
       ·subst c35
        have H1 : (if t332 = t293 then (if (t333 != t294) = true then (none) else ((laws_heldIntS.f k t323 1).bind fun t337 => (if t337 < 0 then (none) else (if t337 = t322 then (some true) else (none))))) else (none)) = some r := by rw [if_pos rfl] at H; exact H
        clear H
        have H := H1
        clear H1
        by_cases c36 : t332 = t293
        ·rw [if_pos c36] at H
         have c36b0 : (t332 == t293) = true := beq_iff_eq.mpr c36
         have c36b1 : (t332 != t293) = false := bne_eq_false_iff_eq.mpr c36
         clear c36
         by_cases c37 : (t333 != t294) = true
         ·rw [if_pos c37] at H
          exact absurd H (by simp)
         rw [if_neg c37] at H
         have c37b0 : (t333 != t294) = false := by simpa using c37
         (try (have c37b1 : decide (t333 = t294) = true := by simpa using c37))
         (try (have c37b2 : (t333 == t294) = true := by simpa using c37))
         clear c37
         replace H := Option.bind_eq_some_iff.mp H
         obtain ⟨t337, A380, H⟩ := H
         (try dsimp only at H)
         have A38 := Aside0.mk A380
         clear A380
         by_cases c39 : t337 < 0
         ·rw [if_pos c39] at H
          exact absurd H (by simp)
         rw [if_neg c39] at H
         have c39b0 : decide (t337 < 0) = false := decide_eq_false c39
         clear c39
         by_cases c40 : t337 = t322
         ·rw [if_pos c40] at H
          have c40b0 : (t337 == t322) = true := beq_iff_eq.mpr c40
          have c40b1 : (t337 != t322) = false := bne_eq_false_iff_eq.mpr c40
          clear c40
          obtain rfl := Option.some.inj H
          go_enter Try.func13, Try.ntmps13
          go_wp2_with (first | ((with_reducible refine gate_callee (f := 17) rfl ?_); refine goesL_ (some 25) rfl rfl Try.func17 (by kernel_rfl) rfl #[.slice A0 l0.length c0, .int .i64 1048576] rfl (by simp only [zA_, zB_, zD_] <;> rfl) ?_; (with_reducible refine (laws_szStepS.calls _ _ l0 1048576 t285 _ ?side1 ?side2 A4.out).mono ?_); (case side1 => exact zC_ HR0.out); (case side2 => exact HC0.out); rintro e w' ⟨rfl, ⟨nd, rfl⟩⟩; refine ⟨_, rfl, ?_⟩) | ((with_reducible refine gate_callee (f := 19) rfl ?_); refine goesL_ (some 30) rfl rfl Try.func19 (by kernel_rfl) rfl #[.slice A0 l0.length c0] rfl (by simp only [zA_, zB_, zD_] <;> rfl) ?_; (with_reducible refine (laws_toStepS.calls k _ _ l0 t286 _ ?side1 ?side2 A6.out).mono ?_); (case side1 => exact zC_ HR0.out); (case side2 => exact HC0.out); rintro e w41 ⟨v287, rfl, ho0, hb⟩; refine ⟨_, rfl, ?_⟩; obtain ⟨lo1, hi1, EL1, EH1, LE1⟩ := iv_ hb; have OR1 := Aside0.mk (show 0 ≤ lo1 ∧ lo1 ≤ hi1 from ⟨Nat.zero_le _, LE1⟩); have n0_ := Aside0.mk (Kd.R_mono (ok' := fun k_ => lo1 ≤ k_ ∧ k_ < hi1) (Kd.R_lower (Kd.R_bound ho0) (below_size (zb_ HB.out))) (fun k_ hk_ => by have a_ := hk_.2.1; have b_ := hk_.2.2.1; omega)); have n1_ := Aside0.mk (Nat.le_of_eq EH1.symm); have n2_ := Aside0.mk (below_step (zb_ HB.out) hb); clear HTop; clear HB; have HO288 := n0_; have HTop := n1_; have HB := n2_; clear n0_ n1_ n2_; (try clear hb); (try clear hb2); (try clear hk); (try clear hi); (try clear ho0); (try clear EL1); (try clear EH1); (try clear LE1)) | ((with_reducible refine gate_callee (f := 48) rfl ?_); refine goesL_ (some 32) rfl rfl Try.func48 (by kernel_rfl) rfl #[.slice A1 l1.length c1] rfl (by simp only [zA_, zB_, zD_] <;> rfl) ?_; (with_reducible refine (laws_toIntS.calls k _ _ l1 t289 _ ?side1 ?side2 A7.out).mono ?_); (case side1 => exact zC_ (Kd.C_below HR1.out HB.out)); (case side2 => exact HC1.out); rintro e w42 ⟨v290, rfl, ho0, hb⟩; refine ⟨_, rfl, ?_⟩; obtain ⟨lo2, hi2, EL2, EH2, LE2⟩ := iv_ hb; have OR2 := Aside0.mk (show hi1 ≤ lo2 ∧ lo2 ≤ hi2 from ⟨Nat.le_trans HTop.out (Nat.le_of_eq EL2), LE2⟩); have n0_ := Aside0.mk (Kd.R_below (zR_ HO288.out) hb); have n1_ := Aside0.mk (Kd.R_mono (ok' := fun k_ => lo2 ≤ k_ ∧ k_ < hi2) (Kd.R_lower (Kd.R_bound ho0) (below_size (zb_ HB.out))) (fun k_ hk_ => by have a_ := hk_.2.1; have b_ := hk_.2.2.1; omega)); have n2_ := Aside0.mk (Nat.le_of_eq EH2.symm); have n3_ := Aside0.mk (below_step (zb_ HB.out) hb); clear HO288; clear HTop; clear HB; have HO288 := n0_; have HO291 := n1_; have HTop := n2_; have HB := n3_; clear n0_ n1_ n2_ n3_; (try clear hb); (try clear hb2); (try clear hk); (try clear hi); (try clear ho0); (try clear EL2); (try clear EH2); (try clear LE2); obtain ⟨Ao43, co43, eo43⟩ := Kd.R_slice HO288.out; subst eo43; obtain ⟨Ao44, co44, eo44⟩ := Kd.R_slice HO291.out; subst eo44) | ((with_reducible refine gate_callee (f := 52) rfl ?_); refine goesL_ (some 33) rfl rfl Try.func52 (by kernel_rfl) rfl #[.slice Ao43 t286.length co43, .slice Ao44 t289.length co44] rfl (by simp only [zA_, zB_, zD_] <;> rfl) ?_; (with_reducible refine (spec_TraceOf.calls k _ _ t286 _ _ t289 t292 t293 t294 _ ?side1 ?side2 ?side3 ?side4 A8.out).mono ?_); (case side1 => exact zC_ (Kd.R_reads' HO288.out).2.2); (case side2 => exact (Kd.R_reads' HO288.out).2.1); (case side3 => exact zC_ (Kd.R_reads' HO291.out).2.2); (case side4 => exact (Kd.R_reads' HO291.out).2.1); rintro e w45 ⟨v295, rfl, ho0, hb⟩; refine ⟨_, rfl, ?_⟩; obtain ⟨lo3, hi3, EL3, EH3, LE3⟩ := iv_ hb; have OR3 := Aside0.mk (show hi2 ≤ lo3 ∧ lo3 ≤ hi3 from ⟨Nat.le_trans HTop.out (Nat.le_of_eq EL3), LE3⟩); have n0_ := Aside0.mk (Kd.R_below (zR_ HO288.out) hb); have n1_ := Aside0.mk (Kd.R_below (zR_ HO291.out) hb); have n2_ := Aside0.mk (Kd.R_mono (ok' := fun k_ => lo3 ≤ k_ ∧ k_ < hi3) (Kd.R_lower (Kd.R_bound ho0) (below_size (zb_ HB.out))) (fun k_ hk_ => by have a_ := hk_.2.1; have b_ := hk_.2.2.1; omega)); have n3_ := Aside0.mk (Nat.le_of_eq EH3.symm); have n4_ := Aside0.mk (below_step (zb_ HB.out) hb); clear HO288; clear HO291; clear HTop; clear HB; have HO288 := n0_; have HO291 := n1_; have HO296 := n2_; have HTop := n3_; have HB := n4_; clear n0_ n1_ n2_ n3_ n4_; (try clear hb); (try clear hb2); (try clear hk); (try clear hi); (try clear ho0); (try clear EL3); (try clear EH3); (try clear LE3)) | ((with_reducible refine gate_callee (f := 19) rfl ?_); refine goesL_ (some 38) rfl rfl Try.func19 (by kernel_rfl) rfl #[.slice A0 l0.length c0] rfl (by simp only [zA_, zB_, zD_] <;> rfl) ?_; (with_reducible refine (laws_toStepS.calls k _ _ l0 t297 _ ?side1 ?side2 A9.out).mono ?_); (case side1 => exact zC_ (Kd.C_below HR0.out HB.out)); (case side2 => exact HC0.out); rintro e w46 ⟨v298, rfl, ho0, hb⟩; refine ⟨_, rfl, ?_⟩; obtain ⟨lo4, hi4, EL4, EH4, LE4⟩ := iv_ hb; have OR4 := Aside0.mk (show hi3 ≤ lo4 ∧ lo4 ≤ hi4 from ⟨Nat.le_trans HTop.out (Nat.le_of_eq EL4), LE4⟩); have n0_ := Aside0.mk (Kd.R_below (zR_ HO288.out) hb); have n1_ := Aside0.mk (Kd.R_below (zR_ HO291.out) hb); have n2_ := Aside0.mk (Kd.R_below (zR_ HO296.out) hb); have n3_ := Aside0.mk (Kd.R_mono (ok' := fun k_ => lo4 ≤ k_ ∧ k_ < hi4) (Kd.R_lower (Kd.R_bound ho0) (below_size (zb_ HB.out))) (fun k_ hk_ => by have a_ := hk_.2.1; have b_ := hk_.2.2.1; omega)); have n4_ := Aside0.mk (Nat.le_of_eq EH4.symm); have n5_ := Aside0.mk (below_step (zb_ HB.out) hb); clear HO288; clear HO291; clear HO296; clear HTop; clear HB; have HO288 := n0_; have HO291 := n1_; have HO296 := n2_; have HO299 := n3_; have HTop := n4_; have HB := n5_; clear n0_ n1_ n2_ n3_ n4_ n5_; (try clear hb); (try clear hb2); (try clear hk); (try clear hi); (try clear ho0); (try clear EL4); (try clear EH4); (try clear LE4)) | ((with_reducible refine gate_callee (f := 48) rfl ?_); refine goesL_ (some 40) rfl rfl Try.func48 (by kernel_rfl) rfl #[.slice A1 l1.length c1] rfl (by simp only [zA_, zB_, zD_] <;> rfl) ?_; (with_reducible refine (laws_toIntS.calls k _ _ l1 t300 _ ?side1 ?side2 A10.out).mono ?_); (case side1 => exact zC_ (Kd.C_below HR1.out HB.out)); (case side2 => exact HC1.out); rintro e w47 ⟨v301, rfl, ho0, hb⟩; refine ⟨_, rfl, ?_⟩; obtain ⟨lo5, hi5, EL5, EH5, LE5⟩ := iv_ hb; have OR5 := Aside0.mk (show hi4 ≤ lo5 ∧ lo5 ≤ hi5 from ⟨Nat.le_trans HTop.out (Nat.le_of_eq EL5), LE5⟩); have n0_ := Aside0.mk (Kd.R_below (zR_ HO288.out) hb); have n1_ := Aside0.mk (Kd.R_below (zR_ HO291.out) hb); have n2_ := Aside0.mk (Kd.R_below (zR_ HO296.out) hb); have n3_ := Aside0.mk (Kd.R_below (zR_ HO299.out) hb); have n4_ := Aside0.mk (Kd.R_mono (ok' := fun k_ => lo5 ≤ k_ ∧ k_ < hi5) (Kd.R_lower (Kd.R_bound ho0) (below_size (zb_ HB.out))) (fun k_ hk_ => by have a_ := hk_.2.1; have b_ := hk_.2.2.1; omega)); have n5_ := Aside0.mk (Nat.le_of_eq EH5.symm); have n6_ := Aside0.mk (below_step (zb_ HB.out) hb); clear HO288; clear HO291; clear HO296; clear HO299; clear HTop; clear HB; have HO288 := n0_; have HO291 := n1_; have HO296 := n2_; have HO299 := n3_; have HO302 := n4_; have HTop := n5_; have HB := n6_; clear n0_ n1_ n2_ n3_ n4_ n5_ n6_; (try clear hb); (try clear hb2); (try clear hk); (try clear hi); (try clear ho0); (try clear EL5); (try clear EH5); (try clear LE5); obtain ⟨Ao48, co48, eo48⟩ := Kd.R_slice HO299.out; subst eo48; obtain ⟨Ao49, co49, eo49⟩ := Kd.R_slice HO302.out; subst eo49) | ((with_reducible refine gate_callee (f := 53) rfl ?_); refine goesL_ (some 44) rfl rfl Try.func53 (by kernel_rfl) rfl #[.slice Ao48 t297.length co48, .slice Ao49 t300.length co49] rfl (by simp only [zA_, zB_, zD_] <;> rfl) ?_; (with_reducible refine (impl_TraceOf.calls k _ _ t297 _ _ t300 t303 t304 t305 _ ?side1 ?side2 ?side3 ?side4 A11.out).mono ?_); (case side1 => exact zC_ (Kd.R_reads' HO299.out).2.2); (case side2 => exact (Kd.R_reads' HO299.out).2.1); (case side3 => exact zC_ (Kd.R_reads' HO302.out).2.2); (case side4 => exact (Kd.R_reads' HO302.out).2.1); rintro e w50 ⟨v306, rfl, ho0, hb⟩; refine ⟨_, rfl, ?_⟩; obtain ⟨lo6, hi6, EL6, EH6, LE6⟩ := iv_ hb; have OR6 := Aside0.mk (show hi5 ≤ lo6 ∧ lo6 ≤ hi6 from ⟨Nat.le_trans HTop.out (Nat.le_of_eq EL6), LE6⟩); have n0_ := Aside0.mk (Kd.R_below (zR_ HO288.out) hb); have n1_ := Aside0.mk (Kd.R_below (zR_ HO291.out) hb); have n2_ := Aside0.mk (Kd.R_below (zR_ HO296.out) hb); have n3_ := Aside0.mk (Kd.R_below (zR_ HO299.out) hb); have n4_ := Aside0.mk (Kd.R_below (zR_ HO302.out) hb); have n5_ := Aside0.mk (Kd.R_mono (ok' := fun k_ => lo6 ≤ k_ ∧ k_ < hi6) (Kd.R_lower (Kd.R_bound ho0) (below_size (zb_ HB.out))) (fun k_ hk_ => by have a_ := hk_.2.1; have b_ := hk_.2.2.1; omega)); have n6_ := Aside0.mk (Nat.le_of_eq EH6.symm); have n7_ := Aside0.mk (below_step (zb_ HB.out) hb); clear HO288; clear HO291; clear HO296; clear HO299; clear HO302; clear HTop; clear HB; have HO288 := n0_; have HO291 := n1_; have HO296 := n2_; have HO299 := n3_; have HO302 := n4_; have HO307 := n5_; have HTop := n6_; have HB := n7_; clear n0_ n1_ n2_ n3_ n4_ n5_ n6_ n7_; (try clear hb); (try clear hb2); (try clear hk); (try clear hi); (try clear ho0); (try clear EL6); (try clear EH6); (try clear LE6); obtain ⟨Ao51, co51, eo51⟩ := Kd.R_slice HO307.out; subst eo51; obtain ⟨Ao52, co52, eo52⟩ := Kd.R_slice HO296.out; subst eo52) | ((with_reducible refine gate_callee (f := 26) rfl ?_); refine goesL_ (some 50) rfl rfl Try.func26 (by kernel_rfl) rfl #[.slice Ao51 t303.length co51, .slice Ao52 t292.length co52] rfl (by simp only [zA_, zB_, zD_] <;> rfl) ?_; (with_reducible refine (laws_eqIntS.calls k _ _ t303 _ _ t292 true _ ?side1 ?side2 ?side3 ?side4 A12.out).mono ?_); (case side1 => exact zC_ (Kd.R_reads' HO307.out).2.2); (case side2 => exact (Kd.R_reads' HO307.out).2.1); (case side3 => exact zC_ (Kd.R_reads' HO296.out).2.2); (case side4 => exact (Kd.R_reads' HO296.out).2.1); rintro e w' ⟨rfl, ⟨nd, rfl⟩⟩; refine ⟨_, rfl, ?_⟩) | ((with_reducible refine gate_callee (f := 19) rfl ?_); refine goesL_ (some 64) rfl rfl Try.func19 (by kernel_rfl) rfl #[.slice A0 l0.length c0] rfl (by simp only [zA_, zB_, zD_] <;> rfl) ?_; (with_reducible refine (laws_toStepS.calls k _ _ l0 t309 _ ?side1 ?side2 A16.out).mono ?_); (case side1 => exact Kd.C_below HR0.out (zb_ HB.out)); (case side2 => exact HC0.out); rintro e w53 ⟨v310, rfl, ho0, hb⟩; refine ⟨_, rfl, ?_⟩; obtain ⟨lo7, hi7, EL7, EH7, LE7⟩ := iv_ hb; have OR7 := Aside0.mk (show hi6 ≤ lo7 ∧ lo7 ≤ hi7 from ⟨Nat.le_trans HTop.out (Nat.le_of_eq EL7), LE7⟩); have n0_ := Aside0.mk (Kd.R_below (zR_ HO288.out) hb); have n1_ := Aside0.mk (Kd.R_below (zR_ HO291.out) hb); have n2_ := Aside0.mk (Kd.R_below (zR_ HO296.out) hb); have n3_ := Aside0.mk (Kd.R_below (zR_ HO299.out) hb); have n4_ := Aside0.mk (Kd.R_below (zR_ HO302.out) hb); have n5_ := Aside0.mk (Kd.R_below (zR_ HO307.out) hb); have n6_ := Aside0.mk (Kd.R_mono (ok' := fun k_ => lo7 ≤ k_ ∧ k_ < hi7) (Kd.R_lower (Kd.R_bound ho0) (below_size (zb_ HB.out))) (fun k_ hk_ => by have a_ := hk_.2.1; have b_ := hk_.2.2.1; omega)); have n7_ := Aside0.mk (Nat.le_of_eq EH7.symm); have n8_ := Aside0.mk (below_step (zb_ HB.out) hb); clear HO288; clear HO291; clear HO296; clear HO299; clear HO302; clear HO307; clear HTop; clear HB; have HO288 := n0_; have HO291 := n1_; have HO296 := n2_; have HO299 := n3_; have HO302 := n4_; have HO307 := n5_; have HO311 := n6_; have HTop := n7_; have HB := n8_; clear n0_ n1_ n2_ n3_ n4_ n5_ n6_ n7_ n8_; (try clear hb); (try clear hb2); (try clear hk); (try clear hi); (try clear ho0); (try clear EL7); (try clear EH7); (try clear LE7); obtain ⟨Ao54, co54, eo54⟩ := Kd.R_slice HO311.out; subst eo54) | ((with_reducible refine gate_callee (f := 21) rfl ?_); refine goesL_ (some 65) rfl rfl Try.func21 (by kernel_rfl) rfl #[.slice Ao48 t297.length co48, .slice Ao54 t309.length co54] rfl (by simp only [zA_, zB_, zD_] <;> rfl) ?_; (with_reducible refine (laws_eqStepS.calls k _ _ t297 _ _ t309 true _ ?side1 ?side2 ?side3 ?side4 A17.out).mono ?_); (case side1 => exact zC_ (Kd.R_reads' HO299.out).2.2); (case side2 => exact (Kd.R_reads' HO299.out).2.1); (case side3 => exact zC_ (Kd.R_reads' HO311.out).2.2); (case side4 => exact (Kd.R_reads' HO311.out).2.1); rintro e w55 ⟨rfl, hb⟩; refine ⟨_, rfl, ?_⟩; obtain ⟨lo8, hi8, EL8, EH8, LE8⟩ := iv_ hb; have OR8 := Aside0.mk (show hi7 ≤ lo8 ∧ lo8 ≤ hi8 from ⟨Nat.le_trans HTop.out (Nat.le_of_eq EL8), LE8⟩); have n0_ := Aside0.mk (Kd.R_below (zR_ HO288.out) hb); have n1_ := Aside0.mk (Kd.R_below (zR_ HO291.out) hb); have n2_ := Aside0.mk (Kd.R_below (zR_ HO296.out) hb); have n3_ := Aside0.mk (Kd.R_below (zR_ HO299.out) hb); have n4_ := Aside0.mk (Kd.R_below (zR_ HO302.out) hb); have n5_ := Aside0.mk (Kd.R_below (zR_ HO307.out) hb); have n6_ := Aside0.mk (Kd.R_below (zR_ HO311.out) hb); have n7_ := Aside0.mk (Nat.le_of_eq EH8.symm); have n8_ := Aside0.mk (below_step (zb_ HB.out) hb); clear HO288; clear HO291; clear HO296; clear HO299; clear HO302; clear HO307; clear HO311; clear HTop; clear HB; have HO288 := n0_; have HO291 := n1_; have HO296 := n2_; have HO299 := n3_; have HO302 := n4_; have HO307 := n5_; have HO311 := n6_; have HTop := n7_; have HB := n8_; clear n0_ n1_ n2_ n3_ n4_ n5_ n6_ n7_ n8_; (try clear hb); (try clear hb2); (try clear hk); (try clear hi); (try clear EL8); (try clear EH8); (try clear LE8)) | ((with_reducible refine gate_callee (f := 48) rfl ?_); refine goesL_ (some 69) rfl rfl Try.func48 (by kernel_rfl) rfl #[.slice A1 l1.length c1] rfl (by simp only [zA_, zB_, zD_] <;> rfl) ?_; (with_reducible refine (laws_toIntS.calls k _ _ l1 t313 _ ?side1 ?side2 A19.out).mono ?_); (case side1 => exact zC_ (Kd.C_below HR1.out HB.out)); (case side2 => exact HC1.out); rintro e w56 ⟨v314, rfl, ho0, hb⟩; refine ⟨_, rfl, ?_⟩; obtain ⟨lo9, hi9, EL9, EH9, LE9⟩ := iv_ hb; have OR9 := Aside0.mk (show hi8 ≤ lo9 ∧ lo9 ≤ hi9 from ⟨Nat.le_trans HTop.out (Nat.le_of_eq EL9), LE9⟩); have n0_ := Aside0.mk (Kd.R_below (zR_ HO288.out) hb); have n1_ := Aside0.mk (Kd.R_below (zR_ HO291.out) hb); have n2_ := Aside0.mk (Kd.R_below (zR_ HO296.out) hb); have n3_ := Aside0.mk (Kd.R_below (zR_ HO299.out) hb); have n4_ := Aside0.mk (Kd.R_below (zR_ HO302.out) hb); have n5_ := Aside0.mk (Kd.R_below (zR_ HO307.out) hb); have n6_ := Aside0.mk (Kd.R_below (zR_ HO311.out) hb); have n7_ := Aside0.mk (Kd.R_mono (ok' := fun k_ => lo9 ≤ k_ ∧ k_ < hi9) (Kd.R_lower (Kd.R_bound ho0) (below_size (zb_ HB.out))) (fun k_ hk_ => by have a_ := hk_.2.1; have b_ := hk_.2.2.1; omega)); have n8_ := Aside0.mk (Nat.le_of_eq EH9.symm); have n9_ := Aside0.mk (below_step (zb_ HB.out) hb); clear HO288; clear HO291; clear HO296; clear HO299; clear HO302; clear HO307; clear HO311; clear HTop; clear HB; have HO288 := n0_; have HO291 := n1_; have HO296 := n2_; have HO299 := n3_; have HO302 := n4_; have HO307 := n5_; have HO311 := n6_; have HO315 := n7_; have HTop := n8_; have HB := n9_; clear n0_ n1_ n2_ n3_ n4_ n5_ n6_ n7_ n8_ n9_; (try clear hb); (try clear hb2); (try clear hk); (try clear hi); (try clear ho0); (try clear EL9); (try clear EH9); (try clear LE9); obtain ⟨Ao57, co57, eo57⟩ := Kd.R_slice HO315.out; subst eo57) | ((with_reducible refine gate_callee (f := 26) rfl ?_); refine goesL_ (some 70) rfl rfl Try.func26 (by kernel_rfl) rfl #[.slice Ao49 t300.length co49, .slice Ao57 t313.length co57] rfl (by simp only [zA_, zB_, zD_] <;> rfl) ?_; (with_reducible refine (laws_eqIntS.calls k _ _ t300 _ _ t313 true _ ?side1 ?side2 ?side3 ?side4 A20.out).mono ?_); (case side1 => exact zC_ (Kd.R_reads' HO302.out).2.2); (case side2 => exact (Kd.R_reads' HO302.out).2.1); (case side3 => exact zC_ (Kd.R_reads' HO315.out).2.2); (case side4 => exact (Kd.R_reads' HO315.out).2.1); rintro e w' ⟨rfl, ⟨nd, rfl⟩⟩; refine ⟨_, rfl, ?_⟩) | ((with_reducible refine gate_callee (f := 27) rfl ?_); refine goesL_ (some 74) rfl rfl Try.func27 (by kernel_rfl) rfl #[.slice Ao48 t297.length co48, .int .i64 1] rfl (by simp only [zA_, zB_, zD_] <;> rfl) ?_; (with_reducible refine (laws_markStepS.calls k (fun k_ => lo4 ≤ k_ ∧ k_ < hi4) (.slice Ao48 t297.length co48) t297 1 t317 t318 w _ ?side1 ?side2 A22.out).mono ?_); (case side1 => exact zb_ HB.out); (case side2 => exact zR_ HO299.out); rintro e w58 ⟨rfl, hy0, hb, hkp⟩; refine ⟨_, rfl, ?_⟩; have n0_ := Aside0.mk (Kd.R_kept (zR_ HO288.out) hkp (fun k_ hk_ hs_ => by have a_ : lo1 ≤ k_ ∧ k_ < hi1 := hk_; have b_ : lo4 ≤ k_ ∧ k_ < hi4 := hs_; have z1_ := OR1.out; have z2_ := OR2.out; have z3_ := OR3.out; have z4_ := OR4.out; have z5_ := OR5.out; have z6_ := OR6.out; have z7_ := OR7.out; have z8_ := OR8.out; have z9_ := OR9.out; omega)); have n1_ := Aside0.mk (Kd.R_kept (zR_ HO291.out) hkp (fun k_ hk_ hs_ => by have a_ : lo2 ≤ k_ ∧ k_ < hi2 := hk_; have b_ : lo4 ≤ k_ ∧ k_ < hi4 := hs_; have z1_ := OR1.out; have z2_ := OR2.out; have z3_ := OR3.out; have z4_ := OR4.out; have z5_ := OR5.out; have z6_ := OR6.out; have z7_ := OR7.out; have z8_ := OR8.out; have z9_ := OR9.out; omega)); have n2_ := Aside0.mk (Kd.R_kept (zR_ HO296.out) hkp (fun k_ hk_ hs_ => by have a_ : lo3 ≤ k_ ∧ k_ < hi3 := hk_; have b_ : lo4 ≤ k_ ∧ k_ < hi4 := hs_; have z1_ := OR1.out; have z2_ := OR2.out; have z3_ := OR3.out; have z4_ := OR4.out; have z5_ := OR5.out; have z6_ := OR6.out; have z7_ := OR7.out; have z8_ := OR8.out; have z9_ := OR9.out; omega)); have n3_ := Aside0.mk (Kd.R_reok rfl hy0 (fun k_ e_ => HO299.out.1 k_ e_)); have n4_ := Aside0.mk (Kd.R_kept (zR_ HO302.out) hkp (fun k_ hk_ hs_ => by have a_ : lo5 ≤ k_ ∧ k_ < hi5 := hk_; have b_ : lo4 ≤ k_ ∧ k_ < hi4 := hs_; have z1_ := OR1.out; have z2_ := OR2.out; have z3_ := OR3.out; have z4_ := OR4.out; have z5_ := OR5.out; have z6_ := OR6.out; have z7_ := OR7.out; have z8_ := OR8.out; have z9_ := OR9.out; omega)); have n5_ := Aside0.mk (Kd.R_kept (zR_ HO307.out) hkp (fun k_ hk_ hs_ => by have a_ : lo6 ≤ k_ ∧ k_ < hi6 := hk_; have b_ : lo4 ≤ k_ ∧ k_ < hi4 := hs_; have z1_ := OR1.out; have z2_ := OR2.out; have z3_ := OR3.out; have z4_ := OR4.out; have z5_ := OR5.out; have z6_ := OR6.out; have z7_ := OR7.out; have z8_ := OR8.out; have z9_ := OR9.out; omega)); have n6_ := Aside0.mk (Kd.R_kept (zR_ HO311.out) hkp (fun k_ hk_ hs_ => by have a_ : lo7 ≤ k_ ∧ k_ < hi7 := hk_; have b_ : lo4 ≤ k_ ∧ k_ < hi4 := hs_; have z1_ := OR1.out; have z2_ := OR2.out; have z3_ := OR3.out; have z4_ := OR4.out; have z5_ := OR5.out; have z6_ := OR6.out; have z7_ := OR7.out; have z8_ := OR8.out; have z9_ := OR9.out; omega)); have n7_ := Aside0.mk (Kd.R_kept (zR_ HO315.out) hkp (fun k_ hk_ hs_ => by have a_ : lo9 ≤ k_ ∧ k_ < hi9 := hk_; have b_ : lo4 ≤ k_ ∧ k_ < hi4 := hs_; have z1_ := OR1.out; have z2_ := OR2.out; have z3_ := OR3.out; have z4_ := OR4.out; have z5_ := OR5.out; have z6_ := OR6.out; have z7_ := OR7.out; have z8_ := OR8.out; have z9_ := OR9.out; omega)); have n8_ := Aside0.mk (Nat.le_trans HTop.out hkp.1); have n9_ := Aside0.mk (hb); clear HO288; clear HO291; clear HO296; clear HO299; clear HO302; clear HO307; clear HO311; clear HO315; clear HTop; clear HB; have HO288 := n0_; have HO291 := n1_; have HO296 := n2_; have HO299 := n3_; have HO302 := n4_; have HO307 := n5_; have HO311 := n6_; have HO315 := n7_; have HTop := n8_; have HB := n9_; clear n0_ n1_ n2_ n3_ n4_ n5_ n6_ n7_ n8_ n9_; (try clear hb); (try clear hkp); (try clear hy0)) | ((with_reducible refine gate_callee (f := 28) rfl ?_); refine goesL_ (some 77) rfl rfl Try.func28 (by kernel_rfl) rfl #[.slice Ao49 t300.length co49, .int .i64 t317] rfl (by simp only [zA_, zB_, zD_] <;> rfl) ?_; (with_reducible refine (laws_markIntS.calls k (fun k_ => lo5 ≤ k_ ∧ k_ < hi5) (.slice Ao49 t300.length co49) t300 t317 t319 t320 w _ ?side1 ?side2 A23.out).mono ?_); (case side1 => exact zb_ HB.out); (case side2 => exact zR_ HO302.out); rintro e w59 ⟨rfl, hy0, hb, hkp⟩; refine ⟨_, rfl, ?_⟩; have n0_ := Aside0.mk (Kd.R_kept (zR_ HO288.out) hkp (fun k_ hk_ hs_ => by have a_ : lo1 ≤ k_ ∧ k_ < hi1 := hk_; have b_ : lo5 ≤ k_ ∧ k_ < hi5 := hs_; have z1_ := OR1.out; have z2_ := OR2.out; have z3_ := OR3.out; have z4_ := OR4.out; have z5_ := OR5.out; have z6_ := OR6.out; have z7_ := OR7.out; have z8_ := OR8.out; have z9_ := OR9.out; omega)); have n1_ := Aside0.mk (Kd.R_kept (zR_ HO291.out) hkp (fun k_ hk_ hs_ => by have a_ : lo2 ≤ k_ ∧ k_ < hi2 := hk_; have b_ : lo5 ≤ k_ ∧ k_ < hi5 := hs_; have z1_ := OR1.out; have z2_ := OR2.out; have z3_ := OR3.out; have z4_ := OR4.out; have z5_ := OR5.out; have z6_ := OR6.out; have z7_ := OR7.out; have z8_ := OR8.out; have z9_ := OR9.out; omega)); have n2_ := Aside0.mk (Kd.R_kept (zR_ HO296.out) hkp (fun k_ hk_ hs_ => by have a_ : lo3 ≤ k_ ∧ k_ < hi3 := hk_; have b_ : lo5 ≤ k_ ∧ k_ < hi5 := hs_; have z1_ := OR1.out; have z2_ := OR2.out; have z3_ := OR3.out; have z4_ := OR4.out; have z5_ := OR5.out; have z6_ := OR6.out; have z7_ := OR7.out; have z8_ := OR8.out; have z9_ := OR9.out; omega)); have n3_ := Aside0.mk (Kd.R_kept (zR_ HO299.out) hkp (fun k_ hk_ hs_ => by have a_ : lo4 ≤ k_ ∧ k_ < hi4 := hk_; have b_ : lo5 ≤ k_ ∧ k_ < hi5 := hs_; have z1_ := OR1.out; have z2_ := OR2.out; have z3_ := OR3.out; have z4_ := OR4.out; have z5_ := OR5.out; have z6_ := OR6.out; have z7_ := OR7.out; have z8_ := OR8.out; have z9_ := OR9.out; omega)); have n4_ := Aside0.mk (Kd.R_reok rfl hy0 (fun k_ e_ => HO302.out.1 k_ e_)); have n5_ := Aside0.mk (Kd.R_kept (zR_ HO307.out) hkp (fun k_ hk_ hs_ => by have a_ : lo6 ≤ k_ ∧ k_ < hi6 := hk_; have b_ : lo5 ≤ k_ ∧ k_ < hi5 := hs_; have z1_ := OR1.out; have z2_ := OR2.out; have z3_ := OR3.out; have z4_ := OR4.out; have z5_ := OR5.out; have z6_ := OR6.out; have z7_ := OR7.out; have z8_ := OR8.out; have z9_ := OR9.out; omega)); have n6_ := Aside0.mk (Kd.R_kept (zR_ HO311.out) hkp (fun k_ hk_ hs_ => by have a_ : lo7 ≤ k_ ∧ k_ < hi7 := hk_; have b_ : lo5 ≤ k_ ∧ k_ < hi5 := hs_; have z1_ := OR1.out; have z2_ := OR2.out; have z3_ := OR3.out; have z4_ := OR4.out; have z5_ := OR5.out; have z6_ := OR6.out; have z7_ := OR7.out; have z8_ := OR8.out; have z9_ := OR9.out; omega)); have n7_ := Aside0.mk (Kd.R_kept (zR_ HO315.out) hkp (fun k_ hk_ hs_ => by have a_ : lo9 ≤ k_ ∧ k_ < hi9 := hk_; have b_ : lo5 ≤ k_ ∧ k_ < hi5 := hs_; have z1_ := OR1.out; have z2_ := OR2.out; have z3_ := OR3.out; have z4_ := OR4.out; have z5_ := OR5.out; have z6_ := OR6.out; have z7_ := OR7.out; have z8_ := OR8.out; have z9_ := OR9.out; omega)); have n8_ := Aside0.mk (Nat.le_trans HTop.out hkp.1); have n9_ := Aside0.mk (hb); clear HO288; clear HO291; clear HO296; clear HO299; clear HO302; clear HO307; clear HO311; clear HO315; clear HTop; clear HB; have HO288 := n0_; have HO291 := n1_; have HO296 := n2_; have HO299 := n3_; have HO302 := n4_; have HO307 := n5_; have HO311 := n6_; have HO315 := n7_; have HTop := n8_; have HB := n9_; clear n0_ n1_ n2_ n3_ n4_ n5_ n6_ n7_ n8_ n9_; (try clear hb); (try clear hkp); (try clear hy0)) | (go_at_call 26; (with_reducible refine (laws_eqIntS.calls k _ _ t303 _ _ t292 true _ ?side1 ?side2 ?side3 ?side4 A25.out).mono ?_); (case side1 => exact zC_ (Kd.R_reads' HO307.out).2.2); (case side2 => exact (Kd.R_reads' HO307.out).2.1); (case side3 => exact zC_ (Kd.R_reads' HO296.out).2.2); (case side4 => exact (Kd.R_reads' HO296.out).2.1); rintro e w' ⟨rfl, ⟨nd, rfl⟩⟩) | ((with_reducible refine gate_callee (f := 28) rfl ?_); refine goesL_ (some 98) rfl rfl Try.func28 (by kernel_rfl) rfl #[.slice Ao51 t303.length co51, .int .i64 1] rfl (by simp only [zA_, zB_, zD_] <;> rfl) ?_; (with_reducible refine (laws_markIntS.calls k (fun k_ => lo6 ≤ k_ ∧ k_ < hi6) (.slice Ao51 t303.length co51) t303 1 t322 t323 w _ ?side1 ?side2 A27.out).mono ?_); (case side1 => exact zb_ HB.out); (case side2 => exact zR_ HO307.out); rintro e w60 ⟨rfl, hy0, hb, hkp⟩; refine ⟨_, rfl, ?_⟩; have n0_ := Aside0.mk (Kd.R_kept (zR_ HO288.out) hkp (fun k_ hk_ hs_ => by have a_ : lo1 ≤ k_ ∧ k_ < hi1 := hk_; have b_ : lo6 ≤ k_ ∧ k_ < hi6 := hs_; have z1_ := OR1.out; have z2_ := OR2.out; have z3_ := OR3.out; have z4_ := OR4.out; have z5_ := OR5.out; have z6_ := OR6.out; have z7_ := OR7.out; have z8_ := OR8.out; have z9_ := OR9.out; omega)); have n1_ := Aside0.mk (Kd.R_kept (zR_ HO291.out) hkp (fun k_ hk_ hs_ => by have a_ : lo2 ≤ k_ ∧ k_ < hi2 := hk_; have b_ : lo6 ≤ k_ ∧ k_ < hi6 := hs_; have z1_ := OR1.out; have z2_ := OR2.out; have z3_ := OR3.out; have z4_ := OR4.out; have z5_ := OR5.out; have z6_ := OR6.out; have z7_ := OR7.out; have z8_ := OR8.out; have z9_ := OR9.out; omega)); have n2_ := Aside0.mk (Kd.R_kept (zR_ HO296.out) hkp (fun k_ hk_ hs_ => by have a_ : lo3 ≤ k_ ∧ k_ < hi3 := hk_; have b_ : lo6 ≤ k_ ∧ k_ < hi6 := hs_; have z1_ := OR1.out; have z2_ := OR2.out; have z3_ := OR3.out; have z4_ := OR4.out; have z5_ := OR5.out; have z6_ := OR6.out; have z7_ := OR7.out; have z8_ := OR8.out; have z9_ := OR9.out; omega)); have n3_ := Aside0.mk (Kd.R_kept (zR_ HO299.out) hkp (fun k_ hk_ hs_ => by have a_ : lo4 ≤ k_ ∧ k_ < hi4 := hk_; have b_ : lo6 ≤ k_ ∧ k_ < hi6 := hs_; have z1_ := OR1.out; have z2_ := OR2.out; have z3_ := OR3.out; have z4_ := OR4.out; have z5_ := OR5.out; have z6_ := OR6.out; have z7_ := OR7.out; have z8_ := OR8.out; have z9_ := OR9.out; omega)); have n4_ := Aside0.mk (Kd.R_kept (zR_ HO302.out) hkp (fun k_ hk_ hs_ => by have a_ : lo5 ≤ k_ ∧ k_ < hi5 := hk_; have b_ : lo6 ≤ k_ ∧ k_ < hi6 := hs_; have z1_ := OR1.out; have z2_ := OR2.out; have z3_ := OR3.out; have z4_ := OR4.out; have z5_ := OR5.out; have z6_ := OR6.out; have z7_ := OR7.out; have z8_ := OR8.out; have z9_ := OR9.out; omega)); have n5_ := Aside0.mk (Kd.R_reok rfl hy0 (fun k_ e_ => HO307.out.1 k_ e_)); have n6_ := Aside0.mk (Kd.R_kept (zR_ HO311.out) hkp (fun k_ hk_ hs_ => by have a_ : lo7 ≤ k_ ∧ k_ < hi7 := hk_; have b_ : lo6 ≤ k_ ∧ k_ < hi6 := hs_; have z1_ := OR1.out; have z2_ := OR2.out; have z3_ := OR3.out; have z4_ := OR4.out; have z5_ := OR5.out; have z6_ := OR6.out; have z7_ := OR7.out; have z8_ := OR8.out; have z9_ := OR9.out; omega)); have n7_ := Aside0.mk (Kd.R_kept (zR_ HO315.out) hkp (fun k_ hk_ hs_ => by have a_ : lo9 ≤ k_ ∧ k_ < hi9 := hk_; have b_ : lo6 ≤ k_ ∧ k_ < hi6 := hs_; have z1_ := OR1.out; have z2_ := OR2.out; have z3_ := OR3.out; have z4_ := OR4.out; have z5_ := OR5.out; have z6_ := OR6.out; have z7_ := OR7.out; have z8_ := OR8.out; have z9_ := OR9.out; omega)); have n8_ := Aside0.mk (Nat.le_trans HTop.out hkp.1); have n9_ := Aside0.mk (hb); clear HO288; clear HO291; clear HO296; clear HO299; clear HO302; clear HO307; clear HO311; clear HO315; clear HTop; clear HB; have HO288 := n0_; have HO291 := n1_; have HO296 := n2_; have HO299 := n3_; have HO302 := n4_; have HO307 := n5_; have HO311 := n6_; have HO315 := n7_; have HTop := n8_; have HB := n9_; clear n0_ n1_ n2_ n3_ n4_ n5_ n6_ n7_ n8_ n9_; (try clear hb); (try clear hkp); (try clear hy0)) | ((with_reducible refine gate_callee (f := 29) rfl ?_); refine goesL_ (some 101) rfl rfl Try.func29 (by kernel_rfl) rfl #[.slice Ao51 t323.length co51, .int .i64 1] rfl (by (try simp only [List.map_toArray, List.map_cons, List.map_nil]); first | done | (rw [show t323.length = t303.length from (Kd.R_reads' HO307.out).1.symm] <;> rfl) | rfl | (simp only [List.length_drop, List.length_take]; rfl)) ?_; (with_reducible refine (laws_heldIntS.calls k _ _ t323 1 t324 _ ?side1 ?side2 A28.out).mono ?_); (case side1 => exact zC_ (Kd.R_reads' HO307.out).2.2); (case side2 => rw [show t323.length = t303.length from (Kd.R_reads' HO307.out).1.symm]; exact (Kd.R_reads' HO307.out).2.1); rintro e w' ⟨rfl, ⟨nd, rfl⟩⟩; refine ⟨_, rfl, ?_⟩) | ((with_reducible refine gate_callee (f := 19) rfl ?_); refine goesL_ (some 109) rfl rfl Try.func19 (by kernel_rfl) rfl #[.slice A0 l0.length c0] rfl (by simp only [zA_, zB_, zD_] <;> rfl) ?_; (with_reducible refine (laws_toStepS.calls k _ _ l0 t325 _ ?side1 ?side2 A31.out).mono ?_); (case side1 => exact Kd.C_below HR0.out (zb_ HB.out)); (case side2 => exact HC0.out); rintro e w61 ⟨v326, rfl, ho0, hb⟩; refine ⟨_, rfl, ?_⟩; obtain ⟨lo10, hi10, EL10, EH10, LE10⟩ := iv_ hb; have OR10 := Aside0.mk (show hi9 ≤ lo10 ∧ lo10 ≤ hi10 from ⟨Nat.le_trans HTop.out (Nat.le_of_eq EL10), LE10⟩); have n0_ := Aside0.mk (Kd.R_below (zR_ HO288.out) hb); have n1_ := Aside0.mk (Kd.R_below (zR_ HO291.out) hb); have n2_ := Aside0.mk (Kd.R_below (zR_ HO296.out) hb); have n3_ := Aside0.mk (Kd.R_below (zR_ HO299.out) hb); have n4_ := Aside0.mk (Kd.R_below (zR_ HO302.out) hb); have n5_ := Aside0.mk (Kd.R_below (zR_ HO307.out) hb); have n6_ := Aside0.mk (Kd.R_below (zR_ HO311.out) hb); have n7_ := Aside0.mk (Kd.R_below (zR_ HO315.out) hb); have n8_ := Aside0.mk (Kd.R_mono (ok' := fun k_ => lo10 ≤ k_ ∧ k_ < hi10) (Kd.R_lower (Kd.R_bound ho0) (below_size (zb_ HB.out))) (fun k_ hk_ => by have a_ := hk_.2.1; have b_ := hk_.2.2.1; omega)); have n9_ := Aside0.mk (Nat.le_of_eq EH10.symm); have n10_ := Aside0.mk (below_step (zb_ HB.out) hb); clear HO288; clear HO291; clear HO296; clear HO299; clear HO302; clear HO307; clear HO311; clear HO315; clear HTop; clear HB; have HO288 := n0_; have HO291 := n1_; have HO296 := n2_; have HO299 := n3_; have HO302 := n4_; have HO307 := n5_; have HO311 := n6_; have HO315 := n7_; have HO327 := n8_; have HTop := n9_; have HB := n10_; clear n0_ n1_ n2_ n3_ n4_ n5_ n6_ n7_ n8_ n9_ n10_; (try clear hb); (try clear hb2); (try clear hk); (try clear hi); (try clear ho0); (try clear EL10); (try clear EH10); (try clear LE10)) | ((with_reducible refine gate_callee (f := 48) rfl ?_); refine goesL_ (some 111) rfl rfl Try.func48 (by kernel_rfl) rfl #[.slice A1 l1.length c1] rfl (by simp only [zA_, zB_, zD_] <;> rfl) ?_; (with_reducible refine (laws_toIntS.calls k _ _ l1 t328 _ ?side1 ?side2 A32.out).mono ?_); (case side1 => exact zC_ (Kd.C_below HR1.out HB.out)); (case side2 => exact HC1.out); rintro e w62 ⟨v329, rfl, ho0, hb⟩; refine ⟨_, rfl, ?_⟩; obtain ⟨lo11, hi11, EL11, EH11, LE11⟩ := iv_ hb; have OR11 := Aside0.mk (show hi10 ≤ lo11 ∧ lo11 ≤ hi11 from ⟨Nat.le_trans HTop.out (Nat.le_of_eq EL11), LE11⟩); have n0_ := Aside0.mk (Kd.R_below (zR_ HO288.out) hb); have n1_ := Aside0.mk (Kd.R_below (zR_ HO291.out) hb); have n2_ := Aside0.mk (Kd.R_below (zR_ HO296.out) hb); have n3_ := Aside0.mk (Kd.R_below (zR_ HO299.out) hb); have n4_ := Aside0.mk (Kd.R_below (zR_ HO302.out) hb); have n5_ := Aside0.mk (Kd.R_below (zR_ HO307.out) hb); have n6_ := Aside0.mk (Kd.R_below (zR_ HO311.out) hb); have n7_ := Aside0.mk (Kd.R_below (zR_ HO315.out) hb); have n8_ := Aside0.mk (Kd.R_below (zR_ HO327.out) hb); have n9_ := Aside0.mk (Kd.R_mono (ok' := fun k_ => lo11 ≤ k_ ∧ k_ < hi11) (Kd.R_lower (Kd.R_bound ho0) (below_size (zb_ HB.out))) (fun k_ hk_ => by have a_ := hk_.2.1; have b_ := hk_.2.2.1; omega)); have n10_ := Aside0.mk (Nat.le_of_eq EH11.symm); have n11_ := Aside0.mk (below_step (zb_ HB.out) hb); clear HO288; clear HO291; clear HO296; clear HO299; clear HO302; clear HO307; clear HO311; clear HO315; clear HO327; clear HTop; clear HB; have HO288 := n0_; have HO291 := n1_; have HO296 := n2_; have HO299 := n3_; have HO302 := n4_; have HO307 := n5_; have HO311 := n6_; have HO315 := n7_; have HO327 := n8_; have HO330 := n9_; have HTop := n10_; have HB := n11_; clear n0_ n1_ n2_ n3_ n4_ n5_ n6_ n7_ n8_ n9_ n10_ n11_; (try clear hb); (try clear hb2); (try clear hk); (try clear hi); (try clear ho0); (try clear EL11); (try clear EH11); (try clear LE11); obtain ⟨Ao63, co63, eo63⟩ := Kd.R_slice HO327.out; subst eo63; obtain ⟨Ao64, co64, eo64⟩ := Kd.R_slice HO330.out; subst eo64) | ((with_reducible refine gate_callee (f := 53) rfl ?_); refine goesL_ (some 112) rfl rfl Try.func53 (by kernel_rfl) rfl #[.slice Ao63 t325.length co63, .slice Ao64 t328.length co64] rfl (by simp only [zA_, zB_, zD_] <;> rfl) ?_; (with_reducible refine (impl_TraceOf.calls k _ _ t325 _ _ t328 t331 t332 t333 _ ?side1 ?side2 ?side3 ?side4 A33.out).mono ?_); (case side1 => exact zC_ (Kd.R_reads' HO327.out).2.2); (case side2 => exact (Kd.R_reads' HO327.out).2.1); (case side3 => exact zC_ (Kd.R_reads' HO330.out).2.2); (case side4 => exact (Kd.R_reads' HO330.out).2.1); rintro e w65 ⟨v334, rfl, ho0, hb⟩; refine ⟨_, rfl, ?_⟩; obtain ⟨lo12, hi12, EL12, EH12, LE12⟩ := iv_ hb; have OR12 := Aside0.mk (show hi11 ≤ lo12 ∧ lo12 ≤ hi12 from ⟨Nat.le_trans HTop.out (Nat.le_of_eq EL12), LE12⟩); have n0_ := Aside0.mk (Kd.R_below (zR_ HO288.out) hb); have n1_ := Aside0.mk (Kd.R_below (zR_ HO291.out) hb); have n2_ := Aside0.mk (Kd.R_below (zR_ HO296.out) hb); have n3_ := Aside0.mk (Kd.R_below (zR_ HO299.out) hb); have n4_ := Aside0.mk (Kd.R_below (zR_ HO302.out) hb); have n5_ := Aside0.mk (Kd.R_below (zR_ HO307.out) hb); have n6_ := Aside0.mk (Kd.R_below (zR_ HO311.out) hb); have n7_ := Aside0.mk (Kd.R_below (zR_ HO315.out) hb); have n8_ := Aside0.mk (Kd.R_below (zR_ HO327.out) hb); have n9_ := Aside0.mk (Kd.R_below (zR_ HO330.out) hb); have n10_ := Aside0.mk (Kd.R_mono (ok' := fun k_ => lo12 ≤ k_ ∧ k_ < hi12) (Kd.R_lower (Kd.R_bound ho0) (below_size (zb_ HB.out))) (fun k_ hk_ => by have a_ := hk_.2.1; have b_ := hk_.2.2.1; omega)); have n11_ := Aside0.mk (Nat.le_of_eq EH12.symm); have n12_ := Aside0.mk (below_step (zb_ HB.out) hb); clear HO288; clear HO291; clear HO296; clear HO299; clear HO302; clear HO307; clear HO311; clear HO315; clear HO327; clear HO330; clear HTop; clear HB; have HO288 := n0_; have HO291 := n1_; have HO296 := n2_; have HO299 := n3_; have HO302 := n4_; have HO307 := n5_; have HO311 := n6_; have HO315 := n7_; have HO327 := n8_; have HO330 := n9_; have HO335 := n10_; have HTop := n11_; have HB := n12_; clear n0_ n1_ n2_ n3_ n4_ n5_ n6_ n7_ n8_ n9_ n10_ n11_ n12_; (try clear hb); (try clear hb2); (try clear hk); (try clear hi); (try clear ho0); (try clear EL12); (try clear EH12); (try clear LE12); obtain ⟨Ao66, co66, eo66⟩ := Kd.R_slice HO335.out; subst eo66) | ((with_reducible refine gate_callee (f := 26) rfl ?_); refine goesL_ (some 118) rfl rfl Try.func26 (by kernel_rfl) rfl #[.slice Ao66 t331.length co66, .slice Ao52 t292.length co52] rfl (by simp only [zA_, zB_, zD_] <;> rfl) ?_; (with_reducible refine (laws_eqIntS.calls k _ _ t331 _ _ t292 true _ ?side1 ?side2 ?side3 ?side4 A34.out).mono ?_); (case side1 => exact zC_ (Kd.R_reads' HO335.out).2.2); (case side2 => exact (Kd.R_reads' HO335.out).2.1); (case side3 => exact zC_ (Kd.R_reads' HO296.out).2.2); (case side4 => exact (Kd.R_reads' HO296.out).2.1); rintro e w' ⟨rfl, ⟨nd, rfl⟩⟩; refine ⟨_, rfl, ?_⟩) | ((with_reducible refine gate_callee (f := 29) rfl ?_); refine goesL_ (some 132) rfl rfl Try.func29 (by kernel_rfl) rfl #[.slice Ao51 t323.length co51, .int .i64 1] rfl (by (try simp only [List.map_toArray, List.map_cons, List.map_nil]); first | done | (rw [show t323.length = t303.length from (Kd.R_reads' HO307.out).1.symm] <;> rfl) | rfl | (simp only [List.length_drop, List.length_take]; rfl)) ?_; (with_reducible refine (laws_heldIntS.calls k _ _ t323 1 t337 _ ?side1 ?side2 A38.out).mono ?_); (case side1 => exact zC_ (Kd.R_reads' HO307.out).2.2); (case side2 => rw [show t323.length = t303.length from (Kd.R_reads' HO307.out).1.symm]; exact (Kd.R_reads' HO307.out).2.1); rintro e w' ⟨rfl, ⟨nd, rfl⟩⟩; refine ⟨_, rfl, ?_⟩))
          go_ret
          exact ⟨by first | rfl | (simp <;> rfl) | (simp [*] <;> rfl), zb_ HB.out⟩
         rw [if_neg c40] at H
         exact absurd H (by simp)
        rw [if_neg c36] at H
        exact absurd H (by simp)
       ·replace c35 := Bool.eq_false_iff.mpr c35
        subst c35
        have H1 : (none) = some r := by rw [if_neg (show ¬ (false = true) by decide)] at H; exact H
        clear H
        have H := H1
        clear H1
        exact absurd H (by simp)
      rw [if_neg c30] at H
      exact absurd H (by simp)
     ·replace c26 := Bool.eq_false_iff.mpr c26
      subst c26
      have H1 : (none) = some r := by rw [if_neg (show ¬ (false = true) by decide)] at H; exact H
      clear H
      have H := H1
      clear H1
      exact absurd H (by simp)
    ·replace c21 := Bool.eq_false_iff.mpr c21
     subst c21
     have H1 : (none) = some r := by rw [if_neg (show ¬ (false = true) by decide)] at H; exact H
     clear H
     have H := H1
     clear H1
     exact absurd H (by simp)
   ·replace c18 := Bool.eq_false_iff.mpr c18
    subst c18
    have H1 : (none) = some r := by rw [if_neg (show ¬ (false = true) by decide)] at H; exact H
    clear H
    have H := H1
    clear H1
    exact absurd H (by simp)
  rw [if_neg c14] at H
  exact absurd H (by simp)
 ·replace c13 := Bool.eq_false_iff.mpr c13
  subst c13
  have H1 : (none) = some r := by rw [if_neg (show ¬ (false = true) by decide)] at H; exact H
  clear H
  have H := H1
  clear H1
  exact absurd H (by simp)
/-- The one pure statement of laws_FnExactTraceOf. -/
def laws_FnExactTraceOf.Pure : Prop := ∀ (l0 : List (S23)) (l1 : List Int), (l0.length ≤ maxLen ∧ ∀ y_ ∈ l0, ((Lit.int .i64 y_.f0).wf = true ∧ (Lit.int .i64 y_.f1).wf = true ∧ (Lit.int .i64 y_.f2).wf = true ∧ (Lit.int .i64 y_.f3).wf = true ∧ (Lit.int .i64 y_.f4).wf = true ∧ (Lit.int .i64 y_.f5).wf = true)) → (l1.length ≤ maxLen ∧ ∀ y_ ∈ l1, (Lit.int .i64 y_).wf = true) → ∃ k, laws_FnExactTraceOf.f k l0 l1 = some true
theorem laws_FnExactTraceOf.walk : True := trivial
end Go.Proofs.Ytjopmdogdmdanaa.PFnExactTraceOf
-- squeezed
