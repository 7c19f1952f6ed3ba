-- Made by a program of this session (wip/tools), which leans on the kit's print: checked by Lean alone.
import Derived.Test.YtjopmdogdmdanaaPFnExactTraceOfx0
import Derived.Test.YtjopmdogdmdanaaPFnExactTraceOfx4
import Derived.Test.YtjopmdogdmdanaaPFnExactTraceOfx5
import Derived.Test.YtjopmdogdmdanaaPFnExactTraceOfx6
namespace Go.Proofs.Ytjopmdogdmdanaa.PFnExactTraceOf
open Go.RowKit Go.Proofs.YtjopmdogdmdanaaW.PrintWords Go.Proofs.YtjopmdogdmdanaaW.PrintLast Go.Proofs.YtjopmdogdmdanaaW.PrintMore
attribute [local go_sem] max2_int min2_int max_two min_two max_three min_three max_four min_four   -- for this text's walks alone
set_option linter.unusedVariables false
set_option linter.unusedSimpArgs false
def spec_l3Run.l0 : Nat → List (S26) → List Int → Int → List Int → Int → List Int → List Int → List Bool → Option (Int × Int × Int × List Int)
 | 0, _, _, _, _, _, _, _, _ => none
 | k + 1, x0, x1, x2, x11, x204000, x204001, x204002, x204003 => if x2 > 0 then (if x11.length < 17592186044416 then ((some (x11 ++ [x204000] : List Int)).bind fun y204 => ((spec_l3Do.f k x0 x1 x204000 x204001 x204002 x204003).bind fun bt207 => (if bt207.2.2.2.2.1 > 0 then (some (0, bt207.2.2.2.2.1, x204000, y204)) else (if bt207.2.2.2.2.2 = true then (if 0 < (bt207.2.1.length : Int) then (some (rd bt207.2.1 0, 0, 0, y204)) else (none)) else (spec_l3Run.l0 k x0 x1 (wrap64 (x2 - 1)) y204 bt207.1 bt207.2.1 bt207.2.2.1 bt207.2.2.2.1))))) else (none)) else (some (0, 4, x204000, x11))
def spec_l3Run.f (k : Nat) (l0 : List (S26)) (l1 : List Int) (a2 : Int) : Option (Int × Int × Int × List Int) := (spec_NewMachine.f).bind fun bt193 => (spec_l3Run.l0 k l0 l1 a2 ([] : List Int) bt193.1 bt193.2.1 bt193.2.2.1 bt193.2.2.2)
theorem spec_l3Run.mono_l : ∀ k, (∀ y0 y1 y2 y3 y4 y5 y6 y7, LeO (spec_l3Run.l0 k y0 y1 y2 y3 y4 y5 y6 y7) (spec_l3Run.l0 (k + 1) y0 y1 y2 y3 y4 y5 y6 y7))
 | 0 => fun _ _ _ _ _ _ _ _ r h => by simp [spec_l3Run.l0] at h
 | k + 1 => by
  have ih0 := spec_l3Run.mono_l k
  ·intro y0 y1 y2 y3 y4 y5 y6 y7
   unfold spec_l3Run.l0
   repeat' first
   | (with_reducible exact ih0 _ _ _ _ _ _ _ _)
   | (with_reducible exact spec_l3Do.mono _ _ _ _ _ _ _)
   | (with_reducible exact LeO.refl _)
   | (with_reducible exact LeO.none _)
   | (with_reducible refine LeO.ite ?_ ?_)
   | (with_reducible refine LeO.bind ?_ (fun _ => ?_))
   | exact ih0 _ _ _ _ _ _ _ _
   | exact spec_l3Do.mono _ _ _ _ _ _ _
   | exact LeO.none _
   | refine LeO.ite ?_ ?_
   | refine LeO.bind ?_ (fun _ => ?_)
theorem spec_l3Run.mono : ∀ a0 a1 a2 k, LeO (spec_l3Run.f k a0 a1 a2) (spec_l3Run.f (k + 1) a0 a1 a2) := by
 intro a0 a1 a2 k
 have ih0 := spec_l3Run.mono_l k
 unfold spec_l3Run.f
 repeat' first
   | (with_reducible exact ih0 _ _ _ _ _ _ _ _)
   | (with_reducible exact spec_l3Do.mono _ _ _ _ _ _ _)
   | (with_reducible exact LeO.refl _)
   | (with_reducible exact LeO.none _)
   | (with_reducible refine LeO.ite ?_ ?_)
   | (with_reducible refine LeO.bind ?_ (fun _ => ?_))
   | exact ih0 _ _ _ _ _ _ _ _
   | exact spec_l3Do.mono _ _ _ _ _ _ _
   | exact LeO.none _
   | refine LeO.ite ?_ ?_
   | refine LeO.bind ?_ (fun _ => ?_)
set_option maxHeartbeats 8000000 in
set_option maxRecDepth 100000 in
theorem spec_l3Run.calls (k : Nat) (A0 : Option Addr) (c0 : Nat) (l0 : List (S26)) (A1 : Option Addr) (c1 : Nat) (l1 : List Int) (a2 : Int) (r1 : Int) (r2 : Int) (r3 : Int) (r4 : List Int) (w : World) (hr0 : Kd.C k26 w A0 l0.length l0) (hc0 : l0.length ≤ c0) (hr1 : Kd.C (Kd.int .i64) w A1 l1.length l1) (hc1 : l1.length ≤ c1) (h : spec_l3Run.f k l0 l1 a2 = some (r1, r2, r3, r4)) :
  Calls Try.prog 75 #[.slice A0 l0.length c0, .slice A1 l1.length c1, .int .i64 a2] w fun e w' => ∃ v3_ : Value, e = .returned (.tuple #[.int .i64 r1, .int .i64 r2, .int .i64 r3, v3_]) ∧ Kd.R (Kd.int .i64) 3 w' w.heap.size (fun _ => True) v3_ r4 ∧ Below w.heap.size w w' := by
 have hu116 := Try.underlying116
 have HR0 := Aside0.mk hr0
 have HC0 := Aside0.mk hc0
 clear hr0 hc0
 have HR1 := Aside0.mk hr1
 have HC1 := Aside0.mk hc1
 clear hr1 hc1
 have HB := Aside0.mk (Below.refl w.heap.size w)
 have H : ((spec_NewMachine.f).bind fun bt193 => (spec_l3Run.l0 k l0 l1 a2 ([] : List Int) bt193.1 bt193.2.1 bt193.2.2.1 bt193.2.2.2)) = some (r1, r2, r3, r4) := h
 clear h
 replace H := Option.bind_eq_some_iff.mp H
 obtain ⟨⟨t193, t194, t197, t200⟩, A40, H⟩ := H
 (try dsimp only at H)
 have A4 := Aside0.mk A40
 clear A40
 have H' := Aside0.mk H
 clear H
 go_enter Try.func75, Try.ntmps75
 go_wp2_with (first | (go_at_call 91; (with_reducible refine (spec_NewMachine.calls  t193 t194 t197 t200 _ A4.out).mono ?_); rintro e w5 ⟨v195, v198, v201, rfl, ho0, ho1, ho2, hb⟩; have n0_ := Aside0.mk (Kd.R_lower ho0 (below_size (zb_ HB.out))); have n1_ := Aside0.mk (Kd.R_lower ho1 (below_size (zb_ HB.out))); have n2_ := Aside0.mk (Kd.R_lower ho2 (below_size (zb_ HB.out))); have n3_ := Aside0.mk (below_step (zb_ HB.out) hb); clear HB; have HO196 := n0_; have HO199 := n1_; have HO202 := n2_; have HB := n3_; clear n0_ n1_ n2_ n3_; (try clear hb); (try clear hb2); (try clear hk); (try clear hi); (try clear ho0); (try clear ho1); (try clear ho2)) | ((with_reducible refine gate_dst (N := 10) rfl ?_); refine box_event ?hg (N := 10) ?hd (cs := #[.int .i64 0, .slice none 0 0, .slice none 0 0, .slice none 0 0]) (t := 116) ?hr ?_; (case hd => rfl); (case hg => rfl); (case hr => first | (go_simp; done) | (go_simp; rfl)); intro gb203 hg w6 hbox hb; have n0_ := Aside0.mk (Kd.R_below (zR_ HO196.out) hb); have n1_ := Aside0.mk (Kd.R_below (zR_ HO199.out) hb); have n2_ := Aside0.mk (Kd.R_below (zR_ HO202.out) hb); have n3_ := Aside0.mk (below_step (zb_ HB.out) hb); have n4_ := Aside0.mk (hbox); have n5_ := Aside0.mk ((by rw [hg]; exact (below_size (zb_ HB.out)) : w.heap.size ≤ gb203)); have n6_ := Aside0.mk ((by rw [hg]; exact (below_size (zb_ HB.out)) : w.heap.size ≤ gb203)); clear HO196; clear HO199; clear HO202; clear HB; have HO196 := n0_; have HO199 := n1_; have HO202 := n2_; have HB := n3_; have BK203 := n4_; have GW203 := n5_; have GE203 := n6_; clear n0_ n1_ n2_ n3_ n4_ n5_ n6_; clear hb hbox hg; have hcz7_0 : w6.cell? ⟨gb203, 0, none⟩ = some (.int .i64 0) := (blk_cell BK203.out 0).trans rfl; have hcz7_1 : w6.cell? ⟨gb203, 1, none⟩ = some (.slice none 0 0) := (blk_cell BK203.out 1).trans rfl; have hcz7_2 : w6.cell? ⟨gb203, 2, none⟩ = some (.slice none 0 0) := (blk_cell BK203.out 2).trans rfl; have hcz7_3 : w6.cell? ⟨gb203, 3, none⟩ = some (.slice none 0 0) := (blk_cell BK203.out 3).trans rfl; have hfz7_0 := blk_frozen BK203.out 0; have hfz7_1 := blk_frozen BK203.out 1; have hfz7_2 := blk_frozen BK203.out 2; have hfz7_3 := blk_frozen BK203.out 3; obtain ⟨Ao8, co8, eo8⟩ := Kd.R_slice HO196.out; subst eo8; obtain ⟨Ao9, co9, eo9⟩ := Kd.R_slice HO199.out; subst eo9; obtain ⟨Ao10, co10, eo10⟩ := Kd.R_slice HO202.out; subst eo10))
 repeat (go_quiet (fail); try go_wp2)
 go_loopg [2, 11] k (fun kq v2 v11 w' => ∃ (x2_1 : Int) (x11_1 : List Int) (x204000_1 : Int) (x204001_1 : List Int) (x204002_1 : List Int) (x204003_1 : List Bool) (u204001 : Value) (u204002 : Value) (u204003 : Value), v2 = .int .i64 x2_1 ∧ Aside0 (spec_l3Run.l0 kq l0 l1 x2_1 x11_1 x204000_1 x204001_1 x204002_1 x204003_1 = some (r1, r2, r3, r4)) ∧ Aside0 (kq ≤ k) ∧ Aside0 (Kd.R (Kd.int .i64) 3 w' w.heap.size (fun k_ => some k_ ≠ (u204001 : Value).ownBlock ∧ some k_ ≠ (u204002 : Value).ownBlock) v11 x11_1) ∧ Aside0 (Kd.R (Kd.int .i64) 3 w' w.heap.size (fun k_ => some k_ ≠ (v11 : Value).ownBlock ∧ some k_ ≠ (u204002 : Value).ownBlock) u204001 x204001_1) ∧ Aside0 (Kd.R (Kd.int .i64) 3 w' w.heap.size (fun k_ => some k_ ≠ (v11 : Value).ownBlock ∧ some k_ ≠ (u204001 : Value).ownBlock) u204002 x204002_1) ∧ Aside0 (Kd.R Kd.bool 4 w' w.heap.size (fun _ => True) u204003 x204003_1) ∧ Aside0 (w'.heap[gb203]? = some (.cells #[.int .i64 x204000_1, u204001, u204002, u204003] 116 (0, 0))) ∧ Aside0 (Below w.heap.size w w'))
 case atStart => exact ⟨(a2), (([] : List Int)), (t193), (t194), (t197), (t200), (.slice Ao8 t194.length co8), (.slice Ao9 t197.length co9), (.slice Ao10 t200.length co10), (by first | rfl | (simp; done) | (simp [*]; done)), H', ⟨Nat.le_refl _⟩, ⟨by first | exact Kd.R_nil _ _ _ _ _ | exact Kd.N_nil _ _ _ _ _ | exact Kd.V_nil _ _ _ _ _ | exact Kd.Q_nil _ _ _ _ _ | exact Kd.S_nil _ _ _ _ _⟩, ⟨by (with_reducible repeat (first | apply Ra_ | apply Rn_ | apply Rd_)); exact Kd.R_mono (Kd.R_far (p := ⟨gb203, 3, none⟩) (Kd.R_far (p := ⟨gb203, 2, none⟩) (Kd.R_far (p := ⟨gb203, 1, none⟩) (Kd.R_far (p := ⟨gb203, 0, none⟩) (Kd.R_types HO196.out BK203.out (by decide)) (fun _ hk => hk.2) (.int .i64 t193)) (fun _ hk => hk.2) (.slice Ao8 t194.length co8)) (fun _ hk => hk.2) (.slice Ao9 t197.length co9)) (fun _ hk => hk.2) (.slice Ao10 t200.length co10)) (fun _ hk => ⟨(by simp [Value.ownBlock]), hk.1⟩)⟩, ⟨by (with_reducible repeat (first | apply Ra_ | apply Rn_ | apply Rd_)); exact Kd.R_mono (Kd.R_far (p := ⟨gb203, 3, none⟩) (Kd.R_far (p := ⟨gb203, 2, none⟩) (Kd.R_far (p := ⟨gb203, 1, none⟩) (Kd.R_far (p := ⟨gb203, 0, none⟩) (Kd.R_types HO199.out BK203.out (by decide)) (fun _ hk => hk.2) (.int .i64 t193)) (fun _ hk => hk.2) (.slice Ao8 t194.length co8)) (fun _ hk => hk.2) (.slice Ao9 t197.length co9)) (fun _ hk => hk.2) (.slice Ao10 t200.length co10)) (fun _ hk => ⟨(by simp [Value.ownBlock]), hk.1⟩)⟩, ⟨by (with_reducible repeat (first | apply Ra_ | apply Rn_ | apply Rd_)); exact Kd.R_mono (Kd.R_far (p := ⟨gb203, 3, none⟩) (Kd.R_far (p := ⟨gb203, 2, none⟩) (Kd.R_far (p := ⟨gb203, 1, none⟩) (Kd.R_far (p := ⟨gb203, 0, none⟩) (Kd.R_types HO202.out BK203.out (by decide)) (fun _ hk => hk.2) (.int .i64 t193)) (fun _ hk => hk.2) (.slice Ao8 t194.length co8)) (fun _ hk => hk.2) (.slice Ao9 t197.length co9)) (fun _ hk => hk.2) (.slice Ao10 t200.length co10)) (fun _ hk => trivial)⟩, ⟨by (with_reducible repeat (first | refine on_ ?_ _ | refine od_ ?_ | refine oa_ ?_ _)); refine blk_put (cs := #[.int .i64 t193, .slice Ao8 t194.length co8, .slice Ao9 t197.length co9, .slice none 0 0]) ?_ 3 _ rfl; refine blk_put (cs := #[.int .i64 t193, .slice Ao8 t194.length co8, .slice none 0 0, .slice none 0 0]) ?_ 2 _ rfl; refine blk_put (cs := #[.int .i64 t193, .slice none 0 0, .slice none 0 0, .slice none 0 0]) ?_ 1 _ rfl; refine blk_put (cs := #[.int .i64 0, .slice none 0 0, .slice none 0 0, .slice none 0 0]) ?_ 0 _ rfl; (with_reducible repeat (first | refine on_ ?_ _ | refine od_ ?_ | refine oa_ ?_ _)); exact BK203.out⟩, ⟨by repeat (first | (with_reducible first | exact HB.out | apply ba_ | apply bn_ | apply bd_ | refine bs_ ?_ GE203.out) | exact HB.out)⟩⟩
 case round =>
  clear H'
  obtain ⟨x2_1, x11_1, x204000_1, x204001_1, x204002_1, x204003_1, u204001, u204002, u204003, rfl, HA, HK1, HO_11, HO_204001, HO_204002, HO_204003, BK203, HB⟩ := hrel
  cases gk with
  | zero => exact absurd HA.out (by simp [spec_l3Run.l0])
  | succ k1 =>
   have H := HA.out
   clear HA
   simp only [spec_l3Run.l0] at H
   by_cases c11 : x2_1 > 0
   ·rw [if_pos c11] at H
    have c11b0 : decide (0 < x2_1) = true := decide_eq_true c11
    clear c11
    by_cases c12 : x11_1.length < 17592186044416
    ·rw [if_pos c12] at H
     have LMc12 := Aside0.mk c12
     clear c12
     obtain ⟨y204, hy204⟩ : ∃ y_ : List Int, y_ = (x11_1 ++ [x204000_1]) := ⟨_, rfl⟩
     replace H : ((spec_l3Do.f k1 l0 l1 x204000_1 x204001_1 x204002_1 x204003_1).bind fun bt207 => (if bt207.2.2.2.2.1 > 0 then (some (0, bt207.2.2.2.2.1, x204000_1, y204)) else (if bt207.2.2.2.2.2 = true then (if 0 < (bt207.2.1.length : Int) then (some (rd bt207.2.1 0, 0, 0, y204)) else (none)) else (spec_l3Run.l0 k1 l0 l1 (wrap64 (x2_1 - 1)) y204 bt207.1 bt207.2.1 bt207.2.2.1 bt207.2.2.2.1)))) = some (r1, r2, r3, r4) := by first | (rw [hy204]; with_reducible exact H) | (have H2_ := (Option.bind_some _ _).symm.trans H; rw [hy204]; with_reducible exact H2_) | (have H2_ := (Option.bind_some _ _).symm.trans H; with_reducible exact H2_) | with_reducible exact H | (rw [hy204]; exact H) | exact H
     have Ny204 := Aside0.mk hy204
     clear hy204
     replace H := Option.bind_eq_some_iff.mp H
     obtain ⟨⟨t207, t208, t211, t214, t217, t218⟩, A130, H⟩ := H
     (try dsimp only at H)
     have A13 := Aside0.mk A130
     clear A130
     by_cases c14 : t217 > 0
     ·rw [if_pos c14] at H
      have c14b0 : decide (0 < t217) = true := decide_eq_true c14
      clear c14
      simp only [Option.some.injEq, Prod.mk.injEq] at H
      obtain ⟨rfl, rfl, rfl, rfl⟩ := H
      have hcz15_0 : wr.cell? ⟨gb203, 0, none⟩ = some (.int .i64 x204000_1) := (blk_cell BK203.out 0).trans rfl
      have hcz15_1 : wr.cell? ⟨gb203, 1, none⟩ = some (u204001) := (blk_cell BK203.out 1).trans rfl
      have hcz15_2 : wr.cell? ⟨gb203, 2, none⟩ = some (u204002) := (blk_cell BK203.out 2).trans rfl
      have hcz15_3 : wr.cell? ⟨gb203, 3, none⟩ = some (u204003) := (blk_cell BK203.out 3).trans rfl
      have hfz15_0 := blk_frozen BK203.out 0
      have hfz15_1 := blk_frozen BK203.out 1
      have hfz15_2 := blk_frozen BK203.out 2
      have hfz15_3 := blk_frozen BK203.out 3
      go_wp2_with (first | ((with_reducible refine gate_builtin (b := .append) (xs := #[.tmp 20, .tmp 23]) rfl ?_); at_builtin; refine Kd.R_append (Kd.int .i64) (w0 := w) w.heap.size rfl (.tmp 20) (.tmp 23) 37 3 (.int .i64 0) 8 rfl Try.underlying37 info3 rfl (by decide) (by omega) u11 x11_1 x204000_1 [.int .i64 x204000_1] (fun k_ => some k_ ≠ (u204001 : Value).ownBlock ∧ some k_ ≠ (u204002 : Value).ownBlock) (fun _ => False) rfl rfl ?aP (fun _ hk => hk.elim) ?aF ?aO ?aB ?aS ?aL ?_; (case aP => exact rfl); (case aB => exact (by repeat (first | (with_reducible first | exact HB.out | apply ba_ | apply bn_ | apply bd_ | refine bs_ ?_ GE203.out) | exact HB.out))); (case aF => exact (fun k_ hk => ⟨Kd.fresh' (Kd.R_lt (zR_ HO_204001.out)) k_ hk, Kd.fresh' (Kd.R_lt (zR_ HO_204002.out)) k_ hk⟩)); (case aO => exact (zR_ HO_11.out)); (case aS => exact (below_size (by repeat (first | (with_reducible first | exact HB.out | apply ba_ | apply bn_ | apply bd_ | refine bs_ ?_ GE203.out) | exact HB.out)))); (case aL => have := LMc12.out; omega); intro v205 w16 ho hb hg hat; rw [← Ny204.out] at ho; have n0_ := Aside0.mk (Kd.R_after (ok := (fun k_ => some k_ ≠ (u204002 : Value).ownBlock)) (by (with_reducible repeat (first | apply Ra_ | apply Rn_ | apply Rd_)); exact Kd.R_mono HO_204001.out (fun _ hk => ⟨hk.2, hk.1⟩)) hg hat); have n1_ := Aside0.mk (Kd.R_after (ok := (fun k_ => some k_ ≠ (u204001 : Value).ownBlock)) (by (with_reducible repeat (first | apply Ra_ | apply Rn_ | apply Rd_)); exact Kd.R_mono HO_204002.out (fun _ hk => ⟨hk.2, hk.1⟩)) hg hat); have n2_ := Aside0.mk (Kd.R_over' (zR_ HO_204003.out) (Kd.R_typed (zR_ HO_11.out)) (by decide) hg); have n3_ := Aside0.mk (blk_grown (g := gb203) (o := .cells #[.int .i64 x204000_1, u204001, u204002, u204003] 116 (0, 0)) (zO_ BK203.out) hg (Kd.R_ne HO_11.out BK203.out (by decide))); have n4_ := Aside0.mk (hb); have n5_ := Aside0.mk (ho); clear HO_204001; clear HO_204002; clear HO_204003; clear BK203; clear HB; clear HO_11; have HO_204001 := n0_; have HO_204002 := n1_; have HO_204003 := n2_; have BK203 := n3_; have HB := n4_; have HO206 := n5_; clear n0_ n1_ n2_ n3_ n4_ n5_; clear ho hb hg hat; have hcz17_0 : w16.cell? ⟨gb203, 0, none⟩ = some (.int .i64 x204000_1) := (blk_cell BK203.out 0).trans rfl; have hcz17_1 : w16.cell? ⟨gb203, 1, none⟩ = some (u204001) := (blk_cell BK203.out 1).trans rfl; have hcz17_2 : w16.cell? ⟨gb203, 2, none⟩ = some (u204002) := (blk_cell BK203.out 2).trans rfl; have hcz17_3 : w16.cell? ⟨gb203, 3, none⟩ = some (u204003) := (blk_cell BK203.out 3).trans rfl; have hfz17_0 := blk_frozen BK203.out 0; have hfz17_1 := blk_frozen BK203.out 1; have hfz17_2 := blk_frozen BK203.out 2; have hfz17_3 := blk_frozen BK203.out 3; obtain ⟨Ao18, co18, eo18⟩ := Kd.R_slice HO_204001.out; subst eo18; obtain ⟨Ao19, co19, eo19⟩ := Kd.R_slice HO_204002.out; subst eo19; obtain ⟨Ao20, co20, eo20⟩ := Kd.R_slice HO_204003.out; subst eo20) | (go_at_call 92; (with_reducible refine (spec_l3Do.calls k1 _ _ l0 _ _ l1 x204000_1 (fun k_ => some k_ = (.slice Ao18 x204001_1.length co18 : Value).ownBlock) (.slice Ao18 x204001_1.length co18) x204001_1 (fun k_ => some k_ = (.slice Ao19 x204002_1.length co19 : Value).ownBlock) (.slice Ao19 x204002_1.length co19) x204002_1 (fun k_ => some k_ = (.slice Ao20 x204003_1.length co20 : Value).ownBlock) (.slice Ao20 x204003_1.length co20) x204003_1 t207 t208 t211 t214 t217 t218 w _ ?side1 ?side2 ?side3 ?side4 ?side5 ?side6 ?side7 ?side8 ?side9 ?side10 A13.out).mono ?_); (case side1 => repeat (first | (with_reducible first | exact HB.out | apply ba_ | apply bn_ | apply bd_ | refine bs_ ?_ GE203.out) | exact HB.out)); (case side2 => exact Kd.C_kept_came k26_heap HR0.out (by repeat (first | (with_reducible first | exact HB.out | apply ba_ | apply bn_ | apply bd_ | refine bs_ ?_ GE203.out) | exact HB.out)) (fun k_ hs_ => Or.elim hs_ (fun e_ => (fun e_ => Kd.R_base HO_204001.out k_ e_.symm) e_) (fun e_ => Or.elim e_ (fun e_ => (fun e_ => Kd.R_base HO_204002.out k_ e_.symm) e_) (fun e_ => (fun e_ => Kd.R_base HO_204003.out k_ e_.symm) e_)))); (case side3 => exact HC0.out); (case side4 => exact Kd.C_kept_came (Kd.heap_int .i64) HR1.out (by repeat (first | (with_reducible first | exact HB.out | apply ba_ | apply bn_ | apply bd_ | refine bs_ ?_ GE203.out) | exact HB.out)) (fun k_ hs_ => Or.elim hs_ (fun e_ => (fun e_ => Kd.R_base HO_204001.out k_ e_.symm) e_) (fun e_ => Or.elim e_ (fun e_ => (fun e_ => Kd.R_base HO_204002.out k_ e_.symm) e_) (fun e_ => (fun e_ => Kd.R_base HO_204003.out k_ e_.symm) e_)))); (case side5 => exact HC1.out); (case side6 => exact Kd.R_tight rfl HO_204001.out); (case side7 => exact fun k_ e_ => (HO_204001.out.1 k_ e_.symm).1); (case side8 => exact Kd.R_tight rfl HO_204002.out); (case side9 => exact fun k_ e_ => (HO_204002.out.1 k_ e_.symm).1); (case side10 => exact Kd.R_tight rfl HO_204003.out); rintro e w21 ⟨v209, v212, v215, rfl, ho0, ho1, ho2, hb, hkp⟩; have n0_ := Aside0.mk (blk_kept (zO_ BK203.out) hkp (fun hs_ => Or.elim hs_ (fun e_ => (fun e_ => (Kd.R_ne HO_204001.out BK203.out (by decide)) e_) e_) (fun e_ => Or.elim e_ (fun e_ => (fun e_ => (Kd.R_ne HO_204002.out BK203.out (by decide)) e_) e_) (fun e_ => (fun e_ => (Kd.R_ne HO_204003.out BK203.out (by decide)) e_) e_)))); have n1_ := Aside0.mk (Kd.R_mono (ok' := fun k_ => some k_ ≠ (v209 : Value).ownBlock ∧ some k_ ≠ (v212 : Value).ownBlock) (Kd.R_keptB ((Kd.R_apart' HO206.out (Kd.R_typed HO_204003.out) (by decide))) hkp (fun k_ hk_ hs_ => Or.elim hs_ (fun e_ => (hk_.1.1) e_) (fun e_ => Or.elim e_ (fun e_ => (hk_.1.2) e_) (fun e_ => (hk_.2) e_)))) (fun k_ hk_ => ⟨fun e_ => Or.elim (ho0.1 k_ e_.symm).1 (fun hs_ => hk_.2.1 hs_) (fun hn_ => Nat.not_le.2 hk_.2.2 hn_), fun e_ => Or.elim (ho1.1 k_ e_.symm).1 (fun hs_ => hk_.2.1 hs_) (fun hn_ => Nat.not_le.2 hk_.2.2 hn_)⟩)); have n2_ := Aside0.mk (Kd.R_mono (ok' := fun k_ => some k_ ≠ (v212 : Value).ownBlock ∧ some k_ ≠ (v205 : Value).ownBlock) ho0 (fun k_ hk_ => ⟨hk_.2, Or.elim hk_.1 (fun hs_ => Or.elim hs_ (fun hs_ => fun e_ => ((((Kd.R_apart' HO206.out (Kd.R_typed HO_204003.out) (by decide))).1 k_ e_.symm).1.1) hs_) (fun hs_ => Or.elim hs_ (fun hs_ => fun e_ => ((((Kd.R_apart' HO206.out (Kd.R_typed HO_204003.out) (by decide))).1 k_ e_.symm).1.2) hs_) (fun hs_ => fun e_ => ((((Kd.R_apart' HO206.out (Kd.R_typed HO_204003.out) (by decide))).1 k_ e_.symm).2) hs_))) (fun hn_ => (Kd.fresh' (Kd.R_lt (zR_ HO206.out)) k_ hn_))⟩)); have n3_ := Aside0.mk (Kd.R_mono (ok' := fun k_ => some k_ ≠ (v209 : Value).ownBlock ∧ some k_ ≠ (v205 : Value).ownBlock) ho1 (fun k_ hk_ => ⟨hk_.2, Or.elim hk_.1 (fun hs_ => Or.elim hs_ (fun hs_ => fun e_ => ((((Kd.R_apart' HO206.out (Kd.R_typed HO_204003.out) (by decide))).1 k_ e_.symm).1.1) hs_) (fun hs_ => Or.elim hs_ (fun hs_ => fun e_ => ((((Kd.R_apart' HO206.out (Kd.R_typed HO_204003.out) (by decide))).1 k_ e_.symm).1.2) hs_) (fun hs_ => fun e_ => ((((Kd.R_apart' HO206.out (Kd.R_typed HO_204003.out) (by decide))).1 k_ e_.symm).2) hs_))) (fun hn_ => (Kd.fresh' (Kd.R_lt (zR_ HO206.out)) k_ hn_))⟩)); have n4_ := Aside0.mk (Kd.R_mono (ok' := fun k_ => True) ho2 (fun k_ hk_ => trivial)); have n5_ := Aside0.mk (hb); clear BK203; clear HO206; clear HB; clear HO_204001; clear HO_204002; clear HO_204003; have BK203 := n0_; have HO206 := n1_; have HO210 := n2_; have HO213 := n3_; have HO216 := n4_; have HB := n5_; clear n0_ n1_ n2_ n3_ n4_ n5_; (try clear hb); (try clear hkp); (try clear ho0); (try clear ho1); (try clear ho2)) | ((with_reducible refine gate_dst (N := 12) rfl ?_); refine box_event ?hg (N := 12) ?hd (cs := #[.int .i64 0, .slice none 0 0, .slice none 0 0, .slice none 0 0]) (t := 116) ?hr ?_; (case hd => rfl); (case hg => rfl); (case hr => first | (go_simp; done) | (go_simp; rfl)); intro gb219 hg w22 hbox hb; have n0_ := Aside0.mk (Kd.R_below (zR_ HO206.out) hb); have n1_ := Aside0.mk (Kd.R_below (zR_ HO210.out) hb); have n2_ := Aside0.mk (Kd.R_below (zR_ HO213.out) hb); have n3_ := Aside0.mk (Kd.R_below (zR_ HO216.out) hb); have n4_ := Aside0.mk (blk_below (g := gb203) (o := .cells #[.int .i64 x204000_1, .slice Ao18 x204001_1.length co18, .slice Ao19 x204002_1.length co19, .slice Ao20 x204003_1.length co20] 116 (0, 0)) (zO_ BK203.out) hb); have n5_ := Aside0.mk (below_step (by repeat (first | (with_reducible first | exact HB.out | apply ba_ | apply bn_ | apply bd_ | refine bs_ ?_ GE203.out) | exact HB.out)) hb); have n6_ := Aside0.mk (hbox); have n7_ := Aside0.mk ((by rw [hg]; exact (below_size (by repeat (first | (with_reducible first | exact HB.out | apply ba_ | apply bn_ | apply bd_ | refine bs_ ?_ GE203.out) | exact HB.out))) : w.heap.size ≤ gb219)); have n8_ := Aside0.mk ((by rw [hg]; exact (below_size (by repeat (first | (with_reducible first | exact HB.out | apply ba_ | apply bn_ | apply bd_ | refine bs_ ?_ GE203.out) | exact HB.out))) : w.heap.size ≤ gb219)); have n9_ := Aside0.mk ((by rw [hg]; exact Nat.ne_of_lt (blk_lt (g := gb203) (o := .cells #[.int .i64 x204000_1, .slice Ao18 x204001_1.length co18, .slice Ao19 x204002_1.length co19, .slice Ao20 x204003_1.length co20] 116 (0, 0)) (zO_ BK203.out)) : gb203 ≠ gb219)); have n10_ := Aside0.mk ((by rw [hg]; exact Nat.ne_of_gt (blk_lt (g := gb203) (o := .cells #[.int .i64 x204000_1, .slice Ao18 x204001_1.length co18, .slice Ao19 x204002_1.length co19, .slice Ao20 x204003_1.length co20] 116 (0, 0)) (zO_ BK203.out)) : gb219 ≠ gb203)); clear HO206; clear HO210; clear HO213; clear HO216; clear BK203; clear HB; have HO206 := n0_; have HO210 := n1_; have HO213 := n2_; have HO216 := n3_; have BK203 := n4_; have HB := n5_; have BK219 := n6_; have GW219 := n7_; have GE219 := n8_; have NB203_219 := n9_; have NB219_203 := n10_; clear n0_ n1_ n2_ n3_ n4_ n5_ n6_ n7_ n8_ n9_ n10_; clear hb hbox hg; have hnb23 := NB219_203.out; have hnc23 := NB203_219.out; have hcz24_0 : w22.cell? ⟨gb219, 0, none⟩ = some (.int .i64 0) := (blk_cell BK219.out 0).trans rfl; have hcz24_1 : w22.cell? ⟨gb219, 1, none⟩ = some (.slice none 0 0) := (blk_cell BK219.out 1).trans rfl; have hcz24_2 : w22.cell? ⟨gb219, 2, none⟩ = some (.slice none 0 0) := (blk_cell BK219.out 2).trans rfl; have hcz24_3 : w22.cell? ⟨gb219, 3, none⟩ = some (.slice none 0 0) := (blk_cell BK219.out 3).trans rfl; have hfz24_0 := blk_frozen BK219.out 0; have hfz24_1 := blk_frozen BK219.out 1; have hfz24_2 := blk_frozen BK219.out 2; have hfz24_3 := blk_frozen BK219.out 3; obtain ⟨Ao25, co25, eo25⟩ := Kd.R_slice HO210.out; subst eo25; obtain ⟨Ao26, co26, eo26⟩ := Kd.R_slice HO213.out; subst eo26; obtain ⟨Ao27, co27, eo27⟩ := Kd.R_slice HO216.out; subst eo27; have hcz28_0 : w22.cell? ⟨gb203, 0, none⟩ = some (.int .i64 x204000_1) := (blk_cell BK203.out 0).trans rfl; have hcz28_1 : w22.cell? ⟨gb203, 1, none⟩ = some (.slice Ao18 x204001_1.length co18) := (blk_cell BK203.out 1).trans rfl; have hcz28_2 : w22.cell? ⟨gb203, 2, none⟩ = some (.slice Ao19 x204002_1.length co19) := (blk_cell BK203.out 2).trans rfl; have hcz28_3 : w22.cell? ⟨gb203, 3, none⟩ = some (.slice Ao20 x204003_1.length co20) := (blk_cell BK203.out 3).trans rfl; have hfz28_0 := blk_frozen BK203.out 0; have hfz28_1 := blk_frozen BK203.out 1; have hfz28_2 := blk_frozen BK203.out 2; have hfz28_3 := blk_frozen BK203.out 3))
      repeat (go_quiet (fail); try go_wp2)
      refine bodyPost_ret (results_list (rs := [.tmp 6, .tmp 7, .tmp 8, .tmp 9]) rfl (by simp) (.tmp (.tmp (.tmp (.tmp .nil))))) rfl ?_
      exact ⟨_, by first | rfl | (simp <;> rfl) | (simp [*] <;> rfl), by (with_reducible repeat (first | apply Ra_ | apply Rn_ | apply Rd_)); exact Kd.R_mono (Kd.R_far (p := ⟨gb219, 3, none⟩) (Kd.R_far (p := ⟨gb219, 2, none⟩) (Kd.R_far (p := ⟨gb219, 1, none⟩) (Kd.R_far (p := ⟨gb219, 0, none⟩) (Kd.R_types HO206.out BK219.out (by decide)) (fun _ hk => hk.2) (.int .i64 t207)) (fun _ hk => hk.2) (.slice Ao25 t208.length co25)) (fun _ hk => hk.2) (.slice Ao26 t211.length co26)) (fun _ hk => hk.2) (.slice Ao27 t214.length co27)) (fun _ hk => trivial), by repeat (first | (with_reducible first | exact HB.out | apply ba_ | apply bn_ | apply bd_ | refine bs_ ?_ GE203.out | refine bs_ ?_ GE219.out) | exact HB.out)⟩
     rw [if_neg c14] at H
     have c14b0 : decide (0 < t217) = false := decide_eq_false c14
     clear c14
     by_cases c29 : t218 = true
     ·subst c29
      have H1 : (if 0 < (t208.length : Int) then (some (rd t208 0, 0, 0, y204)) else (none)) = some (r1, r2, r3, r4) := by rw [if_pos rfl] at H; exact H
      clear H
      have H := H1
      clear H1
      by_cases c30 : 0 < (t208.length : Int)
      ·rw [if_pos c30] at H
       have c30b0 : decide (0 < (t208.length : Int)) = true := decide_eq_true c30
       have c30b1 : decide (0 < t208.length) = true := decide_eq_true (by omega)
       clear c30
       simp only [Option.some.injEq, Prod.mk.injEq] at H
       obtain ⟨rfl, rfl, rfl, rfl⟩ := H
       have hcz31_0 : wr.cell? ⟨gb203, 0, none⟩ = some (.int .i64 x204000_1) := (blk_cell BK203.out 0).trans rfl
       have hcz31_1 : wr.cell? ⟨gb203, 1, none⟩ = some (u204001) := (blk_cell BK203.out 1).trans rfl
       have hcz31_2 : wr.cell? ⟨gb203, 2, none⟩ = some (u204002) := (blk_cell BK203.out 2).trans rfl
       have hcz31_3 : wr.cell? ⟨gb203, 3, none⟩ = some (u204003) := (blk_cell BK203.out 3).trans rfl
       have hfz31_0 := blk_frozen BK203.out 0
       have hfz31_1 := blk_frozen BK203.out 1
       have hfz31_2 := blk_frozen BK203.out 2
       have hfz31_3 := blk_frozen BK203.out 3
       go_wp2_with (first | ((with_reducible refine gate_builtin (b := .append) (xs := #[.tmp 20, .tmp 23]) rfl ?_); at_builtin; refine Kd.R_append (Kd.int .i64) (w0 := w) w.heap.size rfl (.tmp 20) (.tmp 23) 37 3 (.int .i64 0) 8 rfl Try.underlying37 info3 rfl (by decide) (by omega) u11 x11_1 x204000_1 [.int .i64 x204000_1] (fun k_ => some k_ ≠ (u204001 : Value).ownBlock ∧ some k_ ≠ (u204002 : Value).ownBlock) (fun _ => False) rfl rfl ?aP (fun _ hk => hk.elim) ?aF ?aO ?aB ?aS ?aL ?_; (case aP => exact rfl); (case aB => exact (by repeat (first | (with_reducible first | exact HB.out | apply ba_ | apply bn_ | apply bd_ | refine bs_ ?_ GE203.out) | exact HB.out))); (case aF => exact (fun k_ hk => ⟨Kd.fresh' (Kd.R_lt (zR_ HO_204001.out)) k_ hk, Kd.fresh' (Kd.R_lt (zR_ HO_204002.out)) k_ hk⟩)); (case aO => exact (zR_ HO_11.out)); (case aS => exact (below_size (by repeat (first | (with_reducible first | exact HB.out | apply ba_ | apply bn_ | apply bd_ | refine bs_ ?_ GE203.out) | exact HB.out)))); (case aL => have := LMc12.out; omega); intro v205 w32 ho hb hg hat; rw [← Ny204.out] at ho; have n0_ := Aside0.mk (Kd.R_after (ok := (fun k_ => some k_ ≠ (u204002 : Value).ownBlock)) (by (with_reducible repeat (first | apply Ra_ | apply Rn_ | apply Rd_)); exact Kd.R_mono HO_204001.out (fun _ hk => ⟨hk.2, hk.1⟩)) hg hat); have n1_ := Aside0.mk (Kd.R_after (ok := (fun k_ => some k_ ≠ (u204001 : Value).ownBlock)) (by (with_reducible repeat (first | apply Ra_ | apply Rn_ | apply Rd_)); exact Kd.R_mono HO_204002.out (fun _ hk => ⟨hk.2, hk.1⟩)) hg hat); have n2_ := Aside0.mk (Kd.R_over' (zR_ HO_204003.out) (Kd.R_typed (zR_ HO_11.out)) (by decide) hg); have n3_ := Aside0.mk (blk_grown (g := gb203) (o := .cells #[.int .i64 x204000_1, u204001, u204002, u204003] 116 (0, 0)) (zO_ BK203.out) hg (Kd.R_ne HO_11.out BK203.out (by decide))); have n4_ := Aside0.mk (hb); have n5_ := Aside0.mk (ho); clear HO_204001; clear HO_204002; clear HO_204003; clear BK203; clear HB; clear HO_11; have HO_204001 := n0_; have HO_204002 := n1_; have HO_204003 := n2_; have BK203 := n3_; have HB := n4_; have HO206 := n5_; clear n0_ n1_ n2_ n3_ n4_ n5_; clear ho hb hg hat; have hcz33_0 : w32.cell? ⟨gb203, 0, none⟩ = some (.int .i64 x204000_1) := (blk_cell BK203.out 0).trans rfl; have hcz33_1 : w32.cell? ⟨gb203, 1, none⟩ = some (u204001) := (blk_cell BK203.out 1).trans rfl; have hcz33_2 : w32.cell? ⟨gb203, 2, none⟩ = some (u204002) := (blk_cell BK203.out 2).trans rfl; have hcz33_3 : w32.cell? ⟨gb203, 3, none⟩ = some (u204003) := (blk_cell BK203.out 3).trans rfl; have hfz33_0 := blk_frozen BK203.out 0; have hfz33_1 := blk_frozen BK203.out 1; have hfz33_2 := blk_frozen BK203.out 2; have hfz33_3 := blk_frozen BK203.out 3; obtain ⟨Ao34, co34, eo34⟩ := Kd.R_slice HO_204001.out; subst eo34; obtain ⟨Ao35, co35, eo35⟩ := Kd.R_slice HO_204002.out; subst eo35; obtain ⟨Ao36, co36, eo36⟩ := Kd.R_slice HO_204003.out; subst eo36) | (go_at_call 92; (with_reducible refine (spec_l3Do.calls k1 _ _ l0 _ _ l1 x204000_1 (fun k_ => some k_ = (.slice Ao34 x204001_1.length co34 : Value).ownBlock) (.slice Ao34 x204001_1.length co34) x204001_1 (fun k_ => some k_ = (.slice Ao35 x204002_1.length co35 : Value).ownBlock) (.slice Ao35 x204002_1.length co35) x204002_1 (fun k_ => some k_ = (.slice Ao36 x204003_1.length co36 : Value).ownBlock) (.slice Ao36 x204003_1.length co36) x204003_1 t207 t208 t211 t214 t217 true w _ ?side1 ?side2 ?side3 ?side4 ?side5 ?side6 ?side7 ?side8 ?side9 ?side10 A13.out).mono ?_); (case side1 => repeat (first | (with_reducible first | exact HB.out | apply ba_ | apply bn_ | apply bd_ | refine bs_ ?_ GE203.out) | exact HB.out)); (case side2 => exact Kd.C_kept_came k26_heap HR0.out (by repeat (first | (with_reducible first | exact HB.out | apply ba_ | apply bn_ | apply bd_ | refine bs_ ?_ GE203.out) | exact HB.out)) (fun k_ hs_ => Or.elim hs_ (fun e_ => (fun e_ => Kd.R_base HO_204001.out k_ e_.symm) e_) (fun e_ => Or.elim e_ (fun e_ => (fun e_ => Kd.R_base HO_204002.out k_ e_.symm) e_) (fun e_ => (fun e_ => Kd.R_base HO_204003.out k_ e_.symm) e_)))); (case side3 => exact HC0.out); (case side4 => exact Kd.C_kept_came (Kd.heap_int .i64) HR1.out (by repeat (first | (with_reducible first | exact HB.out | apply ba_ | apply bn_ | apply bd_ | refine bs_ ?_ GE203.out) | exact HB.out)) (fun k_ hs_ => Or.elim hs_ (fun e_ => (fun e_ => Kd.R_base HO_204001.out k_ e_.symm) e_) (fun e_ => Or.elim e_ (fun e_ => (fun e_ => Kd.R_base HO_204002.out k_ e_.symm) e_) (fun e_ => (fun e_ => Kd.R_base HO_204003.out k_ e_.symm) e_)))); (case side5 => exact HC1.out); (case side6 => exact Kd.R_tight rfl HO_204001.out); (case side7 => exact fun k_ e_ => (HO_204001.out.1 k_ e_.symm).1); (case side8 => exact Kd.R_tight rfl HO_204002.out); (case side9 => exact fun k_ e_ => (HO_204002.out.1 k_ e_.symm).1); (case side10 => exact Kd.R_tight rfl HO_204003.out); rintro e w37 ⟨v209, v212, v215, rfl, ho0, ho1, ho2, hb, hkp⟩; have n0_ := Aside0.mk (blk_kept (zO_ BK203.out) hkp (fun hs_ => Or.elim hs_ (fun e_ => (fun e_ => (Kd.R_ne HO_204001.out BK203.out (by decide)) e_) e_) (fun e_ => Or.elim e_ (fun e_ => (fun e_ => (Kd.R_ne HO_204002.out BK203.out (by decide)) e_) e_) (fun e_ => (fun e_ => (Kd.R_ne HO_204003.out BK203.out (by decide)) e_) e_)))); have n1_ := Aside0.mk (Kd.R_mono (ok' := fun k_ => some k_ ≠ (v209 : Value).ownBlock ∧ some k_ ≠ (v212 : Value).ownBlock) (Kd.R_keptB ((Kd.R_apart' HO206.out (Kd.R_typed HO_204003.out) (by decide))) hkp (fun k_ hk_ hs_ => Or.elim hs_ (fun e_ => (hk_.1.1) e_) (fun e_ => Or.elim e_ (fun e_ => (hk_.1.2) e_) (fun e_ => (hk_.2) e_)))) (fun k_ hk_ => ⟨fun e_ => Or.elim (ho0.1 k_ e_.symm).1 (fun hs_ => hk_.2.1 hs_) (fun hn_ => Nat.not_le.2 hk_.2.2 hn_), fun e_ => Or.elim (ho1.1 k_ e_.symm).1 (fun hs_ => hk_.2.1 hs_) (fun hn_ => Nat.not_le.2 hk_.2.2 hn_)⟩)); have n2_ := Aside0.mk (Kd.R_mono (ok' := fun k_ => some k_ ≠ (v212 : Value).ownBlock ∧ some k_ ≠ (v205 : Value).ownBlock) ho0 (fun k_ hk_ => ⟨hk_.2, Or.elim hk_.1 (fun hs_ => Or.elim hs_ (fun hs_ => fun e_ => ((((Kd.R_apart' HO206.out (Kd.R_typed HO_204003.out) (by decide))).1 k_ e_.symm).1.1) hs_) (fun hs_ => Or.elim hs_ (fun hs_ => fun e_ => ((((Kd.R_apart' HO206.out (Kd.R_typed HO_204003.out) (by decide))).1 k_ e_.symm).1.2) hs_) (fun hs_ => fun e_ => ((((Kd.R_apart' HO206.out (Kd.R_typed HO_204003.out) (by decide))).1 k_ e_.symm).2) hs_))) (fun hn_ => (Kd.fresh' (Kd.R_lt (zR_ HO206.out)) k_ hn_))⟩)); have n3_ := Aside0.mk (Kd.R_mono (ok' := fun k_ => some k_ ≠ (v209 : Value).ownBlock ∧ some k_ ≠ (v205 : Value).ownBlock) ho1 (fun k_ hk_ => ⟨hk_.2, Or.elim hk_.1 (fun hs_ => Or.elim hs_ (fun hs_ => fun e_ => ((((Kd.R_apart' HO206.out (Kd.R_typed HO_204003.out) (by decide))).1 k_ e_.symm).1.1) hs_) (fun hs_ => Or.elim hs_ (fun hs_ => fun e_ => ((((Kd.R_apart' HO206.out (Kd.R_typed HO_204003.out) (by decide))).1 k_ e_.symm).1.2) hs_) (fun hs_ => fun e_ => ((((Kd.R_apart' HO206.out (Kd.R_typed HO_204003.out) (by decide))).1 k_ e_.symm).2) hs_))) (fun hn_ => (Kd.fresh' (Kd.R_lt (zR_ HO206.out)) k_ hn_))⟩)); have n4_ := Aside0.mk (Kd.R_mono (ok' := fun k_ => True) ho2 (fun k_ hk_ => trivial)); have n5_ := Aside0.mk (hb); clear BK203; clear HO206; clear HB; clear HO_204001; clear HO_204002; clear HO_204003; have BK203 := n0_; have HO206 := n1_; have HO210 := n2_; have HO213 := n3_; have HO216 := n4_; have HB := n5_; clear n0_ n1_ n2_ n3_ n4_ n5_; (try clear hb); (try clear hkp); (try clear ho0); (try clear ho1); (try clear ho2)) | ((with_reducible refine gate_dst (N := 12) rfl ?_); refine box_event ?hg (N := 12) ?hd (cs := #[.int .i64 0, .slice none 0 0, .slice none 0 0, .slice none 0 0]) (t := 116) ?hr ?_; (case hd => rfl); (case hg => rfl); (case hr => first | (go_simp; done) | (go_simp; rfl)); intro gb219 hg w38 hbox hb; have n0_ := Aside0.mk (Kd.R_below (zR_ HO206.out) hb); have n1_ := Aside0.mk (Kd.R_below (zR_ HO210.out) hb); have n2_ := Aside0.mk (Kd.R_below (zR_ HO213.out) hb); have n3_ := Aside0.mk (Kd.R_below (zR_ HO216.out) hb); have n4_ := Aside0.mk (blk_below (g := gb203) (o := .cells #[.int .i64 x204000_1, .slice Ao34 x204001_1.length co34, .slice Ao35 x204002_1.length co35, .slice Ao36 x204003_1.length co36] 116 (0, 0)) (zO_ BK203.out) hb); have n5_ := Aside0.mk (below_step (by repeat (first | (with_reducible first | exact HB.out | apply ba_ | apply bn_ | apply bd_ | refine bs_ ?_ GE203.out) | exact HB.out)) hb); have n6_ := Aside0.mk (hbox); have n7_ := Aside0.mk ((by rw [hg]; exact (below_size (by repeat (first | (with_reducible first | exact HB.out | apply ba_ | apply bn_ | apply bd_ | refine bs_ ?_ GE203.out) | exact HB.out))) : w.heap.size ≤ gb219)); have n8_ := Aside0.mk ((by rw [hg]; exact (below_size (by repeat (first | (with_reducible first | exact HB.out | apply ba_ | apply bn_ | apply bd_ | refine bs_ ?_ GE203.out) | exact HB.out))) : w.heap.size ≤ gb219)); have n9_ := Aside0.mk ((by rw [hg]; exact Nat.ne_of_lt (blk_lt (g := gb203) (o := .cells #[.int .i64 x204000_1, .slice Ao34 x204001_1.length co34, .slice Ao35 x204002_1.length co35, .slice Ao36 x204003_1.length co36] 116 (0, 0)) (zO_ BK203.out)) : gb203 ≠ gb219)); have n10_ := Aside0.mk ((by rw [hg]; exact Nat.ne_of_gt (blk_lt (g := gb203) (o := .cells #[.int .i64 x204000_1, .slice Ao34 x204001_1.length co34, .slice Ao35 x204002_1.length co35, .slice Ao36 x204003_1.length co36] 116 (0, 0)) (zO_ BK203.out)) : gb219 ≠ gb203)); clear HO206; clear HO210; clear HO213; clear HO216; clear BK203; clear HB; have HO206 := n0_; have HO210 := n1_; have HO213 := n2_; have HO216 := n3_; have BK203 := n4_; have HB := n5_; have BK219 := n6_; have GW219 := n7_; have GE219 := n8_; have NB203_219 := n9_; have NB219_203 := n10_; clear n0_ n1_ n2_ n3_ n4_ n5_ n6_ n7_ n8_ n9_ n10_; clear hb hbox hg; have hnb39 := NB219_203.out; have hnc39 := NB203_219.out; have hcz40_0 : w38.cell? ⟨gb219, 0, none⟩ = some (.int .i64 0) := (blk_cell BK219.out 0).trans rfl; have hcz40_1 : w38.cell? ⟨gb219, 1, none⟩ = some (.slice none 0 0) := (blk_cell BK219.out 1).trans rfl; have hcz40_2 : w38.cell? ⟨gb219, 2, none⟩ = some (.slice none 0 0) := (blk_cell BK219.out 2).trans rfl; have hcz40_3 : w38.cell? ⟨gb219, 3, none⟩ = some (.slice none 0 0) := (blk_cell BK219.out 3).trans rfl; have hfz40_0 := blk_frozen BK219.out 0; have hfz40_1 := blk_frozen BK219.out 1; have hfz40_2 := blk_frozen BK219.out 2; have hfz40_3 := blk_frozen BK219.out 3; obtain ⟨Ao41, co41, eo41⟩ := Kd.R_slice HO210.out; subst eo41; obtain ⟨Ao42, co42, eo42⟩ := Kd.R_slice HO213.out; subst eo42; obtain ⟨Ao43, co43, eo43⟩ := Kd.R_slice HO216.out; subst eo43; have p220 : 0 ≤ (0 : Int) := (by omega); have q220 : 0 < (t208.length : Int) := dt_; obtain ⟨ad220, e220, hx220_0⟩ := Kd.at_int (Kd.R_reads' HO210.out).2.2 0 p220 q220; cases e220; have qi220 : (0 < t208.length) = True := eq_true (by omega); (try rw [show ((0 : Int)).toNat = 0 from rfl] at hx220_0); (try rw [Addr.add_zero'] at hx220_0); have hn220_0 : ad220.block ≠ gb219 := Kd.own_blk (Kd.R_ne HO210.out BK219.out (by decide)); have hn220_1 : ad220.block ≠ gb219 := Kd.own_blk (Kd.R_ne HO210.out BK219.out (by decide)); have hn220_2 : ad220.block ≠ gb219 := Kd.own_blk (Kd.R_ne HO210.out BK219.out (by decide)); have hn220_3 : ad220.block ≠ gb219 := Kd.own_blk (Kd.R_ne HO210.out BK219.out (by decide)); replace hx220_0 := (cell_far (p := ⟨gb219, 0, none⟩) (by first | (rw [add_block]; exact hn220_0) | (show (Addr.add _ _).block ≠ _; rw [add_block]; exact hn220_0) | exact hn220_0) (.int .i64 t207)).trans hx220_0; replace hx220_0 := (cell_far (p := ⟨gb219, 1, none⟩) (by first | (rw [add_block]; exact hn220_1) | (show (Addr.add _ _).block ≠ _; rw [add_block]; exact hn220_1) | exact hn220_1) (.slice (some ad220) t208.length co41)).trans hx220_0; replace hx220_0 := (cell_far (p := ⟨gb219, 2, none⟩) (by first | (rw [add_block]; exact hn220_2) | (show (Addr.add _ _).block ≠ _; rw [add_block]; exact hn220_2) | exact hn220_2) (.slice Ao42 t211.length co42)).trans hx220_0; replace hx220_0 := (cell_far (p := ⟨gb219, 3, none⟩) (by first | (rw [add_block]; exact hn220_3) | (show (Addr.add _ _).block ≠ _; rw [add_block]; exact hn220_3) | exact hn220_3) (.slice Ao43 t214.length co43)).trans hx220_0; (try have hy220_0 := fun (n_ : Nat) => (show ((((((w38.drewN n_).setCell ⟨gb219, 0, none⟩ (.int .i64 t207)).setCell ⟨gb219, 1, none⟩ (.slice (some ad220) t208.length co41)).setCell ⟨gb219, 2, none⟩ (.slice Ao42 t211.length co42)).setCell ⟨gb219, 3, none⟩ (.slice Ao43 t214.length co43))).cell? _ = some _ from hx220_0)); clear hn220_0; clear hn220_1; clear hn220_2; clear hn220_3; replace p220 := eq_true p220; replace q220 := eq_true q220))
       repeat (go_quiet (fail); try go_wp2)
       refine bodyPost_ret (results_list (rs := [.tmp 6, .tmp 7, .tmp 8, .tmp 9]) rfl (by simp) (.tmp (.tmp (.tmp (.tmp .nil))))) rfl ?_
       exact ⟨_, by first | rfl | (simp <;> rfl) | (simp [*] <;> rfl), by (with_reducible repeat (first | apply Ra_ | apply Rn_ | apply Rd_)); exact Kd.R_mono (Kd.R_far (p := ⟨gb219, 3, none⟩) (Kd.R_far (p := ⟨gb219, 2, none⟩) (Kd.R_far (p := ⟨gb219, 1, none⟩) (Kd.R_far (p := ⟨gb219, 0, none⟩) (Kd.R_types HO206.out BK219.out (by decide)) (fun _ hk => hk.2) (.int .i64 t207)) (fun _ hk => hk.2) (.slice (some ad220) t208.length co41)) (fun _ hk => hk.2) (.slice Ao42 t211.length co42)) (fun _ hk => hk.2) (.slice Ao43 t214.length co43)) (fun _ hk => trivial), by repeat (first | (with_reducible first | exact HB.out | apply ba_ | apply bn_ | apply bd_ | refine bs_ ?_ GE203.out | refine bs_ ?_ GE219.out) | exact HB.out)⟩
      rw [if_neg c30] at H
      exact absurd H (by simp)
     ·replace c29 := Bool.eq_false_iff.mpr c29
      subst c29
      have H1 : (spec_l3Run.l0 k1 l0 l1 (wrap64 (x2_1 - 1)) y204 t207 t208 t211 t214) = some (r1, r2, r3, r4) := by rw [if_neg (show ¬ (false = true) by decide)] at H; exact H
      clear H
      have H := H1
      clear H1
      have H' := Aside0.mk H
      clear H
      have hcz44_0 : wr.cell? ⟨gb203, 0, none⟩ = some (.int .i64 x204000_1) := (blk_cell BK203.out 0).trans rfl
      have hcz44_1 : wr.cell? ⟨gb203, 1, none⟩ = some (u204001) := (blk_cell BK203.out 1).trans rfl
      have hcz44_2 : wr.cell? ⟨gb203, 2, none⟩ = some (u204002) := (blk_cell BK203.out 2).trans rfl
      have hcz44_3 : wr.cell? ⟨gb203, 3, none⟩ = some (u204003) := (blk_cell BK203.out 3).trans rfl
      have hfz44_0 := blk_frozen BK203.out 0
      have hfz44_1 := blk_frozen BK203.out 1
      have hfz44_2 := blk_frozen BK203.out 2
      have hfz44_3 := blk_frozen BK203.out 3
      go_wp2_with (first | ((with_reducible refine gate_builtin (b := .append) (xs := #[.tmp 20, .tmp 23]) rfl ?_); at_builtin; refine Kd.R_append (Kd.int .i64) (w0 := w) w.heap.size rfl (.tmp 20) (.tmp 23) 37 3 (.int .i64 0) 8 rfl Try.underlying37 info3 rfl (by decide) (by omega) u11 x11_1 x204000_1 [.int .i64 x204000_1] (fun k_ => some k_ ≠ (u204001 : Value).ownBlock ∧ some k_ ≠ (u204002 : Value).ownBlock) (fun _ => False) rfl rfl ?aP (fun _ hk => hk.elim) ?aF ?aO ?aB ?aS ?aL ?_; (case aP => exact rfl); (case aB => exact (by repeat (first | (with_reducible first | exact HB.out | apply ba_ | apply bn_ | apply bd_ | refine bs_ ?_ GE203.out) | exact HB.out))); (case aF => exact (fun k_ hk => ⟨Kd.fresh' (Kd.R_lt (zR_ HO_204001.out)) k_ hk, Kd.fresh' (Kd.R_lt (zR_ HO_204002.out)) k_ hk⟩)); (case aO => exact (zR_ HO_11.out)); (case aS => exact (below_size (by repeat (first | (with_reducible first | exact HB.out | apply ba_ | apply bn_ | apply bd_ | refine bs_ ?_ GE203.out) | exact HB.out)))); (case aL => have := LMc12.out; omega); intro v205 w45 ho hb hg hat; rw [← Ny204.out] at ho; have n0_ := Aside0.mk (Kd.R_after (ok := (fun k_ => some k_ ≠ (u204002 : Value).ownBlock)) (by (with_reducible repeat (first | apply Ra_ | apply Rn_ | apply Rd_)); exact Kd.R_mono HO_204001.out (fun _ hk => ⟨hk.2, hk.1⟩)) hg hat); have n1_ := Aside0.mk (Kd.R_after (ok := (fun k_ => some k_ ≠ (u204001 : Value).ownBlock)) (by (with_reducible repeat (first | apply Ra_ | apply Rn_ | apply Rd_)); exact Kd.R_mono HO_204002.out (fun _ hk => ⟨hk.2, hk.1⟩)) hg hat); have n2_ := Aside0.mk (Kd.R_over' (zR_ HO_204003.out) (Kd.R_typed (zR_ HO_11.out)) (by decide) hg); have n3_ := Aside0.mk (blk_grown (g := gb203) (o := .cells #[.int .i64 x204000_1, u204001, u204002, u204003] 116 (0, 0)) (zO_ BK203.out) hg (Kd.R_ne HO_11.out BK203.out (by decide))); have n4_ := Aside0.mk (hb); have n5_ := Aside0.mk (ho); clear HO_204001; clear HO_204002; clear HO_204003; clear BK203; clear HB; clear HO_11; have HO_204001 := n0_; have HO_204002 := n1_; have HO_204003 := n2_; have BK203 := n3_; have HB := n4_; have HO206 := n5_; clear n0_ n1_ n2_ n3_ n4_ n5_; clear ho hb hg hat; have hcz46_0 : w45.cell? ⟨gb203, 0, none⟩ = some (.int .i64 x204000_1) := (blk_cell BK203.out 0).trans rfl; have hcz46_1 : w45.cell? ⟨gb203, 1, none⟩ = some (u204001) := (blk_cell BK203.out 1).trans rfl; have hcz46_2 : w45.cell? ⟨gb203, 2, none⟩ = some (u204002) := (blk_cell BK203.out 2).trans rfl; have hcz46_3 : w45.cell? ⟨gb203, 3, none⟩ = some (u204003) := (blk_cell BK203.out 3).trans rfl; have hfz46_0 := blk_frozen BK203.out 0; have hfz46_1 := blk_frozen BK203.out 1; have hfz46_2 := blk_frozen BK203.out 2; have hfz46_3 := blk_frozen BK203.out 3; obtain ⟨Ao47, co47, eo47⟩ := Kd.R_slice HO_204001.out; subst eo47; obtain ⟨Ao48, co48, eo48⟩ := Kd.R_slice HO_204002.out; subst eo48; obtain ⟨Ao49, co49, eo49⟩ := Kd.R_slice HO_204003.out; subst eo49) | (go_at_call 92; (with_reducible refine (spec_l3Do.calls k1 _ _ l0 _ _ l1 x204000_1 (fun k_ => some k_ = (.slice Ao47 x204001_1.length co47 : Value).ownBlock) (.slice Ao47 x204001_1.length co47) x204001_1 (fun k_ => some k_ = (.slice Ao48 x204002_1.length co48 : Value).ownBlock) (.slice Ao48 x204002_1.length co48) x204002_1 (fun k_ => some k_ = (.slice Ao49 x204003_1.length co49 : Value).ownBlock) (.slice Ao49 x204003_1.length co49) x204003_1 t207 t208 t211 t214 t217 false w _ ?side1 ?side2 ?side3 ?side4 ?side5 ?side6 ?side7 ?side8 ?side9 ?side10 A13.out).mono ?_); (case side1 => repeat (first | (with_reducible first | exact HB.out | apply ba_ | apply bn_ | apply bd_ | refine bs_ ?_ GE203.out) | exact HB.out)); (case side2 => exact Kd.C_kept_came k26_heap HR0.out (by repeat (first | (with_reducible first | exact HB.out | apply ba_ | apply bn_ | apply bd_ | refine bs_ ?_ GE203.out) | exact HB.out)) (fun k_ hs_ => Or.elim hs_ (fun e_ => (fun e_ => Kd.R_base HO_204001.out k_ e_.symm) e_) (fun e_ => Or.elim e_ (fun e_ => (fun e_ => Kd.R_base HO_204002.out k_ e_.symm) e_) (fun e_ => (fun e_ => Kd.R_base HO_204003.out k_ e_.symm) e_)))); (case side3 => exact HC0.out); (case side4 => exact Kd.C_kept_came (Kd.heap_int .i64) HR1.out (by repeat (first | (with_reducible first | exact HB.out | apply ba_ | apply bn_ | apply bd_ | refine bs_ ?_ GE203.out) | exact HB.out)) (fun k_ hs_ => Or.elim hs_ (fun e_ => (fun e_ => Kd.R_base HO_204001.out k_ e_.symm) e_) (fun e_ => Or.elim e_ (fun e_ => (fun e_ => Kd.R_base HO_204002.out k_ e_.symm) e_) (fun e_ => (fun e_ => Kd.R_base HO_204003.out k_ e_.symm) e_)))); (case side5 => exact HC1.out); (case side6 => exact Kd.R_tight rfl HO_204001.out); (case side7 => exact fun k_ e_ => (HO_204001.out.1 k_ e_.symm).1); (case side8 => exact Kd.R_tight rfl HO_204002.out); (case side9 => exact fun k_ e_ => (HO_204002.out.1 k_ e_.symm).1); (case side10 => exact Kd.R_tight rfl HO_204003.out); rintro e w50 ⟨v209, v212, v215, rfl, ho0, ho1, ho2, hb, hkp⟩; have n0_ := Aside0.mk (blk_kept (zO_ BK203.out) hkp (fun hs_ => Or.elim hs_ (fun e_ => (fun e_ => (Kd.R_ne HO_204001.out BK203.out (by decide)) e_) e_) (fun e_ => Or.elim e_ (fun e_ => (fun e_ => (Kd.R_ne HO_204002.out BK203.out (by decide)) e_) e_) (fun e_ => (fun e_ => (Kd.R_ne HO_204003.out BK203.out (by decide)) e_) e_)))); have n1_ := Aside0.mk (Kd.R_mono (ok' := fun k_ => some k_ ≠ (v209 : Value).ownBlock ∧ some k_ ≠ (v212 : Value).ownBlock) (Kd.R_keptB ((Kd.R_apart' HO206.out (Kd.R_typed HO_204003.out) (by decide))) hkp (fun k_ hk_ hs_ => Or.elim hs_ (fun e_ => (hk_.1.1) e_) (fun e_ => Or.elim e_ (fun e_ => (hk_.1.2) e_) (fun e_ => (hk_.2) e_)))) (fun k_ hk_ => ⟨fun e_ => Or.elim (ho0.1 k_ e_.symm).1 (fun hs_ => hk_.2.1 hs_) (fun hn_ => Nat.not_le.2 hk_.2.2 hn_), fun e_ => Or.elim (ho1.1 k_ e_.symm).1 (fun hs_ => hk_.2.1 hs_) (fun hn_ => Nat.not_le.2 hk_.2.2 hn_)⟩)); have n2_ := Aside0.mk (Kd.R_mono (ok' := fun k_ => some k_ ≠ (v212 : Value).ownBlock ∧ some k_ ≠ (v205 : Value).ownBlock) ho0 (fun k_ hk_ => ⟨hk_.2, Or.elim hk_.1 (fun hs_ => Or.elim hs_ (fun hs_ => fun e_ => ((((Kd.R_apart' HO206.out (Kd.R_typed HO_204003.out) (by decide))).1 k_ e_.symm).1.1) hs_) (fun hs_ => Or.elim hs_ (fun hs_ => fun e_ => ((((Kd.R_apart' HO206.out (Kd.R_typed HO_204003.out) (by decide))).1 k_ e_.symm).1.2) hs_) (fun hs_ => fun e_ => ((((Kd.R_apart' HO206.out (Kd.R_typed HO_204003.out) (by decide))).1 k_ e_.symm).2) hs_))) (fun hn_ => (Kd.fresh' (Kd.R_lt (zR_ HO206.out)) k_ hn_))⟩)); have n3_ := Aside0.mk (Kd.R_mono (ok' := fun k_ => some k_ ≠ (v209 : Value).ownBlock ∧ some k_ ≠ (v205 : Value).ownBlock) ho1 (fun k_ hk_ => ⟨hk_.2, Or.elim hk_.1 (fun hs_ => Or.elim hs_ (fun hs_ => fun e_ => ((((Kd.R_apart' HO206.out (Kd.R_typed HO_204003.out) (by decide))).1 k_ e_.symm).1.1) hs_) (fun hs_ => Or.elim hs_ (fun hs_ => fun e_ => ((((Kd.R_apart' HO206.out (Kd.R_typed HO_204003.out) (by decide))).1 k_ e_.symm).1.2) hs_) (fun hs_ => fun e_ => ((((Kd.R_apart' HO206.out (Kd.R_typed HO_204003.out) (by decide))).1 k_ e_.symm).2) hs_))) (fun hn_ => (Kd.fresh' (Kd.R_lt (zR_ HO206.out)) k_ hn_))⟩)); have n4_ := Aside0.mk (Kd.R_mono (ok' := fun k_ => True) ho2 (fun k_ hk_ => trivial)); have n5_ := Aside0.mk (hb); clear BK203; clear HO206; clear HB; clear HO_204001; clear HO_204002; clear HO_204003; have BK203 := n0_; have HO206 := n1_; have HO210 := n2_; have HO213 := n3_; have HO216 := n4_; have HB := n5_; clear n0_ n1_ n2_ n3_ n4_ n5_; (try clear hb); (try clear hkp); (try clear ho0); (try clear ho1); (try clear ho2)) | ((with_reducible refine gate_dst (N := 12) rfl ?_); refine box_event ?hg (N := 12) ?hd (cs := #[.int .i64 0, .slice none 0 0, .slice none 0 0, .slice none 0 0]) (t := 116) ?hr ?_; (case hd => rfl); (case hg => rfl); (case hr => first | (go_simp; done) | (go_simp; rfl)); intro gb219 hg w51 hbox hb; have n0_ := Aside0.mk (Kd.R_below (zR_ HO206.out) hb); have n1_ := Aside0.mk (Kd.R_below (zR_ HO210.out) hb); have n2_ := Aside0.mk (Kd.R_below (zR_ HO213.out) hb); have n3_ := Aside0.mk (Kd.R_below (zR_ HO216.out) hb); have n4_ := Aside0.mk (blk_below (g := gb203) (o := .cells #[.int .i64 x204000_1, .slice Ao47 x204001_1.length co47, .slice Ao48 x204002_1.length co48, .slice Ao49 x204003_1.length co49] 116 (0, 0)) (zO_ BK203.out) hb); have n5_ := Aside0.mk (below_step (by repeat (first | (with_reducible first | exact HB.out | apply ba_ | apply bn_ | apply bd_ | refine bs_ ?_ GE203.out) | exact HB.out)) hb); have n6_ := Aside0.mk (hbox); have n7_ := Aside0.mk ((by rw [hg]; exact (below_size (by repeat (first | (with_reducible first | exact HB.out | apply ba_ | apply bn_ | apply bd_ | refine bs_ ?_ GE203.out) | exact HB.out))) : w.heap.size ≤ gb219)); have n8_ := Aside0.mk ((by rw [hg]; exact (below_size (by repeat (first | (with_reducible first | exact HB.out | apply ba_ | apply bn_ | apply bd_ | refine bs_ ?_ GE203.out) | exact HB.out))) : w.heap.size ≤ gb219)); have n9_ := Aside0.mk ((by rw [hg]; exact Nat.ne_of_lt (blk_lt (g := gb203) (o := .cells #[.int .i64 x204000_1, .slice Ao47 x204001_1.length co47, .slice Ao48 x204002_1.length co48, .slice Ao49 x204003_1.length co49] 116 (0, 0)) (zO_ BK203.out)) : gb203 ≠ gb219)); have n10_ := Aside0.mk ((by rw [hg]; exact Nat.ne_of_gt (blk_lt (g := gb203) (o := .cells #[.int .i64 x204000_1, .slice Ao47 x204001_1.length co47, .slice Ao48 x204002_1.length co48, .slice Ao49 x204003_1.length co49] 116 (0, 0)) (zO_ BK203.out)) : gb219 ≠ gb203)); clear HO206; clear HO210; clear HO213; clear HO216; clear BK203; clear HB; have HO206 := n0_; have HO210 := n1_; have HO213 := n2_; have HO216 := n3_; have BK203 := n4_; have HB := n5_; have BK219 := n6_; have GW219 := n7_; have GE219 := n8_; have NB203_219 := n9_; have NB219_203 := n10_; clear n0_ n1_ n2_ n3_ n4_ n5_ n6_ n7_ n8_ n9_ n10_; clear hb hbox hg; have hnb52 := NB219_203.out; have hnc52 := NB203_219.out; have hcz53_0 : w51.cell? ⟨gb219, 0, none⟩ = some (.int .i64 0) := (blk_cell BK219.out 0).trans rfl; have hcz53_1 : w51.cell? ⟨gb219, 1, none⟩ = some (.slice none 0 0) := (blk_cell BK219.out 1).trans rfl; have hcz53_2 : w51.cell? ⟨gb219, 2, none⟩ = some (.slice none 0 0) := (blk_cell BK219.out 2).trans rfl; have hcz53_3 : w51.cell? ⟨gb219, 3, none⟩ = some (.slice none 0 0) := (blk_cell BK219.out 3).trans rfl; have hfz53_0 := blk_frozen BK219.out 0; have hfz53_1 := blk_frozen BK219.out 1; have hfz53_2 := blk_frozen BK219.out 2; have hfz53_3 := blk_frozen BK219.out 3; obtain ⟨Ao54, co54, eo54⟩ := Kd.R_slice HO210.out; subst eo54; obtain ⟨Ao55, co55, eo55⟩ := Kd.R_slice HO213.out; subst eo55; obtain ⟨Ao56, co56, eo56⟩ := Kd.R_slice HO216.out; subst eo56; have hcz57_0 : w51.cell? ⟨gb203, 0, none⟩ = some (.int .i64 x204000_1) := (blk_cell BK203.out 0).trans rfl; have hcz57_1 : w51.cell? ⟨gb203, 1, none⟩ = some (.slice Ao47 x204001_1.length co47) := (blk_cell BK203.out 1).trans rfl; have hcz57_2 : w51.cell? ⟨gb203, 2, none⟩ = some (.slice Ao48 x204002_1.length co48) := (blk_cell BK203.out 2).trans rfl; have hcz57_3 : w51.cell? ⟨gb203, 3, none⟩ = some (.slice Ao49 x204003_1.length co49) := (blk_cell BK203.out 3).trans rfl; have hfz57_0 := blk_frozen BK203.out 0; have hfz57_1 := blk_frozen BK203.out 1; have hfz57_2 := blk_frozen BK203.out 2; have hfz57_3 := blk_frozen BK203.out 3))
      repeat (go_quiet (fail); try go_wp2)
      go_roundg k1
      case measure => have := HK1.out; omega
      case rel => exact ⟨(wrap64 (x2_1 - 1)), (y204), (t207), (t208), (t211), (t214), (.slice Ao54 t208.length co54), (.slice Ao55 t211.length co55), (.slice Ao56 t214.length co56), (by first | rfl | (simp; done) | (simp [*]; done)), H', ⟨by have := HK1.out; omega⟩, ⟨by (with_reducible repeat (first | apply Ra_ | apply Rn_ | apply Rd_)); exact Kd.R_mono (Kd.R_far (p := ⟨gb203, 3, none⟩) (Kd.R_far (p := ⟨gb203, 2, none⟩) (Kd.R_far (p := ⟨gb203, 1, none⟩) (Kd.R_far (p := ⟨gb203, 0, none⟩) (Kd.R_far (p := ⟨gb219, 3, none⟩) (Kd.R_far (p := ⟨gb219, 2, none⟩) (Kd.R_far (p := ⟨gb219, 1, none⟩) (Kd.R_far (p := ⟨gb219, 0, none⟩) (Kd.R_types (Kd.R_types HO206.out BK219.out (by decide)) BK203.out (by decide)) (fun _ hk => hk.1.2) (.int .i64 t207)) (fun _ hk => hk.1.2) (.slice Ao54 t208.length co54)) (fun _ hk => hk.1.2) (.slice Ao55 t211.length co55)) (fun _ hk => hk.1.2) (.slice Ao56 t214.length co56)) (fun _ hk => hk.2) (.int .i64 t207)) (fun _ hk => hk.2) (.slice Ao54 t208.length co54)) (fun _ hk => hk.2) (.slice Ao55 t211.length co55)) (fun _ hk => hk.2) (.slice Ao56 t214.length co56)) (fun _ hk => ⟨hk.1.1.1, hk.1.1.2⟩)⟩, ⟨by (with_reducible repeat (first | apply Ra_ | apply Rn_ | apply Rd_)); exact Kd.R_mono (Kd.R_far (p := ⟨gb203, 3, none⟩) (Kd.R_far (p := ⟨gb203, 2, none⟩) (Kd.R_far (p := ⟨gb203, 1, none⟩) (Kd.R_far (p := ⟨gb203, 0, none⟩) (Kd.R_far (p := ⟨gb219, 3, none⟩) (Kd.R_far (p := ⟨gb219, 2, none⟩) (Kd.R_far (p := ⟨gb219, 1, none⟩) (Kd.R_far (p := ⟨gb219, 0, none⟩) (Kd.R_types (Kd.R_types HO210.out BK219.out (by decide)) BK203.out (by decide)) (fun _ hk => hk.1.2) (.int .i64 t207)) (fun _ hk => hk.1.2) (.slice Ao54 t208.length co54)) (fun _ hk => hk.1.2) (.slice Ao55 t211.length co55)) (fun _ hk => hk.1.2) (.slice Ao56 t214.length co56)) (fun _ hk => hk.2) (.int .i64 t207)) (fun _ hk => hk.2) (.slice Ao54 t208.length co54)) (fun _ hk => hk.2) (.slice Ao55 t211.length co55)) (fun _ hk => hk.2) (.slice Ao56 t214.length co56)) (fun _ hk => ⟨hk.1.1.2, hk.1.1.1⟩)⟩, ⟨by (with_reducible repeat (first | apply Ra_ | apply Rn_ | apply Rd_)); exact Kd.R_mono (Kd.R_far (p := ⟨gb203, 3, none⟩) (Kd.R_far (p := ⟨gb203, 2, none⟩) (Kd.R_far (p := ⟨gb203, 1, none⟩) (Kd.R_far (p := ⟨gb203, 0, none⟩) (Kd.R_far (p := ⟨gb219, 3, none⟩) (Kd.R_far (p := ⟨gb219, 2, none⟩) (Kd.R_far (p := ⟨gb219, 1, none⟩) (Kd.R_far (p := ⟨gb219, 0, none⟩) (Kd.R_types (Kd.R_types HO213.out BK219.out (by decide)) BK203.out (by decide)) (fun _ hk => hk.1.2) (.int .i64 t207)) (fun _ hk => hk.1.2) (.slice Ao54 t208.length co54)) (fun _ hk => hk.1.2) (.slice Ao55 t211.length co55)) (fun _ hk => hk.1.2) (.slice Ao56 t214.length co56)) (fun _ hk => hk.2) (.int .i64 t207)) (fun _ hk => hk.2) (.slice Ao54 t208.length co54)) (fun _ hk => hk.2) (.slice Ao55 t211.length co55)) (fun _ hk => hk.2) (.slice Ao56 t214.length co56)) (fun _ hk => ⟨hk.1.1.2, hk.1.1.1⟩)⟩, ⟨by (with_reducible repeat (first | apply Ra_ | apply Rn_ | apply Rd_)); exact Kd.R_mono (Kd.R_far (p := ⟨gb203, 3, none⟩) (Kd.R_far (p := ⟨gb203, 2, none⟩) (Kd.R_far (p := ⟨gb203, 1, none⟩) (Kd.R_far (p := ⟨gb203, 0, none⟩) (Kd.R_far (p := ⟨gb219, 3, none⟩) (Kd.R_far (p := ⟨gb219, 2, none⟩) (Kd.R_far (p := ⟨gb219, 1, none⟩) (Kd.R_far (p := ⟨gb219, 0, none⟩) (Kd.R_types (Kd.R_types HO216.out BK219.out (by decide)) BK203.out (by decide)) (fun _ hk => hk.1.2) (.int .i64 t207)) (fun _ hk => hk.1.2) (.slice Ao54 t208.length co54)) (fun _ hk => hk.1.2) (.slice Ao55 t211.length co55)) (fun _ hk => hk.1.2) (.slice Ao56 t214.length co56)) (fun _ hk => hk.2) (.int .i64 t207)) (fun _ hk => hk.2) (.slice Ao54 t208.length co54)) (fun _ hk => hk.2) (.slice Ao55 t211.length co55)) (fun _ hk => hk.2) (.slice Ao56 t214.length co56)) (fun _ hk => trivial)⟩, ⟨by (with_reducible repeat (first | refine on_ ?_ _ | refine od_ ?_ | refine oa_ ?_ _)); refine blk_put (cs := #[.int .i64 t207, .slice Ao54 t208.length co54, .slice Ao55 t211.length co55, .slice Ao49 x204003_1.length co49]) ?_ 3 _ rfl; refine blk_put (cs := #[.int .i64 t207, .slice Ao54 t208.length co54, .slice Ao48 x204002_1.length co48, .slice Ao49 x204003_1.length co49]) ?_ 2 _ rfl; refine blk_put (cs := #[.int .i64 t207, .slice Ao47 x204001_1.length co47, .slice Ao48 x204002_1.length co48, .slice Ao49 x204003_1.length co49]) ?_ 1 _ rfl; refine blk_put (cs := #[.int .i64 x204000_1, .slice Ao47 x204001_1.length co47, .slice Ao48 x204002_1.length co48, .slice Ao49 x204003_1.length co49]) ?_ 0 _ rfl; refine blk_far ?_ NB203_219.out _; refine blk_far ?_ NB203_219.out _; refine blk_far ?_ NB203_219.out _; refine blk_far ?_ NB203_219.out _; (with_reducible repeat (first | refine on_ ?_ _ | refine od_ ?_ | refine oa_ ?_ _)); exact BK203.out⟩, ⟨by repeat (first | (with_reducible first | exact HB.out | apply ba_ | apply bn_ | apply bd_ | refine bs_ ?_ GE203.out | refine bs_ ?_ GE219.out) | exact HB.out)⟩⟩
    rw [if_neg c12] at H
    exact absurd H (by simp)
   rw [if_neg c11] at H
   have c11b0 : decide (0 < x2_1) = false := decide_eq_false c11
   clear c11
   simp only [Option.some.injEq, Prod.mk.injEq] at H
   obtain ⟨rfl, rfl, rfl, rfl⟩ := H
   have hcz58_0 : wr.cell? ⟨gb203, 0, none⟩ = some (.int .i64 x204000_1) := (blk_cell BK203.out 0).trans rfl
   have hcz58_1 : wr.cell? ⟨gb203, 1, none⟩ = some (u204001) := (blk_cell BK203.out 1).trans rfl
   have hcz58_2 : wr.cell? ⟨gb203, 2, none⟩ = some (u204002) := (blk_cell BK203.out 2).trans rfl
   have hcz58_3 : wr.cell? ⟨gb203, 3, none⟩ = some (u204003) := (blk_cell BK203.out 3).trans rfl
   have hfz58_0 := blk_frozen BK203.out 0
   have hfz58_1 := blk_frozen BK203.out 1
   have hfz58_2 := blk_frozen BK203.out 2
   have hfz58_3 := blk_frozen BK203.out 3
   go_wp2
   repeat (go_quiet (fail); try go_wp2)
   refine bodyPost_ret (results_list (rs := [.tmp 6, .tmp 7, .tmp 8, .tmp 9]) rfl (by simp) (.tmp (.tmp (.tmp (.tmp .nil))))) rfl ?_
   exact ⟨_, by first | rfl | (simp <;> rfl) | (simp [*] <;> rfl), by (with_reducible repeat (first | apply Ra_ | apply Rn_ | apply Rd_)); exact Kd.R_mono HO_11.out (fun _ hk => trivial), by repeat (first | (with_reducible first | exact HB.out | apply ba_ | apply bn_ | apply bd_ | refine bs_ ?_ GE203.out) | exact HB.out)⟩
def spec_TraceOf.j0 : Nat → List (S26) → List Int → Bool → Option (List Int × Int × Bool)
 | 0, _, _, _ => none
 | k + 1, x0, x1, x18 => if x18 = true then (some (([] : List Int), 0, false)) else ((spec_l3Run.f k x0 x1 100).bind fun bt223 => (some (bt223.2.2.2, bt223.2.1, true)))
def spec_TraceOf.f (k : Nat) (l0 : List (S26)) (l1 : List Int) : Option (List Int × Int × Bool) := (spec_GoodProgram.f k l0).bind fun t221 => (if t221 = true then ((spec_l3Ctx.f k l1).bind fun t222 => (spec_TraceOf.j0 k l0 l1 (!t222))) else (spec_TraceOf.j0 k l0 l1 true))
theorem spec_TraceOf.mono_l : ∀ k, (∀ y0 y1 y2, LeO (spec_TraceOf.j0 k y0 y1 y2) (spec_TraceOf.j0 (k + 1) y0 y1 y2))
 | 0 => fun _ _ _ r h => by simp [spec_TraceOf.j0] at h
 | k + 1 => by
  have ih0 := spec_TraceOf.mono_l k
  ·intro y0 y1 y2
   unfold spec_TraceOf.j0
   repeat' first
   | (with_reducible exact ih0 _ _ _)
   | (with_reducible exact spec_GoodProgram.mono _ _)
   | (with_reducible exact spec_l3Ctx.mono _ _)
   | (with_reducible exact spec_l3Run.mono _ _ _ _)
   | (with_reducible exact LeO.refl _)
   | (with_reducible exact LeO.none _)
   | (with_reducible refine LeO.ite ?_ ?_)
   | (with_reducible refine LeO.bind ?_ (fun _ => ?_))
   | exact ih0 _ _ _
   | exact spec_GoodProgram.mono _ _
   | exact spec_l3Ctx.mono _ _
   | exact spec_l3Run.mono _ _ _ _
   | exact LeO.none _
   | refine LeO.ite ?_ ?_
   | refine LeO.bind ?_ (fun _ => ?_)
theorem spec_TraceOf.mono : ∀ a0 a1 k, LeO (spec_TraceOf.f k a0 a1) (spec_TraceOf.f (k + 1) a0 a1) := by
 intro a0 a1 k
 have ih0 := spec_TraceOf.mono_l k
 unfold spec_TraceOf.f
 repeat' first
   | (with_reducible exact ih0 _ _ _)
   | (with_reducible exact spec_GoodProgram.mono _ _)
   | (with_reducible exact spec_l3Ctx.mono _ _)
   | (with_reducible exact spec_l3Run.mono _ _ _ _)
   | (with_reducible exact LeO.refl _)
   | (with_reducible exact LeO.none _)
   | (with_reducible refine LeO.ite ?_ ?_)
   | (with_reducible refine LeO.bind ?_ (fun _ => ?_))
   | exact ih0 _ _ _
   | exact spec_GoodProgram.mono _ _
   | exact spec_l3Ctx.mono _ _
   | exact spec_l3Run.mono _ _ _ _
   | exact LeO.none _
   | refine LeO.ite ?_ ?_
   | refine LeO.bind ?_ (fun _ => ?_)
set_option maxHeartbeats 8000000 in
set_option maxRecDepth 100000 in
theorem spec_TraceOf.calls (k : Nat) (A0 : Option Addr) (c0 : Nat) (l0 : List (S26)) (A1 : Option Addr) (c1 : Nat) (l1 : List Int) (r1 : List Int) (r2 : Int) (r3 : Bool) (w : World) (hr0 : Kd.C k26 w A0 l0.length l0) (hc0 : l0.length ≤ c0) (hr1 : Kd.C (Kd.int .i64) w A1 l1.length l1) (hc1 : l1.length ≤ c1) (h : spec_TraceOf.f k l0 l1 = some (r1, r2, r3)) :
  Calls Try.prog 52 #[.slice A0 l0.length c0, .slice A1 l1.length c1] w fun e w' => ∃ v0_ : Value, e = .returned (.tuple #[v0_, .int .i64 r2, .bool r3]) ∧ Kd.R (Kd.int .i64) 3 w' w.heap.size (fun _ => True) v0_ r1 ∧ Below w.heap.size w w' := by
 have HR0 := Aside0.mk hr0
 have HC0 := Aside0.mk hc0
 clear hr0 hc0
 have HR1 := Aside0.mk hr1
 have HC1 := Aside0.mk hc1
 clear hr1 hc1
 have HB := Aside0.mk (Below.refl w.heap.size w)
 have H : ((spec_GoodProgram.f k l0).bind fun t221 => (if t221 = true then ((spec_l3Ctx.f k l1).bind fun t222 => (spec_TraceOf.j0 k l0 l1 (!t222))) else (spec_TraceOf.j0 k l0 l1 true))) = some (r1, r2, r3) := h
 clear h
 have HC3 := Aside0.mk H
 clear H
 go_enter Try.func52, Try.ntmps52
 go_upto_region 1 with (fail)
 go_cut [18] (fun v18 wc => ∃ (kq : Nat) (x18_2 : Bool), v18 = .bool x18_2 ∧ Aside0 (spec_TraceOf.j0 kq l0 l1 x18_2 = some (r1, r2, r3)) ∧ Aside0 (kq ≤ k) ∧ Aside0 (Below w.heap.size w wc))
 case first =>
  have H := HC3.out
  clear HC3
  replace H := Option.bind_eq_some_iff.mp H
  obtain ⟨t221, A40, H⟩ := H
  (try dsimp only at H)
  have A4 := Aside0.mk A40
  clear A40
  by_cases c5 : t221 = true
  ·subst c5
   have H1 : ((spec_l3Ctx.f k l1).bind fun t222 => (spec_TraceOf.j0 k l0 l1 (!t222))) = some (r1, r2, r3) := by rw [if_pos rfl] at H; exact H
   clear H
   have H := H1
   clear H1
   replace H := Option.bind_eq_some_iff.mp H
   obtain ⟨t222, A60, H⟩ := H
   (try dsimp only at H)
   have A6 := Aside0.mk A60
   clear A60
   have H' := Aside0.mk H
   clear H
   go_wp2_with (first | ((with_reducible refine gate_callee (f := 18) rfl ?_); refine goesL_ (some 12) rfl rfl Try.func18 (by kernel_rfl) rfl #[.slice A0 l0.length c0] rfl (by simp only [zA_, zB_, zD_] <;> rfl) ?_; (with_reducible refine (spec_GoodProgram.calls k _ _ l0 true _ ?side1 ?side2 A4.out).mono ?_); (case side1 => exact zC_ (Kd.C_below HR0.out HB.out)); (case side2 => exact HC0.out); rintro e w7 ⟨rfl, hb⟩; refine ⟨_, rfl, ?_⟩; have n0_ := Aside0.mk (below_step (zb_ HB.out) hb); clear HB; have HB := n0_; clear n0_; (try clear hb); (try clear hb2); (try clear hk); (try clear hi)) | (go_at_call 74; (with_reducible refine (spec_l3Ctx.calls k _ _ l1 t222 _ ?side1 ?side2 A6.out).mono ?_); (case side1 => exact zC_ (Kd.C_below HR1.out HB.out)); (case side2 => exact HC1.out); rintro e w' ⟨rfl, ⟨nd, rfl⟩⟩))
   go_meet
   case rel => exact ⟨_, (!t222), (by first | rfl | (simp; done) | (simp [*]; done)), H', ⟨by first | omega | exact Nat.le_refl _⟩, ⟨zb_ HB.out⟩⟩
  ·replace c5 := Bool.eq_false_iff.mpr c5
   subst c5
   have H1 : (spec_TraceOf.j0 k l0 l1 true) = some (r1, r2, r3) := by rw [if_neg (show ¬ (false = true) by decide)] at H; exact H
   clear H
   have H := H1
   clear H1
   have H' := Aside0.mk H
   clear H
   go_wp2_with (first | ((with_reducible refine gate_callee (f := 18) rfl ?_); refine goesL_ (some 12) rfl rfl Try.func18 (by kernel_rfl) rfl #[.slice A0 l0.length c0] rfl (by simp only [zA_, zB_, zD_] <;> rfl) ?_; (with_reducible refine (spec_GoodProgram.calls k _ _ l0 false _ ?side1 ?side2 A4.out).mono ?_); (case side1 => exact zC_ (Kd.C_below HR0.out HB.out)); (case side2 => exact HC0.out); rintro e w8 ⟨rfl, hb⟩; refine ⟨_, rfl, ?_⟩; have n0_ := Aside0.mk (below_step (zb_ HB.out) hb); clear HB; have HB := n0_; clear n0_; (try clear hb); (try clear hb2); (try clear hk); (try clear hi)))
   go_meet
   case rel => exact ⟨_, (true), (by first | rfl | (simp; done) | (simp [*]; done)), H', ⟨by first | omega | exact Nat.le_refl _⟩, ⟨zb_ HB.out⟩⟩
 case rest =>
  clear HC3
  obtain ⟨kq, x18_2, rfl, HA, HJ2, HB⟩ := hcut
  cases kq with
  | zero => exact absurd HA.out (by simp [spec_TraceOf.j0])
  | succ kj2 =>
   have H := HA.out
   clear HA
   simp only [spec_TraceOf.j0] at H
   by_cases c9 : x18_2 = true
   ·subst c9
    have H1 : (some (([] : List Int), 0, false)) = some (r1, r2, r3) := by rw [if_pos rfl] at H; exact H
    clear H
    have H := H1
    clear H1
    simp only [Option.some.injEq, Prod.mk.injEq] at H
    obtain ⟨rfl, rfl, rfl⟩ := H
    go_wp2
    go_ret3
    exact ⟨_, by first | rfl | (simp <;> rfl) | (simp [*] <;> rfl), by first | exact Kd.R_nil _ _ _ _ _ | exact Kd.N_nil _ _ _ _ _ | exact Kd.V_nil _ _ _ _ _ | exact Kd.Q_nil _ _ _ _ _ | exact Kd.S_nil _ _ _ _ _, zb_ HB.out⟩
   ·replace c9 := Bool.eq_false_iff.mpr c9
    subst c9
    have H1 : ((spec_l3Run.f kj2 l0 l1 100).bind fun bt223 => (some (bt223.2.2.2, bt223.2.1, true))) = some (r1, r2, r3) := by rw [if_neg (show ¬ (false = true) by decide)] at H; exact H
    clear H
    have H := H1
    clear H1
    replace H := Option.bind_eq_some_iff.mp H
    obtain ⟨⟨t223, t224, t225, t226⟩, A100, H⟩ := H
    (try dsimp only at H)
    have A10 := Aside0.mk A100
    clear A100
    simp only [Option.some.injEq, Prod.mk.injEq] at H
    obtain ⟨rfl, rfl, rfl⟩ := H
    go_wp2_with (first | ((with_reducible refine gate_callee (f := 75) rfl ?_); refine goesL_ (some 22) rfl rfl Try.func75 (by kernel_rfl) rfl #[.slice A0 l0.length c0, .slice A1 l1.length c1, .int .i64 100] rfl (by simp only [zA_, zB_, zD_] <;> rfl) ?_; (with_reducible refine (spec_l3Run.calls kj2 _ _ l0 _ _ l1 100 t223 t224 t225 t226 _ ?side1 ?side2 ?side3 ?side4 A10.out).mono ?_); (case side1 => exact zC_ (Kd.C_below HR0.out HB.out)); (case side2 => exact HC0.out); (case side3 => exact zC_ (Kd.C_below HR1.out HB.out)); (case side4 => exact HC1.out); rintro e w11 ⟨v227, rfl, ho0, hb⟩; refine ⟨_, rfl, ?_⟩; have n0_ := Aside0.mk (Kd.R_lower ho0 (below_size (zb_ HB.out))); have n1_ := Aside0.mk (below_step (zb_ HB.out) hb); clear HB; have HO228 := n0_; have HB := n1_; clear n0_ n1_; (try clear hb); (try clear hb2); (try clear hk); (try clear hi); (try clear ho0)))
    go_ret3
    exact ⟨_, by first | rfl | (simp <;> rfl) | (simp [*] <;> rfl), zR_ HO228.out, zb_ HB.out⟩
def impl_in.f (a0 : Int) (a1 : Int) (a2 : Int) : Option (Bool) := if a0 ≥ a1 then (some (decide (a0 ≤ a2))) else (some false)
set_option maxHeartbeats 8000000 in
set_option maxRecDepth 100000 in
theorem impl_in.calls (a0 : Int) (a1 : Int) (a2 : Int) (r : Bool) (w : World) (h : impl_in.f a0 a1 a2 = some r) :
  Calls Try.prog 59 #[.int .i64 a0, .int .i64 a1, .int .i64 a2] w fun e w' => e = .returned (.bool r) ∧ Drawn0 w w' := by
 have H : (if a0 ≥ a1 then (some (decide (a0 ≤ a2))) else (some false)) = some r := h
 clear h
 by_cases c4 : a0 ≥ a1
 ·rw [if_pos c4] at H
  have c4b0 : decide (a1 ≤ a0) = true := decide_eq_true c4
  clear c4
  obtain rfl := Option.some.inj H
  go_enter Try.func59, Try.ntmps59
  go_wp2
  go_ret
  exact ⟨by first | rfl | (simp; done) | (simp [*]; done), by repeat (first | exact Drawn0.refl _ | apply Drawn0.step)⟩
 rw [if_neg c4] at H
 have c4b0 : decide (a1 ≤ a0) = false := decide_eq_false c4
 clear c4
 obtain rfl := Option.some.inj H
 go_enter Try.func59, Try.ntmps59
 go_wp2
 go_ret
 exact ⟨by first | rfl | (simp; done) | (simp [*]; done), by repeat (first | exact Drawn0.refl _ | apply Drawn0.step)⟩
mutual
def impl_fields.j0 : Nat → Int → Bool → Option (ByteArray)
 | 0, _, _ => none
 | k + 1, x3, x8 => if x8 = true then (some (⟨#[100, 105]⟩ : ByteArray)) else (if x3 = 5 then (some (⟨#[100, 115, 105]⟩ : ByteArray)) else (if x3 = 8 then (some (⟨#[116]⟩ : ByteArray)) else (if x3 = 9 then (impl_fields.j1 k (x3 == 9)) else (impl_fields.j1 k (x3 == 10)))))
def impl_fields.j1 : Nat → Bool → Option (ByteArray)
 | 0, _ => none
 | k + 1, x17 => if x17 = true then (some (⟨#[100, 115, 116]⟩ : ByteArray)) else (some (⟨#[]⟩ : ByteArray))
end
def impl_fields.f (k : Nat) (a0 : Int) : Option (ByteArray) := if a0 = 1 then (some (⟨#[111, 100, 115]⟩ : ByteArray)) else (if a0 = 2 then (some (⟨#[111, 100, 105]⟩ : ByteArray)) else (if a0 = 3 then (impl_fields.j0 k a0 (a0 == 3)) else (if a0 = 4 then (impl_fields.j0 k a0 (a0 == 4)) else (if a0 = 6 then (impl_fields.j0 k a0 (a0 == 6)) else (impl_fields.j0 k a0 (a0 == 7))))))
theorem impl_fields.mono_l : ∀ k, (∀ y0 y1, LeO (impl_fields.j0 k y0 y1) (impl_fields.j0 (k + 1) y0 y1)) ∧ (∀ y0, LeO (impl_fields.j1 k y0) (impl_fields.j1 (k + 1) y0))
 | 0 => ⟨fun _ _ r h => by simp [impl_fields.j0] at h, fun _ r h => by simp [impl_fields.j1] at h⟩
 | k + 1 => by
  obtain ⟨ih0, ih1⟩ := impl_fields.mono_l k
  refine ⟨?_, ?_⟩
  ·intro y0 y1
   unfold impl_fields.j0
   repeat' first
   | (with_reducible exact ih0 _ _)
   | (with_reducible exact ih1 _)
   | (with_reducible exact LeO.refl _)
   | (with_reducible exact LeO.none _)
   | (with_reducible refine LeO.ite ?_ ?_)
   | (with_reducible refine LeO.bind ?_ (fun _ => ?_))
   | exact ih0 _ _
   | exact ih1 _
   | exact LeO.none _
   | refine LeO.ite ?_ ?_
   | refine LeO.bind ?_ (fun _ => ?_)
  ·intro y0
   unfold impl_fields.j1
   repeat' first
   | (with_reducible exact ih0 _ _)
   | (with_reducible exact ih1 _)
   | (with_reducible exact LeO.refl _)
   | (with_reducible exact LeO.none _)
   | (with_reducible refine LeO.ite ?_ ?_)
   | (with_reducible refine LeO.bind ?_ (fun _ => ?_))
   | exact ih0 _ _
   | exact ih1 _
   | exact LeO.none _
   | refine LeO.ite ?_ ?_
   | refine LeO.bind ?_ (fun _ => ?_)
theorem impl_fields.mono : ∀ a0 k, LeO (impl_fields.f k a0) (impl_fields.f (k + 1) a0) := by
 intro a0 k
 obtain ⟨ih0, ih1⟩ := impl_fields.mono_l k
 unfold impl_fields.f
 repeat' first
   | (with_reducible exact ih0 _ _)
   | (with_reducible exact ih1 _)
   | (with_reducible exact LeO.refl _)
   | (with_reducible exact LeO.none _)
   | (with_reducible refine LeO.ite ?_ ?_)
   | (with_reducible refine LeO.bind ?_ (fun _ => ?_))
   | exact ih0 _ _
   | exact ih1 _
   | exact LeO.none _
   | refine LeO.ite ?_ ?_
   | refine LeO.bind ?_ (fun _ => ?_)
set_option maxHeartbeats 8000000 in
set_option maxRecDepth 100000 in
theorem impl_fields.calls (k : Nat) (a0 : Int) (r : ByteArray) (w : World) (h : impl_fields.f k a0 = some r) :
  Calls Try.prog 80 #[.int .i64 a0] w fun e w' => e = .returned (.string r) ∧ Drawn0 w w' := by
 have H : (if a0 = 1 then (some (⟨#[111, 100, 115]⟩ : ByteArray)) else (if a0 = 2 then (some (⟨#[111, 100, 105]⟩ : ByteArray)) else (if a0 = 3 then (impl_fields.j0 k a0 (a0 == 3)) else (if a0 = 4 then (impl_fields.j0 k a0 (a0 == 4)) else (if a0 = 6 then (impl_fields.j0 k a0 (a0 == 6)) else (impl_fields.j0 k a0 (a0 == 7))))))) = some r := h
 clear h
 by_cases c2 : a0 = 1
 ·rw [if_pos c2] at H
  have c2b0 : (a0 == 1) = true := beq_iff_eq.mpr c2
  have c2b1 : (a0 != 1) = false := bne_eq_false_iff_eq.mpr c2
  clear c2
  obtain rfl := Option.some.inj H
  go_enter Try.func80, Try.ntmps80
  go_wp2
  go_ret
  exact ⟨by first | rfl | (simp; done) | (simp [*]; done), by repeat (first | exact Drawn0.refl _ | apply Drawn0.step)⟩
 rw [if_neg c2] at H
 have c2b0 : (a0 == 1) = false := beq_eq_false_iff_ne.mpr c2
 have c2b1 : (a0 != 1) = true := bne_iff_ne.mpr c2
 by_cases c3 : a0 = 2
 ·rw [if_pos c3] at H
  have c3b0 : (a0 == 2) = true := beq_iff_eq.mpr c3
  have c3b1 : (a0 != 2) = false := bne_eq_false_iff_eq.mpr c3
  clear c3
  obtain rfl := Option.some.inj H
  go_enter Try.func80, Try.ntmps80
  go_wp2
  go_ret
  exact ⟨by first | rfl | (simp; done) | (simp [*]; done), by repeat (first | exact Drawn0.refl _ | apply Drawn0.step)⟩
 rw [if_neg c3] at H
 have c3b0 : (a0 == 2) = false := beq_eq_false_iff_ne.mpr c3
 have c3b1 : (a0 != 2) = true := bne_iff_ne.mpr c3
 have HC4 := Aside0.mk H
 clear H
 go_enter Try.func80, Try.ntmps80
 go_upto_if 8 with (fail)
 go_cut [8] (fun v8 wc => ∃ (kq : Nat) (x8_3 : Bool), v8 = .bool x8_3 ∧ Aside0 (impl_fields.j0 kq a0 x8_3 = some r) ∧ Aside0 (kq ≤ k) ∧ Drawn0 w wc)
 case first =>
  have H := HC4.out
  clear HC4
  by_cases c5 : a0 = 3
  ·rw [if_pos c5] at H
   have c5b0 : (a0 == 3) = true := beq_iff_eq.mpr c5
   have c5b1 : (a0 != 3) = false := bne_eq_false_iff_eq.mpr c5
   clear c5
   (first | rw [c5b0] | (simp only [i64_w, i32_w]; rw [c5b0]) | skip)
   have H' := Aside0.mk H
   clear H
   go_wp2
   go_meet
   case rel => exact ⟨_, ((a0 == 3)), (by first | rfl | (simp; done) | (simp [*]; done)), H', ⟨by first | omega | exact Nat.le_refl _⟩, by repeat (first | exact Drawn0.refl _ | apply Drawn0.step)⟩
  rw [if_neg c5] at H
  have c5b0 : (a0 == 3) = false := beq_eq_false_iff_ne.mpr c5
  have c5b1 : (a0 != 3) = true := bne_iff_ne.mpr c5
  (first | rw [c5b0] | (simp only [i64_w, i32_w]; rw [c5b0]) | skip)
  by_cases c6 : a0 = 4
  ·rw [if_pos c6] at H
   have c6b0 : (a0 == 4) = true := beq_iff_eq.mpr c6
   have c6b1 : (a0 != 4) = false := bne_eq_false_iff_eq.mpr c6
   clear c6
   have H' := Aside0.mk H
   clear H
   go_wp2
   go_meet
   case rel => exact ⟨_, ((a0 == 4)), (by first | rfl | (simp; done) | (simp [*]; done)), H', ⟨by first | omega | exact Nat.le_refl _⟩, by repeat (first | exact Drawn0.refl _ | apply Drawn0.step)⟩
  rw [if_neg c6] at H
  have c6b0 : (a0 == 4) = false := beq_eq_false_iff_ne.mpr c6
  have c6b1 : (a0 != 4) = true := bne_iff_ne.mpr c6
  by_cases c7 : a0 = 6
  ·rw [if_pos c7] at H
   have c7b0 : (a0 == 6) = true := beq_iff_eq.mpr c7
   have c7b1 : (a0 != 6) = false := bne_eq_false_iff_eq.mpr c7
   clear c7
   have H' := Aside0.mk H
   clear H
   go_wp2
   go_meet
   case rel => exact ⟨_, ((a0 == 6)), (by first | rfl | (simp; done) | (simp [*]; done)), H', ⟨by first | omega | exact Nat.le_refl _⟩, by repeat (first | exact Drawn0.refl _ | apply Drawn0.step)⟩
  rw [if_neg c7] at H
  have c7b0 : (a0 == 6) = false := beq_eq_false_iff_ne.mpr c7
  have c7b1 : (a0 != 6) = true := bne_iff_ne.mpr c7
  have H' := Aside0.mk H
  clear H
  go_wp2
  go_meet
  case rel => exact ⟨_, ((a0 == 7)), (by first | rfl | (simp; done) | (simp [*]; done)), H', ⟨by first | omega | exact Nat.le_refl _⟩, by repeat (first | exact Drawn0.refl _ | apply Drawn0.step)⟩
 case rest =>
  clear HC4
  obtain ⟨kq, x8_3, rfl, HA, HJ3, ⟨mc3, rfl⟩⟩ := hcut
  cases kq with
  | zero => exact absurd HA.out (by simp [impl_fields.j0])
  | succ kj3 =>
   have H := HA.out
   clear HA
   simp only [impl_fields.j0] at H
   by_cases c8 : x8_3 = true
   ·subst c8
    have H1 : (some (⟨#[100, 105]⟩ : ByteArray)) = some r := by rw [if_pos rfl] at H; exact H
    clear H
    have H := H1
    clear H1
    obtain rfl := Option.some.inj H
    go_wp2
    go_ret
    exact ⟨by first | rfl | (simp; done) | (simp [*]; done), by repeat (first | exact Drawn0.refl _ | apply Drawn0.step)⟩
   ·replace c8 := Bool.eq_false_iff.mpr c8
    subst c8
    have H1 : (if a0 = 5 then (some (⟨#[100, 115, 105]⟩ : ByteArray)) else (if a0 = 8 then (some (⟨#[116]⟩ : ByteArray)) else (if a0 = 9 then (impl_fields.j1 kj3 (a0 == 9)) else (impl_fields.j1 kj3 (a0 == 10))))) = some r := by rw [if_neg (show ¬ (false = true) by decide)] at H; exact H
    clear H
    have H := H1
    clear H1
    by_cases c9 : a0 = 5
    ·rw [if_pos c9] at H
     have c9b0 : (a0 == 5) = true := beq_iff_eq.mpr c9
     have c9b1 : (a0 != 5) = false := bne_eq_false_iff_eq.mpr c9
     clear c9
     obtain rfl := Option.some.inj H
     go_wp2
     go_ret
     exact ⟨by first | rfl | (simp; done) | (simp [*]; done), by repeat (first | exact Drawn0.refl _ | apply Drawn0.step)⟩
    rw [if_neg c9] at H
    have c9b0 : (a0 == 5) = false := beq_eq_false_iff_ne.mpr c9
    have c9b1 : (a0 != 5) = true := bne_iff_ne.mpr c9
    by_cases c10 : a0 = 8
    ·rw [if_pos c10] at H
     have c10b0 : (a0 == 8) = true := beq_iff_eq.mpr c10
     have c10b1 : (a0 != 8) = false := bne_eq_false_iff_eq.mpr c10
     clear c10
     obtain rfl := Option.some.inj H
     go_wp2
     go_ret
     exact ⟨by first | rfl | (simp; done) | (simp [*]; done), by repeat (first | exact Drawn0.refl _ | apply Drawn0.step)⟩
    rw [if_neg c10] at H
    have c10b0 : (a0 == 8) = false := beq_eq_false_iff_ne.mpr c10
    have c10b1 : (a0 != 8) = true := bne_iff_ne.mpr c10
    have HC11 := Aside0.mk H
    clear H
    go_upto_if 17 with (fail)
    go_cut [17] (fun v17 wc => ∃ (kq : Nat) (x17_10 : Bool), v17 = .bool x17_10 ∧ Aside0 (impl_fields.j1 kq x17_10 = some r) ∧ Aside0 (kq ≤ kj3) ∧ Drawn0 w wc)
    case first =>
     have H := HC11.out
     clear HC11
     by_cases c12 : a0 = 9
     ·rw [if_pos c12] at H
      have c12b0 : (a0 == 9) = true := beq_iff_eq.mpr c12
      have c12b1 : (a0 != 9) = false := bne_eq_false_iff_eq.mpr c12
      clear c12
      (first | rw [c12b0] | (simp only [i64_w, i32_w]; rw [c12b0]) | skip)
      have H' := Aside0.mk H
      clear H
      go_wp2
      go_meet
      case rel => exact ⟨_, ((a0 == 9)), (by first | rfl | (simp; done) | (simp [*]; done)), H', ⟨by have := HJ3.out; first | omega | exact Nat.le_refl _⟩, by repeat (first | exact Drawn0.refl _ | apply Drawn0.step)⟩
     rw [if_neg c12] at H
     have c12b0 : (a0 == 9) = false := beq_eq_false_iff_ne.mpr c12
     have c12b1 : (a0 != 9) = true := bne_iff_ne.mpr c12
     (first | rw [c12b0] | (simp only [i64_w, i32_w]; rw [c12b0]) | skip)
     have H' := Aside0.mk H
     clear H
     go_wp2
     go_meet
     case rel => exact ⟨_, ((a0 == 10)), (by first | rfl | (simp; done) | (simp [*]; done)), H', ⟨by have := HJ3.out; first | omega | exact Nat.le_refl _⟩, by repeat (first | exact Drawn0.refl _ | apply Drawn0.step)⟩
    case rest =>
     clear HC11
     obtain ⟨kq, x17_10, rfl, HA, HJ10, ⟨mc10, rfl⟩⟩ := hcut
     cases kq with
     | zero => exact absurd HA.out (by simp [impl_fields.j1])
     | succ kj10 =>
      have H := HA.out
      clear HA
      simp only [impl_fields.j1] at H
      by_cases c13 : x17_10 = true
      ·subst c13
       have H1 : (some (⟨#[100, 115, 116]⟩ : ByteArray)) = some r := by rw [if_pos rfl] at H; exact H
       clear H
       have H := H1
       clear H1
       obtain rfl := Option.some.inj H
       go_wp2
       go_ret
       exact ⟨by first | rfl | (simp; done) | (simp [*]; done), by repeat (first | exact Drawn0.refl _ | apply Drawn0.step)⟩
      ·replace c13 := Bool.eq_false_iff.mpr c13
       subst c13
       have H1 : (some (⟨#[]⟩ : ByteArray)) = some r := by rw [if_neg (show ¬ (false = true) by decide)] at H; exact H
       clear H
       have H := H1
       clear H1
       obtain rfl := Option.some.inj H
       go_wp2
       go_ret
       exact ⟨by first | rfl | (simp; done) | (simp [*]; done), by repeat (first | exact Drawn0.refl _ | apply Drawn0.step)⟩
def impl_Step_ranges.j0 : Nat → Int → Bool → Int → Int → Int → Int → Int → Int → Option (Int × Int)
 | 0, _, _, _, _, _, _, _, _ => none
 | k + 1, x1, x9, x230000, x230001, x230002, x230003, x230004, x230005 => if x9 = true then (some (0, 5)) else (if x1 = 116 then (some (1, 19)) else (if x230000 = 4 then (some (256, 65535)) else (if x230000 = 5 then (some (0, 7)) else (some (0, 255)))))
def impl_Step_ranges.f (k : Nat) (a0_0 : Int) (a0_1 : Int) (a0_2 : Int) (a0_3 : Int) (a0_4 : Int) (a0_5 : Int) (a1 : Int) : Option (Int × Int) := if a1 = 111 then (some (1, 10)) else (if a1 = 100 then (impl_Step_ranges.j0 k a1 true a0_0 a0_1 a0_2 a0_3 a0_4 a0_5) else (impl_Step_ranges.j0 k a1 (a1 == 115) a0_0 a0_1 a0_2 a0_3 a0_4 a0_5))
theorem impl_Step_ranges.mono_l : ∀ k, (∀ y0 y1 y2 y3 y4 y5 y6 y7, LeO (impl_Step_ranges.j0 k y0 y1 y2 y3 y4 y5 y6 y7) (impl_Step_ranges.j0 (k + 1) y0 y1 y2 y3 y4 y5 y6 y7))
 | 0 => fun _ _ _ _ _ _ _ _ r h => by simp [impl_Step_ranges.j0] at h
 | k + 1 => by
  have ih0 := impl_Step_ranges.mono_l k
  ·intro y0 y1 y2 y3 y4 y5 y6 y7
   unfold impl_Step_ranges.j0
   repeat' first
   | (with_reducible exact ih0 _ _ _ _ _ _ _ _)
   | (with_reducible exact LeO.refl _)
   | (with_reducible exact LeO.none _)
   | (with_reducible refine LeO.ite ?_ ?_)
   | (with_reducible refine LeO.bind ?_ (fun _ => ?_))
   | exact ih0 _ _ _ _ _ _ _ _
   | exact LeO.none _
   | refine LeO.ite ?_ ?_
   | refine LeO.bind ?_ (fun _ => ?_)
theorem impl_Step_ranges.mono : ∀ a0 a1 a2 a3 a4 a5 a6 k, LeO (impl_Step_ranges.f k a0 a1 a2 a3 a4 a5 a6) (impl_Step_ranges.f (k + 1) a0 a1 a2 a3 a4 a5 a6) := by
 intro a0 a1 a2 a3 a4 a5 a6 k
 have ih0 := impl_Step_ranges.mono_l k
 unfold impl_Step_ranges.f
 repeat' first
   | (with_reducible exact ih0 _ _ _ _ _ _ _ _)
   | (with_reducible exact LeO.refl _)
   | (with_reducible exact LeO.none _)
   | (with_reducible refine LeO.ite ?_ ?_)
   | (with_reducible refine LeO.bind ?_ (fun _ => ?_))
   | exact ih0 _ _ _ _ _ _ _ _
   | exact LeO.none _
   | refine LeO.ite ?_ ?_
   | refine LeO.bind ?_ (fun _ => ?_)
set_option maxHeartbeats 8000000 in
set_option maxRecDepth 100000 in
theorem impl_Step_ranges.calls (k : Nat) (a0_0 : Int) (a0_1 : Int) (a0_2 : Int) (a0_3 : Int) (a0_4 : Int) (a0_5 : Int) (a1 : Int) (r1 : Int) (r2 : Int) (w : World) (h : impl_Step_ranges.f k a0_0 a0_1 a0_2 a0_3 a0_4 a0_5 a1 = some (r1, r2)) :
  Calls Try.prog 81 #[.agg #[.int .i64 a0_0, .int .i64 a0_1, .int .i64 a0_2, .int .i64 a0_3, .int .i64 a0_4, .int .i64 a0_5], .int .u8 a1] w fun e w' => e = .returned (.tuple #[.int .i64 r1, .int .i64 r2]) ∧ Below w.heap.size w w' := by
 have hu26 := Try.underlying26
 have HB := Aside0.mk (Below.refl w.heap.size w)
 have H : (if a1 = 111 then (some (1, 10)) else (if a1 = 100 then (impl_Step_ranges.j0 k a1 true a0_0 a0_1 a0_2 a0_3 a0_4 a0_5) else (impl_Step_ranges.j0 k a1 (a1 == 115) a0_0 a0_1 a0_2 a0_3 a0_4 a0_5))) = some (r1, r2) := h
 clear h
 by_cases c3 : a1 = 111
 ·rw [if_pos c3] at H
  have c3b0 : (a1 == 111) = true := beq_iff_eq.mpr c3
  have c3b1 : (a1 != 111) = false := bne_eq_false_iff_eq.mpr c3
  clear c3
  simp only [Option.some.injEq, Prod.mk.injEq] at H
  obtain ⟨rfl, rfl⟩ := H
  go_enter Try.func81, Try.ntmps81
  go_wp2_with (first | ((with_reducible refine gate_dst (N := 2) rfl ?_); refine box_event ?hg (N := 2) ?hd (cs := #[.int .i64 a0_0, .int .i64 a0_1, .int .i64 a0_2, .int .i64 a0_3, .int .i64 a0_4, .int .i64 a0_5]) (t := 26) ?hr ?_; (case hd => rfl); (case hg => rfl); (case hr => first | (go_simp; done) | (go_simp; rfl)); intro gb229 hg w4 hbox hb; have n0_ := Aside0.mk (below_step (zb_ HB.out) hb); have n1_ := Aside0.mk (hbox); have n2_ := Aside0.mk ((by rw [hg]; exact (below_size (zb_ HB.out)) : w.heap.size ≤ gb229)); have n3_ := Aside0.mk ((by rw [hg]; exact (below_size (zb_ HB.out)) : w.heap.size ≤ gb229)); clear HB; have HB := n0_; have BK229 := n1_; have GW229 := n2_; have GE229 := n3_; clear n0_ n1_ n2_ n3_; clear hb hbox hg))
  go_ret2
  exact ⟨by first | rfl | (simp <;> rfl) | (simp [*] <;> rfl), by repeat (first | (with_reducible first | exact HB.out | apply ba_ | apply bn_ | apply bd_ | refine bs_ ?_ GE229.out) | exact HB.out)⟩
 rw [if_neg c3] at H
 have c3b0 : (a1 == 111) = false := beq_eq_false_iff_ne.mpr c3
 have c3b1 : (a1 != 111) = true := bne_iff_ne.mpr c3
 have HC5 := Aside0.mk H
 clear H
 go_enter Try.func81, Try.ntmps81
 go_upto_region 3 with (first | ((with_reducible refine gate_dst (N := 2) rfl ?_); refine box_event ?hg (N := 2) ?hd (cs := #[.int .i64 a0_0, .int .i64 a0_1, .int .i64 a0_2, .int .i64 a0_3, .int .i64 a0_4, .int .i64 a0_5]) (t := 26) ?hr ?_; (case hd => rfl); (case hg => rfl); (case hr => first | (go_simp; done) | (go_simp; rfl)); intro gb229 hg w6 hbox hb; have n0_ := Aside0.mk (below_step (zb_ HB.out) hb); have n1_ := Aside0.mk (hbox); have n2_ := Aside0.mk ((by rw [hg]; exact (below_size (zb_ HB.out)) : w.heap.size ≤ gb229)); have n3_ := Aside0.mk ((by rw [hg]; exact (below_size (zb_ HB.out)) : w.heap.size ≤ gb229)); clear HB; have HB := n0_; have BK229 := n1_; have GW229 := n2_; have GE229 := n3_; clear n0_ n1_ n2_ n3_; clear hb hbox hg))
 (try simp only [Act.put, List.setIfInBounds_toArray, List.set_cons_zero, List.set_cons_succ])
 go_cut [9] (fun v9 wc => ∃ (kq : Nat) (x9_4 : Bool), v9 = .bool x9_4 ∧ Aside0 (impl_Step_ranges.j0 kq a1 x9_4 a0_0 a0_1 a0_2 a0_3 a0_4 a0_5 = some (r1, r2)) ∧ Aside0 (kq ≤ k) ∧ Aside0 (wc.heap[gb229]? = some (.cells #[.int .i64 a0_0, .int .i64 a0_1, .int .i64 a0_2, .int .i64 a0_3, .int .i64 a0_4, .int .i64 a0_5] 26 (0, 0))) ∧ Aside0 (Below w.heap.size w wc))
 case first =>
  have H := HC5.out
  clear HC5
  by_cases c7 : a1 = 100
  ·rw [if_pos c7] at H
   have c7b0 : (a1 == 100) = true := beq_iff_eq.mpr c7
   have c7b1 : (a1 != 100) = false := bne_eq_false_iff_eq.mpr c7
   clear c7
   (first | rw [c7b0] | (simp only [i64_w, i32_w]; rw [c7b0]) | skip)
   have H' := Aside0.mk H
   clear H
   go_wp2
   go_meet
   case rel => exact ⟨_, (true), (by first | rfl | (simp; done) | (simp [*]; done)), H', ⟨by first | omega | exact Nat.le_refl _⟩, ⟨zO_ BK229.out⟩, ⟨by repeat (first | (with_reducible first | exact HB.out | apply ba_ | apply bn_ | apply bd_ | refine bs_ ?_ GE229.out) | exact HB.out)⟩⟩
  rw [if_neg c7] at H
  have c7b0 : (a1 == 100) = false := beq_eq_false_iff_ne.mpr c7
  have c7b1 : (a1 != 100) = true := bne_iff_ne.mpr c7
  (first | rw [c7b0] | (simp only [i64_w, i32_w]; rw [c7b0]) | skip)
  have H' := Aside0.mk H
  clear H
  go_wp2
  go_meet
  case rel => exact ⟨_, ((a1 == 115)), (by first | rfl | (simp; done) | (simp [*]; done)), H', ⟨by first | omega | exact Nat.le_refl _⟩, ⟨zO_ BK229.out⟩, ⟨by repeat (first | (with_reducible first | exact HB.out | apply ba_ | apply bn_ | apply bd_ | refine bs_ ?_ GE229.out) | exact HB.out)⟩⟩
 case rest =>
  clear HC5
  obtain ⟨kq, x9_4, rfl, HA, HJ4, BK229, HB⟩ := hcut
  cases kq with
  | zero => exact absurd HA.out (by simp [impl_Step_ranges.j0])
  | succ kj4 =>
   have H := HA.out
   clear HA
   simp only [impl_Step_ranges.j0] at H
   by_cases c8 : x9_4 = true
   ·subst c8
    have H1 : (some (0, 5)) = some (r1, r2) := by rw [if_pos rfl] at H; exact H
    clear H
    have H := H1
    clear H1
    simp only [Option.some.injEq, Prod.mk.injEq] at H
    obtain ⟨rfl, rfl⟩ := H
    go_wp2
    go_ret2
    exact ⟨by first | rfl | (simp <;> rfl) | (simp [*] <;> rfl), by repeat (first | (with_reducible first | exact HB.out | apply ba_ | apply bn_ | apply bd_ | refine bs_ ?_ GE229.out) | exact HB.out)⟩
   ·replace c8 := Bool.eq_false_iff.mpr c8
    subst c8
    have H1 : (if a1 = 116 then (some (1, 19)) else (if a0_0 = 4 then (some (256, 65535)) else (if a0_0 = 5 then (some (0, 7)) else (some (0, 255))))) = some (r1, r2) := by rw [if_neg (show ¬ (false = true) by decide)] at H; exact H
    clear H
    have H := H1
    clear H1
    by_cases c9 : a1 = 116
    ·rw [if_pos c9] at H
     have c9b0 : (a1 == 116) = true := beq_iff_eq.mpr c9
     have c9b1 : (a1 != 116) = false := bne_eq_false_iff_eq.mpr c9
     clear c9
     simp only [Option.some.injEq, Prod.mk.injEq] at H
     obtain ⟨rfl, rfl⟩ := H
     go_wp2
     go_ret2
     exact ⟨by first | rfl | (simp <;> rfl) | (simp [*] <;> rfl), by repeat (first | (with_reducible first | exact HB.out | apply ba_ | apply bn_ | apply bd_ | refine bs_ ?_ GE229.out) | exact HB.out)⟩
    rw [if_neg c9] at H
    have c9b0 : (a1 == 116) = false := beq_eq_false_iff_ne.mpr c9
    have c9b1 : (a1 != 116) = true := bne_iff_ne.mpr c9
    by_cases c10 : a0_0 = 4
    ·rw [if_pos c10] at H
     have c10b0 : (a0_0 == 4) = true := beq_iff_eq.mpr c10
     have c10b1 : (a0_0 != 4) = false := bne_eq_false_iff_eq.mpr c10
     clear c10
     simp only [Option.some.injEq, Prod.mk.injEq] at H
     obtain ⟨rfl, rfl⟩ := H
     have hcz11_0 : wc.cell? ⟨gb229, 0, none⟩ = some (.int .i64 a0_0) := (blk_cell BK229.out 0).trans rfl
     have hcz11_1 : wc.cell? ⟨gb229, 1, none⟩ = some (.int .i64 a0_1) := (blk_cell BK229.out 1).trans rfl
     have hcz11_2 : wc.cell? ⟨gb229, 2, none⟩ = some (.int .i64 a0_2) := (blk_cell BK229.out 2).trans rfl
     have hcz11_3 : wc.cell? ⟨gb229, 3, none⟩ = some (.int .i64 a0_3) := (blk_cell BK229.out 3).trans rfl
     have hcz11_4 : wc.cell? ⟨gb229, 4, none⟩ = some (.int .i64 a0_4) := (blk_cell BK229.out 4).trans rfl
     have hcz11_5 : wc.cell? ⟨gb229, 5, none⟩ = some (.int .i64 a0_5) := (blk_cell BK229.out 5).trans rfl
     have hfz11_0 := blk_frozen BK229.out 0
     have hfz11_1 := blk_frozen BK229.out 1
     have hfz11_2 := blk_frozen BK229.out 2
     have hfz11_3 := blk_frozen BK229.out 3
     have hfz11_4 := blk_frozen BK229.out 4
     have hfz11_5 := blk_frozen BK229.out 5
     go_wp2
     go_ret2
     exact ⟨by first | rfl | (simp <;> rfl) | (simp [*] <;> rfl), by repeat (first | (with_reducible first | exact HB.out | apply ba_ | apply bn_ | apply bd_ | refine bs_ ?_ GE229.out) | exact HB.out)⟩
    rw [if_neg c10] at H
    have c10b0 : (a0_0 == 4) = false := beq_eq_false_iff_ne.mpr c10
    have c10b1 : (a0_0 != 4) = true := bne_iff_ne.mpr c10
    by_cases c12 : a0_0 = 5
    ·rw [if_pos c12] at H
     have c12b0 : (a0_0 == 5) = true := beq_iff_eq.mpr c12
     have c12b1 : (a0_0 != 5) = false := bne_eq_false_iff_eq.mpr c12
     clear c12
     simp only [Option.some.injEq, Prod.mk.injEq] at H
     obtain ⟨rfl, rfl⟩ := H
     have hcz13_0 : wc.cell? ⟨gb229, 0, none⟩ = some (.int .i64 a0_0) := (blk_cell BK229.out 0).trans rfl
     have hcz13_1 : wc.cell? ⟨gb229, 1, none⟩ = some (.int .i64 a0_1) := (blk_cell BK229.out 1).trans rfl
     have hcz13_2 : wc.cell? ⟨gb229, 2, none⟩ = some (.int .i64 a0_2) := (blk_cell BK229.out 2).trans rfl
     have hcz13_3 : wc.cell? ⟨gb229, 3, none⟩ = some (.int .i64 a0_3) := (blk_cell BK229.out 3).trans rfl
     have hcz13_4 : wc.cell? ⟨gb229, 4, none⟩ = some (.int .i64 a0_4) := (blk_cell BK229.out 4).trans rfl
     have hcz13_5 : wc.cell? ⟨gb229, 5, none⟩ = some (.int .i64 a0_5) := (blk_cell BK229.out 5).trans rfl
     have hfz13_0 := blk_frozen BK229.out 0
     have hfz13_1 := blk_frozen BK229.out 1
     have hfz13_2 := blk_frozen BK229.out 2
     have hfz13_3 := blk_frozen BK229.out 3
     have hfz13_4 := blk_frozen BK229.out 4
     have hfz13_5 := blk_frozen BK229.out 5
     go_wp2
     go_ret2
     exact ⟨by first | rfl | (simp <;> rfl) | (simp [*] <;> rfl), by repeat (first | (with_reducible first | exact HB.out | apply ba_ | apply bn_ | apply bd_ | refine bs_ ?_ GE229.out) | exact HB.out)⟩
    rw [if_neg c12] at H
    have c12b0 : (a0_0 == 5) = false := beq_eq_false_iff_ne.mpr c12
    have c12b1 : (a0_0 != 5) = true := bne_iff_ne.mpr c12
    simp only [Option.some.injEq, Prod.mk.injEq] at H
    obtain ⟨rfl, rfl⟩ := H
    have hcz14_0 : wc.cell? ⟨gb229, 0, none⟩ = some (.int .i64 a0_0) := (blk_cell BK229.out 0).trans rfl
    have hcz14_1 : wc.cell? ⟨gb229, 1, none⟩ = some (.int .i64 a0_1) := (blk_cell BK229.out 1).trans rfl
    have hcz14_2 : wc.cell? ⟨gb229, 2, none⟩ = some (.int .i64 a0_2) := (blk_cell BK229.out 2).trans rfl
    have hcz14_3 : wc.cell? ⟨gb229, 3, none⟩ = some (.int .i64 a0_3) := (blk_cell BK229.out 3).trans rfl
    have hcz14_4 : wc.cell? ⟨gb229, 4, none⟩ = some (.int .i64 a0_4) := (blk_cell BK229.out 4).trans rfl
    have hcz14_5 : wc.cell? ⟨gb229, 5, none⟩ = some (.int .i64 a0_5) := (blk_cell BK229.out 5).trans rfl
    have hfz14_0 := blk_frozen BK229.out 0
    have hfz14_1 := blk_frozen BK229.out 1
    have hfz14_2 := blk_frozen BK229.out 2
    have hfz14_3 := blk_frozen BK229.out 3
    have hfz14_4 := blk_frozen BK229.out 4
    have hfz14_5 := blk_frozen BK229.out 5
    go_wp2
    go_ret2
    exact ⟨by first | rfl | (simp <;> rfl) | (simp [*] <;> rfl), by repeat (first | (with_reducible first | exact HB.out | apply ba_ | apply bn_ | apply bd_ | refine bs_ ?_ GE229.out) | exact HB.out)⟩
end Go.Proofs.Ytjopmdogdmdanaa.PFnExactTraceOf
-- squeezed
