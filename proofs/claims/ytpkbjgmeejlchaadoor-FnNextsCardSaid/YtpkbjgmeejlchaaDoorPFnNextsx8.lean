-- Made by a program of this session (wip/tools), which leans on the kit's print: checked by Lean alone.
import Derived.Test.YtpkbjgmeejlchaaDoorPFnNextsx0
import Derived.Test.YtpkbjgmeejlchaaDoorPFnNextsx3
import Derived.Test.YtpkbjgmeejlchaaDoorPFnNextsx4
import Derived.Test.YtpkbjgmeejlchaaDoorPFnNextsx7
namespace Go.Proofs.YtpkbjgmeejlchaaDoor.PFnNexts
open Go.RowKit Go.Proofs.YtpkbjgmeejlchaaDoorW.PrintWords Go.Proofs.YtpkbjgmeejlchaaDoorW.PrintLast Go.Proofs.YtpkbjgmeejlchaaDoorW.PrintMore
attribute [local go_sem] max2_int min2_int max_two min_two max_three min_three max_four min_four   -- for this text's walks alone
set_option linter.unusedVariables false
set_option linter.unusedSimpArgs false
def textNames_ : List ByteArray := [(⟨#[111, 112]⟩ : ByteArray), (⟨#[111, 112, 105]⟩ : ByteArray), (⟨#[115, 101, 116]⟩ : ByteArray), (⟨#[119, 105, 100, 101]⟩ : ByteArray), (⟨#[99, 116, 120]⟩ : ByteArray), (⟨#[108, 111, 97, 100]⟩ : ByteArray), (⟨#[115, 116, 111, 114, 101]⟩ : ByteArray), (⟨#[106, 117, 109, 112]⟩ : ByteArray), (⟨#[101, 113]⟩ : ByteArray), (⟨#[108, 101, 115, 115]⟩ : ByteArray), (⟨#[101, 120, 105, 116]⟩ : ByteArray)]
def itoaB_ (n : Int) : ByteArray := ⟨(Lib.itoa n).toArray⟩
def impl_Step_text.l0 : Nat → Int → Int → Int → Int → Int → Int → ByteArray → ByteArray → Int → Option ByteArray
 | 0, _, _, _, _, _, _, _, _, _ => none
 | k + 1, a0_0, a0_1, a0_2, a0_3, a0_4, a0_5, z, o, x => if x < (z.size : Int) then (if 0 ≤ x then (if -9223372036854775808 ≤ fld_ a0_0 a0_1 a0_2 a0_3 a0_4 a0_5 (fieldAt_ (bt z x)) then (if fld_ a0_0 a0_1 a0_2 a0_3 a0_4 a0_5 (fieldAt_ (bt z x)) ≤ 9223372036854775807 then (if 1 + (itoaB_ (fld_ a0_0 a0_1 a0_2 a0_3 a0_4 a0_5 (fieldAt_ (bt z x)))).size ≤ 9223372036854775807 then (if o.size + ((⟨#[32]⟩ : ByteArray) ++ itoaB_ (fld_ a0_0 a0_1 a0_2 a0_3 a0_4 a0_5 (fieldAt_ (bt z x)))).size ≤ 9223372036854775807 then impl_Step_text.l0 k a0_0 a0_1 a0_2 a0_3 a0_4 a0_5 z (o ++ ((⟨#[32]⟩ : ByteArray) ++ itoaB_ (fld_ a0_0 a0_1 a0_2 a0_3 a0_4 a0_5 (fieldAt_ (bt z x))))) (wrap64 (x + 1)) else none) else none) else none) else none) else none) else some o
def impl_Step_text.f (k : Nat) (a0_0 : Int) (a0_1 : Int) (a0_2 : Int) (a0_3 : Int) (a0_4 : Int) (a0_5 : Int) : Option ByteArray := (impl_fields.f k a0_0).bind fun z => if 0 ≤ wrap64 (a0_0 - 1) then (if wrap64 (a0_0 - 1) < (textNames_.length : Int) then impl_Step_text.l0 k a0_0 a0_1 a0_2 a0_3 a0_4 a0_5 z (rdOf ByteArray.empty textNames_ (wrap64 (a0_0 - 1))) 0 else none) else none
theorem impl_Step_text.mono_l : ∀ k, (∀ y0 y1 y2 y3 y4 y5 y6 y7 y8, LeO (impl_Step_text.l0 k y0 y1 y2 y3 y4 y5 y6 y7 y8) (impl_Step_text.l0 (k + 1) y0 y1 y2 y3 y4 y5 y6 y7 y8))
 | 0 => fun _ _ _ _ _ _ _ _ _ r h => by simp [impl_Step_text.l0] at h
 | k + 1 => by
  have ih0 := impl_Step_text.mono_l k
  intro y0 y1 y2 y3 y4 y5 y6 y7 y8
  unfold impl_Step_text.l0
  repeat' first
  | (with_reducible exact ih0 _ _ _ _ _ _ _ _ _)
  | (with_reducible exact LeO.refl _)
  | (with_reducible exact LeO.none _)
  | (with_reducible refine LeO.ite ?_ ?_)
  | (with_reducible refine LeO.bind ?_ (fun _ => ?_))
theorem impl_Step_text.mono : ∀ a0 a1 a2 a3 a4 a5 k, LeO (impl_Step_text.f k a0 a1 a2 a3 a4 a5) (impl_Step_text.f (k + 1) a0 a1 a2 a3 a4 a5) := by
 intro a0 a1 a2 a3 a4 a5 k
 have ih0 := impl_Step_text.mono_l k
 unfold impl_Step_text.f
 repeat' first
 | (with_reducible exact ih0 _ _ _ _ _ _ _ _ _)
 | (with_reducible exact impl_fields.mono _ _)
 | (with_reducible exact LeO.refl _)
 | (with_reducible exact LeO.none _)
 | (with_reducible refine LeO.ite ?_ ?_)
 | (with_reducible refine LeO.bind ?_ (fun _ => ?_))
set_option maxHeartbeats 8000000 in
set_option maxRecDepth 100000 in
theorem impl_Step_text.calls (k : Nat) (a0_0 : Int) (a0_1 : Int) (a0_2 : Int) (a0_3 : Int) (a0_4 : Int) (a0_5 : Int) (r : ByteArray) (w : World) (h : impl_Step_text.f k a0_0 a0_1 a0_2 a0_3 a0_4 a0_5 = some r) (htab : TabP_ w) :
  Calls Tryd.prog 27 #[.agg #[.int .i64 a0_0, .int .i64 a0_1, .int .i64 a0_2, .int .i64 a0_3, .int .i64 a0_4, .int .i64 a0_5]] w fun e w' => e = .returned (.string r) ∧ Below w.heap.size w w' := by
 have hu26 := Tryd.underlying31
 have HT : Aside0 (∀ w' : World, Below w.heap.size w w' → TabP_ w') := ⟨Lib.tabBelow_of_tabIs htab⟩
 clear htab
 have HB := Aside0.mk (Below.refl w.heap.size w)
 unfold impl_Step_text.f at h
 replace h := Option.bind_eq_some_iff.mp h
 obtain ⟨z, G0', h⟩ := h
 have G0 := Aside0.mk G0'
 clear G0'
 obtain ⟨y, hy⟩ : ∃ y, y = ([(⟨#[111, 112]⟩ : ByteArray), (⟨#[111, 112, 105]⟩ : ByteArray), (⟨#[115, 101, 116]⟩ : ByteArray), (⟨#[119, 105, 100, 101]⟩ : ByteArray), (⟨#[99, 116, 120]⟩ : ByteArray), (⟨#[108, 111, 97, 100]⟩ : ByteArray), (⟨#[115, 116, 111, 114, 101]⟩ : ByteArray), (⟨#[106, 117, 109, 112]⟩ : ByteArray), (⟨#[101, 113]⟩ : ByteArray), (⟨#[108, 101, 115, 115]⟩ : ByteArray), (⟨#[101, 120, 105, 116]⟩ : ByteArray)] : List ByteArray) := ⟨_, rfl⟩
 have NY := Aside0.mk hy
 rw [show textNames_ = y from hy.symm] at h
 clear hy
 by_cases c1 : 0 ≤ wrap64 (a0_0 - 1)
 case neg => rw [if_neg c1] at h; cases h
 rw [if_pos c1] at h
 by_cases c2 : wrap64 (a0_0 - 1) < (y.length : Int)
 case neg => rw [if_neg c2] at h; cases h
 rw [if_pos c2] at h
 have C1 := Aside0.mk (decide_eq_true c1)
 have C2 := Aside0.mk (decide_eq_true c2)
 clear c1 c2
 have G1 := Aside0.mk h
 clear h
 go_enter Tryd.func27, Tryd.ntmps27
 go_wp2_with (first | ((with_reducible refine gate_dst (N := 1) rfl ?_); refine box_event ?hg (N := 1) ?hd (cs := #[.int .i64 a0_0, .int .i64 a0_1, .int .i64 a0_2, .int .i64 a0_3, .int .i64 a0_4, .int .i64 a0_5]) (t := 31) ?hr ?_; (case hd => rfl); (case hg => rfl); (case hr => first | (go_simp; done) | (go_simp; rfl)); intro gs hg w4 hbox hb; have n0_ := Aside0.mk (below_step (by repeat (first | (with_reducible first | exact HB.out | apply below_alloc | apply pw_below_drewN | apply below_drew1 | refine below_set ?_ GS.out) | exact HB.out)) hb); have n1_ := Aside0.mk hbox; have n2_ := Aside0.mk ((by rw [hg]; exact (below_size (by repeat (first | (with_reducible first | exact HB.out | apply below_alloc | apply pw_below_drewN | apply below_drew1 | refine below_set ?_ GS.out) | exact HB.out))) : w.heap.size ≤ gs)); clear HB; have HB := n0_; have BS := n1_; have GS := n2_; clear n0_ n1_ n2_ hb hg hbox; have hcgs0 : w4.cell? ⟨gs, 0, none⟩ = some (.int .i64 a0_0) := (blk_cell BS.out 0).trans rfl; have hcgs1 : w4.cell? ⟨gs, 1, none⟩ = some (.int .i64 a0_1) := (blk_cell BS.out 1).trans rfl; have hcgs2 : w4.cell? ⟨gs, 2, none⟩ = some (.int .i64 a0_2) := (blk_cell BS.out 2).trans rfl; have hcgs3 : w4.cell? ⟨gs, 3, none⟩ = some (.int .i64 a0_3) := (blk_cell BS.out 3).trans rfl; have hcgs4 : w4.cell? ⟨gs, 4, none⟩ = some (.int .i64 a0_4) := (blk_cell BS.out 4).trans rfl; have hcgs5 : w4.cell? ⟨gs, 5, none⟩ = some (.int .i64 a0_5) := (blk_cell BS.out 5).trans rfl; have hfgs0 := blk_frozen BS.out 0; have hfgs1 := blk_frozen BS.out 1; have hfgs2 := blk_frozen BS.out 2; have hfgs3 := blk_frozen BS.out 3; have hfgs4 := blk_frozen BS.out 4; have hfgs5 := blk_frozen BS.out 5) | ((with_reducible refine gate_dst (N := 5) rfl ?_); refine Kd.R_lit Kd.string _ 9 ?hg (N := 5) ?hd (xs := ([(⟨#[111, 112]⟩ : ByteArray), (⟨#[111, 112, 105]⟩ : ByteArray), (⟨#[115, 101, 116]⟩ : ByteArray), (⟨#[119, 105, 100, 101]⟩ : ByteArray), (⟨#[99, 116, 120]⟩ : ByteArray), (⟨#[108, 111, 97, 100]⟩ : ByteArray), (⟨#[115, 116, 111, 114, 101]⟩ : ByteArray), (⟨#[106, 117, 109, 112]⟩ : ByteArray), (⟨#[101, 113]⟩ : ByteArray), (⟨#[108, 101, 115, 115]⟩ : ByteArray), (⟨#[101, 120, 105, 116]⟩ : ByteArray)] : List ByteArray)) (inner := [.string (⟨#[111, 112]⟩ : ByteArray), .string (⟨#[111, 112, 105]⟩ : ByteArray), .string (⟨#[115, 101, 116]⟩ : ByteArray), .string (⟨#[119, 105, 100, 101]⟩ : ByteArray), .string (⟨#[99, 116, 120]⟩ : ByteArray), .string (⟨#[108, 111, 97, 100]⟩ : ByteArray), .string (⟨#[115, 116, 111, 114, 101]⟩ : ByteArray), .string (⟨#[106, 117, 109, 112]⟩ : ByteArray), .string (⟨#[101, 113]⟩ : ByteArray), .string (⟨#[108, 101, 115, 115]⟩ : ByteArray), .string (⟨#[101, 120, 105, 116]⟩ : ByteArray)]) (ok := fun _ => True) (okp := fun _ => True) ?hr ?hp (fun _ hk => hk) trivial (Below.refl _ _) (Nat.le_refl _) (by simp) ?_; (case hd => rfl); (case hg => rfl); (case hr => first | (go_simp; done) | (go_simp; rfl)); (case hp => exact (Reps.one (show Kd.M Kd.string _ _ _ (⟨#[111, 112]⟩ : ByteArray) [.string (⟨#[111, 112]⟩ : ByteArray)] from rfl) (Reps.one (show Kd.M Kd.string _ _ _ (⟨#[111, 112, 105]⟩ : ByteArray) [.string (⟨#[111, 112, 105]⟩ : ByteArray)] from rfl) (Reps.one (show Kd.M Kd.string _ _ _ (⟨#[115, 101, 116]⟩ : ByteArray) [.string (⟨#[115, 101, 116]⟩ : ByteArray)] from rfl) (Reps.one (show Kd.M Kd.string _ _ _ (⟨#[119, 105, 100, 101]⟩ : ByteArray) [.string (⟨#[119, 105, 100, 101]⟩ : ByteArray)] from rfl) (Reps.one (show Kd.M Kd.string _ _ _ (⟨#[99, 116, 120]⟩ : ByteArray) [.string (⟨#[99, 116, 120]⟩ : ByteArray)] from rfl) (Reps.one (show Kd.M Kd.string _ _ _ (⟨#[108, 111, 97, 100]⟩ : ByteArray) [.string (⟨#[108, 111, 97, 100]⟩ : ByteArray)] from rfl) (Reps.one (show Kd.M Kd.string _ _ _ (⟨#[115, 116, 111, 114, 101]⟩ : ByteArray) [.string (⟨#[115, 116, 111, 114, 101]⟩ : ByteArray)] from rfl) (Reps.one (show Kd.M Kd.string _ _ _ (⟨#[106, 117, 109, 112]⟩ : ByteArray) [.string (⟨#[106, 117, 109, 112]⟩ : ByteArray)] from rfl) (Reps.one (show Kd.M Kd.string _ _ _ (⟨#[101, 113]⟩ : ByteArray) [.string (⟨#[101, 113]⟩ : ByteArray)] from rfl) (Reps.one (show Kd.M Kd.string _ _ _ (⟨#[108, 101, 115, 115]⟩ : ByteArray) [.string (⟨#[108, 101, 115, 115]⟩ : ByteArray)] from rfl) (Reps.one (show Kd.M Kd.string _ _ _ (⟨#[101, 120, 105, 116]⟩ : ByteArray) [.string (⟨#[101, 120, 105, 116]⟩ : ByteArray)] from rfl) (Reps.none _ _))))))))))))); intro v5 w10 ho11 hb hg_ hnew_; clear hg_ hnew_; (first | rw [← NY.out] at ho11 | (simp only [Int.reduceToNat] at ho11; rw [← NY.out] at ho11)); have n0_ := Aside0.mk (Kd.R_lower ho11 (below_size (by repeat (first | (with_reducible first | exact HB.out | apply below_alloc | apply pw_below_drewN | apply below_drew1 | refine below_set ?_ GS.out) | exact HB.out)))); have n1_ := Aside0.mk (blk_below (g := gs) (o := .cells #[.int .i64 a0_0, .int .i64 a0_1, .int .i64 a0_2, .int .i64 a0_3, .int .i64 a0_4, .int .i64 a0_5] 31 (0, 0)) (by (with_reducible repeat (first | refine blk_drewN ?_ _ | refine blk_drew ?_ | refine blk_alloc ?_ _)); exact BS.out) hb); have n2_ := Aside0.mk (below_step (by repeat (first | (with_reducible first | exact HB.out | apply below_alloc | apply pw_below_drewN | apply below_drew1 | refine below_set ?_ GS.out) | exact HB.out)) hb); clear BS HB; have HO5 := n0_; have BS := n1_; have HB := n2_; clear n0_ n1_ n2_ hb ho11; clear hcgs0 hfgs0 hcgs1 hfgs1 hcgs2 hfgs2 hcgs3 hfgs3 hcgs4 hfgs4 hcgs5 hfgs5; have hcgs0 : w10.cell? ⟨gs, 0, none⟩ = some (.int .i64 a0_0) := (blk_cell BS.out 0).trans rfl; have hcgs1 : w10.cell? ⟨gs, 1, none⟩ = some (.int .i64 a0_1) := (blk_cell BS.out 1).trans rfl; have hcgs2 : w10.cell? ⟨gs, 2, none⟩ = some (.int .i64 a0_2) := (blk_cell BS.out 2).trans rfl; have hcgs3 : w10.cell? ⟨gs, 3, none⟩ = some (.int .i64 a0_3) := (blk_cell BS.out 3).trans rfl; have hcgs4 : w10.cell? ⟨gs, 4, none⟩ = some (.int .i64 a0_4) := (blk_cell BS.out 4).trans rfl; have hcgs5 : w10.cell? ⟨gs, 5, none⟩ = some (.int .i64 a0_5) := (blk_cell BS.out 5).trans rfl; have hfgs0 := blk_frozen BS.out 0; have hfgs1 := blk_frozen BS.out 1; have hfgs2 := blk_frozen BS.out 2; have hfgs3 := blk_frozen BS.out 3; have hfgs4 := blk_frozen BS.out 4; have hfgs5 := blk_frozen BS.out 5; obtain ⟨Ao5, co5, eo5⟩ := Kd.R_slice HO5.out; subst eo5; obtain ⟨ad5, e5, hx5_0⟩ := Kd.at_string (Kd.R_reads' HO5.out).2.2 (wrap64 (a0_0 - 1)) (of_decide_eq_true C1.out) (of_decide_eq_true C2.out); cases e5; have p5 := eq_true (of_decide_eq_true C1.out); have q5 := eq_true (of_decide_eq_true C2.out)) | (go_at_call 36; (with_reducible refine (impl_fields.calls k a0_0 z _ G0.out).mono ?_); rintro e w' ⟨rfl, ⟨nd, rfl⟩⟩))
 go_loopg [3, 4, 15] k (fun kq v3 v4 v15 w' => ∃ (x : Int) (o : ByteArray), v3 = .string o ∧ v15 = .int .i64 x ∧ Aside0 (impl_Step_text.l0 kq a0_0 a0_1 a0_2 a0_3 a0_4 a0_5 z o x = some r) ∧ Aside0 (kq ≤ k) ∧ Aside0 (w'.heap[gs]? = some (.cells #[.int .i64 a0_0, .int .i64 a0_1, .int .i64 a0_2, .int .i64 a0_3, .int .i64 a0_4, .int .i64 a0_5] 31 (0, 0))) ∧ Aside0 (Below w.heap.size w w'))
 case atStart => exact ⟨0, _, rfl, rfl, G1, ⟨Nat.le_refl _⟩, ⟨by (with_reducible repeat (first | refine blk_drewN ?_ _ | refine blk_drew ?_ | refine blk_alloc ?_ _)); exact BS.out⟩, ⟨by repeat (first | (with_reducible first | exact HB.out | apply below_alloc | apply pw_below_drewN | apply below_drew1 | refine below_set ?_ GS.out) | exact HB.out)⟩⟩
 case round =>
  clear G1 BS HB
  try clear HO5
  try clear hcgs0 hfgs0 hcgs1 hfgs1 hcgs2 hfgs2 hcgs3 hfgs3 hcgs4 hfgs4 hcgs5 hfgs5
  try clear hx5_0 p5 q5
  obtain ⟨x, o, rfl, rfl, HA, HK1, BS, HB⟩ := hrel
  cases gk with
  | zero => exact absurd HA.out (by simp [impl_Step_text.l0])
  | succ k1 =>
   have h := HA.out
   clear HA
   simp only [impl_Step_text.l0] at h
   by_cases c3 : x < (z.size : Int)
   ·have c3b : decide (x < (z.size : Int)) = true := decide_eq_true c3
    rw [if_pos c3] at h
    by_cases c4 : 0 ≤ x
    ·rw [if_pos c4] at h
     have p6 := eq_true c4
     have q6 := eq_true c3
     have hx6 := bt_at z x
     clear c3 c4
     have hj := fieldAt_cases (bt z x)
     have hcgs0 : wr.cell? ⟨gs, 0, none⟩ = some (.int .i64 a0_0) := (blk_cell BS.out 0).trans rfl
     have hcgs1 : wr.cell? ⟨gs, 1, none⟩ = some (.int .i64 a0_1) := (blk_cell BS.out 1).trans rfl
     have hcgs2 : wr.cell? ⟨gs, 2, none⟩ = some (.int .i64 a0_2) := (blk_cell BS.out 2).trans rfl
     have hcgs3 : wr.cell? ⟨gs, 3, none⟩ = some (.int .i64 a0_3) := (blk_cell BS.out 3).trans rfl
     have hcgs4 : wr.cell? ⟨gs, 4, none⟩ = some (.int .i64 a0_4) := (blk_cell BS.out 4).trans rfl
     have hcgs5 : wr.cell? ⟨gs, 5, none⟩ = some (.int .i64 a0_5) := (blk_cell BS.out 5).trans rfl
     have hfgs0 := blk_frozen BS.out 0
     have hfgs1 := blk_frozen BS.out 1
     have hfgs2 := blk_frozen BS.out 2
     have hfgs3 := blk_frozen BS.out 3
     have hfgs4 := blk_frozen BS.out 4
     have hfgs5 := blk_frozen BS.out 5
     rcases hj with hj | hj | hj | hj | hj
     ·rw [hj] at h
      replace h : (if -9223372036854775808 ≤ a0_1 then (if a0_1 ≤ 9223372036854775807 then (if 1 + (itoaB_ a0_1).size ≤ 9223372036854775807 then (if o.size + ((⟨#[32]⟩ : ByteArray) ++ itoaB_ a0_1).size ≤ 9223372036854775807 then impl_Step_text.l0 k1 a0_0 a0_1 a0_2 a0_3 a0_4 a0_5 z (o ++ ((⟨#[32]⟩ : ByteArray) ++ itoaB_ a0_1)) (wrap64 (x + 1)) else none) else none) else none) else none) = some r := h
      by_cases c5 : -9223372036854775808 ≤ a0_1
      case neg => rw [if_neg c5] at h; cases h
      rw [if_pos c5] at h
      have c5A := Aside0.mk c5
      clear c5
      by_cases c6 : a0_1 ≤ 9223372036854775807
      case neg => rw [if_neg c6] at h; cases h
      rw [if_pos c6] at h
      have c6A := Aside0.mk c6
      clear c6
      obtain ⟨t, ht⟩ : ∃ t, t = itoaB_ a0_1 := ⟨_, rfl⟩
      rw [← ht] at h
      have NT := Aside0.mk ht
      clear ht
      by_cases c7 : 1 + t.size ≤ 9223372036854775807
      case neg => rw [if_neg c7] at h; cases h
      rw [if_pos c7] at h
      have c7b0 := eq_true c7
      have c7b1 : decide (1 + t.size ≤ 9223372036854775807) = true := decide_eq_true c7
      try have c7b2 : (9223372036854775807 < 1 + t.size) = False := eq_false (Nat.not_lt.2 c7)
      by_cases c8 : o.size + ((⟨#[32]⟩ : ByteArray) ++ t).size ≤ 9223372036854775807
      case neg => rw [if_neg c8] at h; cases h
      rw [if_pos c8] at h
      have c8b0 := eq_true c8
      have c8b1 : decide (o.size + ((⟨#[32]⟩ : ByteArray) ++ t).size ≤ 9223372036854775807) = true := decide_eq_true c8
      try have c8b2 : (9223372036854775807 < o.size + ((⟨#[32]⟩ : ByteArray) ++ t).size) = False := eq_false (Nat.not_lt.2 c8)
      have H' := Aside0.mk h
      clear h
      go_wp2_with (first | (go_at_call 36; (with_reducible refine (impl_fields.calls k a0_0 z _ G0.out).mono ?_); rintro e w' ⟨rfl, ⟨nd, rfl⟩⟩) | (go_at_call 38; (with_reducible refine (impl_Step_field.callsj gs (bt z x) 1 hj _).mono ?_); rintro e w' ⟨rfl, ⟨nd, rfl⟩⟩) | (go_at_call 41; (with_reducible refine (strconv_Itoa_.calls a0_1 c5A.out c6A.out _ (HT.out _ (by repeat (first | (with_reducible first | exact HB.out | apply below_alloc | apply pw_below_drewN | apply below_drew1 | refine below_set ?_ GS.out) | exact HB.out)))).mono ?_); rintro e w7 ⟨rfl, hb⟩; (rw [show (⟨(Lib.itoa a0_1).toArray⟩ : ByteArray) = t from NT.out.symm]); have n1_ := Aside0.mk (blk_below (g := gs) (o := .cells #[.int .i64 a0_0, .int .i64 a0_1, .int .i64 a0_2, .int .i64 a0_3, .int .i64 a0_4, .int .i64 a0_5] 31 (0, 0)) (by (with_reducible repeat (first | refine blk_drewN ?_ _ | refine blk_drew ?_ | refine blk_alloc ?_ _)); exact BS.out) hb); have n2_ := Aside0.mk (below_step (by repeat (first | (with_reducible first | exact HB.out | apply below_alloc | apply pw_below_drewN | apply below_drew1 | refine below_set ?_ GS.out) | exact HB.out)) hb); clear BS HB; clear hcgs0 hfgs0 hcgs1 hfgs1 hcgs2 hfgs2 hcgs3 hfgs3 hcgs4 hfgs4 hcgs5 hfgs5; have BS := n1_; have HB := n2_; clear n1_ n2_ hb; have hcgs0 : w7.cell? ⟨gs, 0, none⟩ = some (.int .i64 a0_0) := (blk_cell BS.out 0).trans rfl; have hcgs1 : w7.cell? ⟨gs, 1, none⟩ = some (.int .i64 a0_1) := (blk_cell BS.out 1).trans rfl; have hcgs2 : w7.cell? ⟨gs, 2, none⟩ = some (.int .i64 a0_2) := (blk_cell BS.out 2).trans rfl; have hcgs3 : w7.cell? ⟨gs, 3, none⟩ = some (.int .i64 a0_3) := (blk_cell BS.out 3).trans rfl; have hcgs4 : w7.cell? ⟨gs, 4, none⟩ = some (.int .i64 a0_4) := (blk_cell BS.out 4).trans rfl; have hcgs5 : w7.cell? ⟨gs, 5, none⟩ = some (.int .i64 a0_5) := (blk_cell BS.out 5).trans rfl; have hfgs0 := blk_frozen BS.out 0; have hfgs1 := blk_frozen BS.out 1; have hfgs2 := blk_frozen BS.out 2; have hfgs3 := blk_frozen BS.out 3; have hfgs4 := blk_frozen BS.out 4; have hfgs5 := blk_frozen BS.out 5))
      go_roundg k1
      case measure => have := HK1.out; omega
      case rel => exact ⟨wrap64 (x + 1), _, rfl, (by first | rfl | (simp; done) | (simp [*]; done)), H', ⟨by have := HK1.out; omega⟩, ⟨by (with_reducible repeat (first | refine blk_drewN ?_ _ | refine blk_drew ?_ | refine blk_alloc ?_ _)); exact BS.out⟩, ⟨by repeat (first | (with_reducible first | exact HB.out | apply below_alloc | apply pw_below_drewN | apply below_drew1 | refine below_set ?_ GS.out) | exact HB.out)⟩⟩
     ·rw [hj] at h
      replace h : (if -9223372036854775808 ≤ a0_2 then (if a0_2 ≤ 9223372036854775807 then (if 1 + (itoaB_ a0_2).size ≤ 9223372036854775807 then (if o.size + ((⟨#[32]⟩ : ByteArray) ++ itoaB_ a0_2).size ≤ 9223372036854775807 then impl_Step_text.l0 k1 a0_0 a0_1 a0_2 a0_3 a0_4 a0_5 z (o ++ ((⟨#[32]⟩ : ByteArray) ++ itoaB_ a0_2)) (wrap64 (x + 1)) else none) else none) else none) else none) = some r := h
      by_cases c5 : -9223372036854775808 ≤ a0_2
      case neg => rw [if_neg c5] at h; cases h
      rw [if_pos c5] at h
      have c5A := Aside0.mk c5
      clear c5
      by_cases c6 : a0_2 ≤ 9223372036854775807
      case neg => rw [if_neg c6] at h; cases h
      rw [if_pos c6] at h
      have c6A := Aside0.mk c6
      clear c6
      obtain ⟨t, ht⟩ : ∃ t, t = itoaB_ a0_2 := ⟨_, rfl⟩
      rw [← ht] at h
      have NT := Aside0.mk ht
      clear ht
      by_cases c7 : 1 + t.size ≤ 9223372036854775807
      case neg => rw [if_neg c7] at h; cases h
      rw [if_pos c7] at h
      have c7b0 := eq_true c7
      have c7b1 : decide (1 + t.size ≤ 9223372036854775807) = true := decide_eq_true c7
      try have c7b2 : (9223372036854775807 < 1 + t.size) = False := eq_false (Nat.not_lt.2 c7)
      by_cases c8 : o.size + ((⟨#[32]⟩ : ByteArray) ++ t).size ≤ 9223372036854775807
      case neg => rw [if_neg c8] at h; cases h
      rw [if_pos c8] at h
      have c8b0 := eq_true c8
      have c8b1 : decide (o.size + ((⟨#[32]⟩ : ByteArray) ++ t).size ≤ 9223372036854775807) = true := decide_eq_true c8
      try have c8b2 : (9223372036854775807 < o.size + ((⟨#[32]⟩ : ByteArray) ++ t).size) = False := eq_false (Nat.not_lt.2 c8)
      have H' := Aside0.mk h
      clear h
      go_wp2_with (first | (go_at_call 36; (with_reducible refine (impl_fields.calls k a0_0 z _ G0.out).mono ?_); rintro e w' ⟨rfl, ⟨nd, rfl⟩⟩) | (go_at_call 38; (with_reducible refine (impl_Step_field.callsj gs (bt z x) 2 hj _).mono ?_); rintro e w' ⟨rfl, ⟨nd, rfl⟩⟩) | (go_at_call 41; (with_reducible refine (strconv_Itoa_.calls a0_2 c5A.out c6A.out _ (HT.out _ (by repeat (first | (with_reducible first | exact HB.out | apply below_alloc | apply pw_below_drewN | apply below_drew1 | refine below_set ?_ GS.out) | exact HB.out)))).mono ?_); rintro e w7 ⟨rfl, hb⟩; (rw [show (⟨(Lib.itoa a0_2).toArray⟩ : ByteArray) = t from NT.out.symm]); have n1_ := Aside0.mk (blk_below (g := gs) (o := .cells #[.int .i64 a0_0, .int .i64 a0_1, .int .i64 a0_2, .int .i64 a0_3, .int .i64 a0_4, .int .i64 a0_5] 31 (0, 0)) (by (with_reducible repeat (first | refine blk_drewN ?_ _ | refine blk_drew ?_ | refine blk_alloc ?_ _)); exact BS.out) hb); have n2_ := Aside0.mk (below_step (by repeat (first | (with_reducible first | exact HB.out | apply below_alloc | apply pw_below_drewN | apply below_drew1 | refine below_set ?_ GS.out) | exact HB.out)) hb); clear BS HB; clear hcgs0 hfgs0 hcgs1 hfgs1 hcgs2 hfgs2 hcgs3 hfgs3 hcgs4 hfgs4 hcgs5 hfgs5; have BS := n1_; have HB := n2_; clear n1_ n2_ hb; have hcgs0 : w7.cell? ⟨gs, 0, none⟩ = some (.int .i64 a0_0) := (blk_cell BS.out 0).trans rfl; have hcgs1 : w7.cell? ⟨gs, 1, none⟩ = some (.int .i64 a0_1) := (blk_cell BS.out 1).trans rfl; have hcgs2 : w7.cell? ⟨gs, 2, none⟩ = some (.int .i64 a0_2) := (blk_cell BS.out 2).trans rfl; have hcgs3 : w7.cell? ⟨gs, 3, none⟩ = some (.int .i64 a0_3) := (blk_cell BS.out 3).trans rfl; have hcgs4 : w7.cell? ⟨gs, 4, none⟩ = some (.int .i64 a0_4) := (blk_cell BS.out 4).trans rfl; have hcgs5 : w7.cell? ⟨gs, 5, none⟩ = some (.int .i64 a0_5) := (blk_cell BS.out 5).trans rfl; have hfgs0 := blk_frozen BS.out 0; have hfgs1 := blk_frozen BS.out 1; have hfgs2 := blk_frozen BS.out 2; have hfgs3 := blk_frozen BS.out 3; have hfgs4 := blk_frozen BS.out 4; have hfgs5 := blk_frozen BS.out 5))
      go_roundg k1
      case measure => have := HK1.out; omega
      case rel => exact ⟨wrap64 (x + 1), _, rfl, (by first | rfl | (simp; done) | (simp [*]; done)), H', ⟨by have := HK1.out; omega⟩, ⟨by (with_reducible repeat (first | refine blk_drewN ?_ _ | refine blk_drew ?_ | refine blk_alloc ?_ _)); exact BS.out⟩, ⟨by repeat (first | (with_reducible first | exact HB.out | apply below_alloc | apply pw_below_drewN | apply below_drew1 | refine below_set ?_ GS.out) | exact HB.out)⟩⟩
     ·rw [hj] at h
      replace h : (if -9223372036854775808 ≤ a0_3 then (if a0_3 ≤ 9223372036854775807 then (if 1 + (itoaB_ a0_3).size ≤ 9223372036854775807 then (if o.size + ((⟨#[32]⟩ : ByteArray) ++ itoaB_ a0_3).size ≤ 9223372036854775807 then impl_Step_text.l0 k1 a0_0 a0_1 a0_2 a0_3 a0_4 a0_5 z (o ++ ((⟨#[32]⟩ : ByteArray) ++ itoaB_ a0_3)) (wrap64 (x + 1)) else none) else none) else none) else none) = some r := h
      by_cases c5 : -9223372036854775808 ≤ a0_3
      case neg => rw [if_neg c5] at h; cases h
      rw [if_pos c5] at h
      have c5A := Aside0.mk c5
      clear c5
      by_cases c6 : a0_3 ≤ 9223372036854775807
      case neg => rw [if_neg c6] at h; cases h
      rw [if_pos c6] at h
      have c6A := Aside0.mk c6
      clear c6
      obtain ⟨t, ht⟩ : ∃ t, t = itoaB_ a0_3 := ⟨_, rfl⟩
      rw [← ht] at h
      have NT := Aside0.mk ht
      clear ht
      by_cases c7 : 1 + t.size ≤ 9223372036854775807
      case neg => rw [if_neg c7] at h; cases h
      rw [if_pos c7] at h
      have c7b0 := eq_true c7
      have c7b1 : decide (1 + t.size ≤ 9223372036854775807) = true := decide_eq_true c7
      try have c7b2 : (9223372036854775807 < 1 + t.size) = False := eq_false (Nat.not_lt.2 c7)
      by_cases c8 : o.size + ((⟨#[32]⟩ : ByteArray) ++ t).size ≤ 9223372036854775807
      case neg => rw [if_neg c8] at h; cases h
      rw [if_pos c8] at h
      have c8b0 := eq_true c8
      have c8b1 : decide (o.size + ((⟨#[32]⟩ : ByteArray) ++ t).size ≤ 9223372036854775807) = true := decide_eq_true c8
      try have c8b2 : (9223372036854775807 < o.size + ((⟨#[32]⟩ : ByteArray) ++ t).size) = False := eq_false (Nat.not_lt.2 c8)
      have H' := Aside0.mk h
      clear h
      go_wp2_with (first | (go_at_call 36; (with_reducible refine (impl_fields.calls k a0_0 z _ G0.out).mono ?_); rintro e w' ⟨rfl, ⟨nd, rfl⟩⟩) | (go_at_call 38; (with_reducible refine (impl_Step_field.callsj gs (bt z x) 3 hj _).mono ?_); rintro e w' ⟨rfl, ⟨nd, rfl⟩⟩) | (go_at_call 41; (with_reducible refine (strconv_Itoa_.calls a0_3 c5A.out c6A.out _ (HT.out _ (by repeat (first | (with_reducible first | exact HB.out | apply below_alloc | apply pw_below_drewN | apply below_drew1 | refine below_set ?_ GS.out) | exact HB.out)))).mono ?_); rintro e w7 ⟨rfl, hb⟩; (rw [show (⟨(Lib.itoa a0_3).toArray⟩ : ByteArray) = t from NT.out.symm]); have n1_ := Aside0.mk (blk_below (g := gs) (o := .cells #[.int .i64 a0_0, .int .i64 a0_1, .int .i64 a0_2, .int .i64 a0_3, .int .i64 a0_4, .int .i64 a0_5] 31 (0, 0)) (by (with_reducible repeat (first | refine blk_drewN ?_ _ | refine blk_drew ?_ | refine blk_alloc ?_ _)); exact BS.out) hb); have n2_ := Aside0.mk (below_step (by repeat (first | (with_reducible first | exact HB.out | apply below_alloc | apply pw_below_drewN | apply below_drew1 | refine below_set ?_ GS.out) | exact HB.out)) hb); clear BS HB; clear hcgs0 hfgs0 hcgs1 hfgs1 hcgs2 hfgs2 hcgs3 hfgs3 hcgs4 hfgs4 hcgs5 hfgs5; have BS := n1_; have HB := n2_; clear n1_ n2_ hb; have hcgs0 : w7.cell? ⟨gs, 0, none⟩ = some (.int .i64 a0_0) := (blk_cell BS.out 0).trans rfl; have hcgs1 : w7.cell? ⟨gs, 1, none⟩ = some (.int .i64 a0_1) := (blk_cell BS.out 1).trans rfl; have hcgs2 : w7.cell? ⟨gs, 2, none⟩ = some (.int .i64 a0_2) := (blk_cell BS.out 2).trans rfl; have hcgs3 : w7.cell? ⟨gs, 3, none⟩ = some (.int .i64 a0_3) := (blk_cell BS.out 3).trans rfl; have hcgs4 : w7.cell? ⟨gs, 4, none⟩ = some (.int .i64 a0_4) := (blk_cell BS.out 4).trans rfl; have hcgs5 : w7.cell? ⟨gs, 5, none⟩ = some (.int .i64 a0_5) := (blk_cell BS.out 5).trans rfl; have hfgs0 := blk_frozen BS.out 0; have hfgs1 := blk_frozen BS.out 1; have hfgs2 := blk_frozen BS.out 2; have hfgs3 := blk_frozen BS.out 3; have hfgs4 := blk_frozen BS.out 4; have hfgs5 := blk_frozen BS.out 5))
      go_roundg k1
      case measure => have := HK1.out; omega
      case rel => exact ⟨wrap64 (x + 1), _, rfl, (by first | rfl | (simp; done) | (simp [*]; done)), H', ⟨by have := HK1.out; omega⟩, ⟨by (with_reducible repeat (first | refine blk_drewN ?_ _ | refine blk_drew ?_ | refine blk_alloc ?_ _)); exact BS.out⟩, ⟨by repeat (first | (with_reducible first | exact HB.out | apply below_alloc | apply pw_below_drewN | apply below_drew1 | refine below_set ?_ GS.out) | exact HB.out)⟩⟩
     ·rw [hj] at h
      replace h : (if -9223372036854775808 ≤ a0_4 then (if a0_4 ≤ 9223372036854775807 then (if 1 + (itoaB_ a0_4).size ≤ 9223372036854775807 then (if o.size + ((⟨#[32]⟩ : ByteArray) ++ itoaB_ a0_4).size ≤ 9223372036854775807 then impl_Step_text.l0 k1 a0_0 a0_1 a0_2 a0_3 a0_4 a0_5 z (o ++ ((⟨#[32]⟩ : ByteArray) ++ itoaB_ a0_4)) (wrap64 (x + 1)) else none) else none) else none) else none) = some r := h
      by_cases c5 : -9223372036854775808 ≤ a0_4
      case neg => rw [if_neg c5] at h; cases h
      rw [if_pos c5] at h
      have c5A := Aside0.mk c5
      clear c5
      by_cases c6 : a0_4 ≤ 9223372036854775807
      case neg => rw [if_neg c6] at h; cases h
      rw [if_pos c6] at h
      have c6A := Aside0.mk c6
      clear c6
      obtain ⟨t, ht⟩ : ∃ t, t = itoaB_ a0_4 := ⟨_, rfl⟩
      rw [← ht] at h
      have NT := Aside0.mk ht
      clear ht
      by_cases c7 : 1 + t.size ≤ 9223372036854775807
      case neg => rw [if_neg c7] at h; cases h
      rw [if_pos c7] at h
      have c7b0 := eq_true c7
      have c7b1 : decide (1 + t.size ≤ 9223372036854775807) = true := decide_eq_true c7
      try have c7b2 : (9223372036854775807 < 1 + t.size) = False := eq_false (Nat.not_lt.2 c7)
      by_cases c8 : o.size + ((⟨#[32]⟩ : ByteArray) ++ t).size ≤ 9223372036854775807
      case neg => rw [if_neg c8] at h; cases h
      rw [if_pos c8] at h
      have c8b0 := eq_true c8
      have c8b1 : decide (o.size + ((⟨#[32]⟩ : ByteArray) ++ t).size ≤ 9223372036854775807) = true := decide_eq_true c8
      try have c8b2 : (9223372036854775807 < o.size + ((⟨#[32]⟩ : ByteArray) ++ t).size) = False := eq_false (Nat.not_lt.2 c8)
      have H' := Aside0.mk h
      clear h
      go_wp2_with (first | (go_at_call 36; (with_reducible refine (impl_fields.calls k a0_0 z _ G0.out).mono ?_); rintro e w' ⟨rfl, ⟨nd, rfl⟩⟩) | (go_at_call 38; (with_reducible refine (impl_Step_field.callsj gs (bt z x) 4 hj _).mono ?_); rintro e w' ⟨rfl, ⟨nd, rfl⟩⟩) | (go_at_call 41; (with_reducible refine (strconv_Itoa_.calls a0_4 c5A.out c6A.out _ (HT.out _ (by repeat (first | (with_reducible first | exact HB.out | apply below_alloc | apply pw_below_drewN | apply below_drew1 | refine below_set ?_ GS.out) | exact HB.out)))).mono ?_); rintro e w7 ⟨rfl, hb⟩; (rw [show (⟨(Lib.itoa a0_4).toArray⟩ : ByteArray) = t from NT.out.symm]); have n1_ := Aside0.mk (blk_below (g := gs) (o := .cells #[.int .i64 a0_0, .int .i64 a0_1, .int .i64 a0_2, .int .i64 a0_3, .int .i64 a0_4, .int .i64 a0_5] 31 (0, 0)) (by (with_reducible repeat (first | refine blk_drewN ?_ _ | refine blk_drew ?_ | refine blk_alloc ?_ _)); exact BS.out) hb); have n2_ := Aside0.mk (below_step (by repeat (first | (with_reducible first | exact HB.out | apply below_alloc | apply pw_below_drewN | apply below_drew1 | refine below_set ?_ GS.out) | exact HB.out)) hb); clear BS HB; clear hcgs0 hfgs0 hcgs1 hfgs1 hcgs2 hfgs2 hcgs3 hfgs3 hcgs4 hfgs4 hcgs5 hfgs5; have BS := n1_; have HB := n2_; clear n1_ n2_ hb; have hcgs0 : w7.cell? ⟨gs, 0, none⟩ = some (.int .i64 a0_0) := (blk_cell BS.out 0).trans rfl; have hcgs1 : w7.cell? ⟨gs, 1, none⟩ = some (.int .i64 a0_1) := (blk_cell BS.out 1).trans rfl; have hcgs2 : w7.cell? ⟨gs, 2, none⟩ = some (.int .i64 a0_2) := (blk_cell BS.out 2).trans rfl; have hcgs3 : w7.cell? ⟨gs, 3, none⟩ = some (.int .i64 a0_3) := (blk_cell BS.out 3).trans rfl; have hcgs4 : w7.cell? ⟨gs, 4, none⟩ = some (.int .i64 a0_4) := (blk_cell BS.out 4).trans rfl; have hcgs5 : w7.cell? ⟨gs, 5, none⟩ = some (.int .i64 a0_5) := (blk_cell BS.out 5).trans rfl; have hfgs0 := blk_frozen BS.out 0; have hfgs1 := blk_frozen BS.out 1; have hfgs2 := blk_frozen BS.out 2; have hfgs3 := blk_frozen BS.out 3; have hfgs4 := blk_frozen BS.out 4; have hfgs5 := blk_frozen BS.out 5))
      go_roundg k1
      case measure => have := HK1.out; omega
      case rel => exact ⟨wrap64 (x + 1), _, rfl, (by first | rfl | (simp; done) | (simp [*]; done)), H', ⟨by have := HK1.out; omega⟩, ⟨by (with_reducible repeat (first | refine blk_drewN ?_ _ | refine blk_drew ?_ | refine blk_alloc ?_ _)); exact BS.out⟩, ⟨by repeat (first | (with_reducible first | exact HB.out | apply below_alloc | apply pw_below_drewN | apply below_drew1 | refine below_set ?_ GS.out) | exact HB.out)⟩⟩
     ·rw [hj] at h
      replace h : (if -9223372036854775808 ≤ a0_5 then (if a0_5 ≤ 9223372036854775807 then (if 1 + (itoaB_ a0_5).size ≤ 9223372036854775807 then (if o.size + ((⟨#[32]⟩ : ByteArray) ++ itoaB_ a0_5).size ≤ 9223372036854775807 then impl_Step_text.l0 k1 a0_0 a0_1 a0_2 a0_3 a0_4 a0_5 z (o ++ ((⟨#[32]⟩ : ByteArray) ++ itoaB_ a0_5)) (wrap64 (x + 1)) else none) else none) else none) else none) = some r := h
      by_cases c5 : -9223372036854775808 ≤ a0_5
      case neg => rw [if_neg c5] at h; cases h
      rw [if_pos c5] at h
      have c5A := Aside0.mk c5
      clear c5
      by_cases c6 : a0_5 ≤ 9223372036854775807
      case neg => rw [if_neg c6] at h; cases h
      rw [if_pos c6] at h
      have c6A := Aside0.mk c6
      clear c6
      obtain ⟨t, ht⟩ : ∃ t, t = itoaB_ a0_5 := ⟨_, rfl⟩
      rw [← ht] at h
      have NT := Aside0.mk ht
      clear ht
      by_cases c7 : 1 + t.size ≤ 9223372036854775807
      case neg => rw [if_neg c7] at h; cases h
      rw [if_pos c7] at h
      have c7b0 := eq_true c7
      have c7b1 : decide (1 + t.size ≤ 9223372036854775807) = true := decide_eq_true c7
      try have c7b2 : (9223372036854775807 < 1 + t.size) = False := eq_false (Nat.not_lt.2 c7)
      by_cases c8 : o.size + ((⟨#[32]⟩ : ByteArray) ++ t).size ≤ 9223372036854775807
      case neg => rw [if_neg c8] at h; cases h
      rw [if_pos c8] at h
      have c8b0 := eq_true c8
      have c8b1 : decide (o.size + ((⟨#[32]⟩ : ByteArray) ++ t).size ≤ 9223372036854775807) = true := decide_eq_true c8
      try have c8b2 : (9223372036854775807 < o.size + ((⟨#[32]⟩ : ByteArray) ++ t).size) = False := eq_false (Nat.not_lt.2 c8)
      have H' := Aside0.mk h
      clear h
      go_wp2_with (first | (go_at_call 36; (with_reducible refine (impl_fields.calls k a0_0 z _ G0.out).mono ?_); rintro e w' ⟨rfl, ⟨nd, rfl⟩⟩) | (go_at_call 38; (with_reducible refine (impl_Step_field.callsj gs (bt z x) 5 hj _).mono ?_); rintro e w' ⟨rfl, ⟨nd, rfl⟩⟩) | (go_at_call 41; (with_reducible refine (strconv_Itoa_.calls a0_5 c5A.out c6A.out _ (HT.out _ (by repeat (first | (with_reducible first | exact HB.out | apply below_alloc | apply pw_below_drewN | apply below_drew1 | refine below_set ?_ GS.out) | exact HB.out)))).mono ?_); rintro e w7 ⟨rfl, hb⟩; (rw [show (⟨(Lib.itoa a0_5).toArray⟩ : ByteArray) = t from NT.out.symm]); have n1_ := Aside0.mk (blk_below (g := gs) (o := .cells #[.int .i64 a0_0, .int .i64 a0_1, .int .i64 a0_2, .int .i64 a0_3, .int .i64 a0_4, .int .i64 a0_5] 31 (0, 0)) (by (with_reducible repeat (first | refine blk_drewN ?_ _ | refine blk_drew ?_ | refine blk_alloc ?_ _)); exact BS.out) hb); have n2_ := Aside0.mk (below_step (by repeat (first | (with_reducible first | exact HB.out | apply below_alloc | apply pw_below_drewN | apply below_drew1 | refine below_set ?_ GS.out) | exact HB.out)) hb); clear BS HB; clear hcgs0 hfgs0 hcgs1 hfgs1 hcgs2 hfgs2 hcgs3 hfgs3 hcgs4 hfgs4 hcgs5 hfgs5; have BS := n1_; have HB := n2_; clear n1_ n2_ hb; have hcgs0 : w7.cell? ⟨gs, 0, none⟩ = some (.int .i64 a0_0) := (blk_cell BS.out 0).trans rfl; have hcgs1 : w7.cell? ⟨gs, 1, none⟩ = some (.int .i64 a0_1) := (blk_cell BS.out 1).trans rfl; have hcgs2 : w7.cell? ⟨gs, 2, none⟩ = some (.int .i64 a0_2) := (blk_cell BS.out 2).trans rfl; have hcgs3 : w7.cell? ⟨gs, 3, none⟩ = some (.int .i64 a0_3) := (blk_cell BS.out 3).trans rfl; have hcgs4 : w7.cell? ⟨gs, 4, none⟩ = some (.int .i64 a0_4) := (blk_cell BS.out 4).trans rfl; have hcgs5 : w7.cell? ⟨gs, 5, none⟩ = some (.int .i64 a0_5) := (blk_cell BS.out 5).trans rfl; have hfgs0 := blk_frozen BS.out 0; have hfgs1 := blk_frozen BS.out 1; have hfgs2 := blk_frozen BS.out 2; have hfgs3 := blk_frozen BS.out 3; have hfgs4 := blk_frozen BS.out 4; have hfgs5 := blk_frozen BS.out 5))
      go_roundg k1
      case measure => have := HK1.out; omega
      case rel => exact ⟨wrap64 (x + 1), _, rfl, (by first | rfl | (simp; done) | (simp [*]; done)), H', ⟨by have := HK1.out; omega⟩, ⟨by (with_reducible repeat (first | refine blk_drewN ?_ _ | refine blk_drew ?_ | refine blk_alloc ?_ _)); exact BS.out⟩, ⟨by repeat (first | (with_reducible first | exact HB.out | apply below_alloc | apply pw_below_drewN | apply below_drew1 | refine below_set ?_ GS.out) | exact HB.out)⟩⟩
    ·rw [if_neg c4] at h
     cases h
   ·have c3b : decide (x < (z.size : Int)) = false := decide_eq_false c3
    rw [if_neg c3] at h
    have h' : o = r := by simpa using h
    subst h'
    clear h
    go_wp2
    go_ret
    exact ⟨by first | rfl | (simp; done) | (simp [*]; done), by repeat (first | (with_reducible first | exact HB.out | apply below_alloc | apply pw_below_drewN | apply below_drew1 | refine below_set ?_ GS.out) | exact HB.out)⟩
def impl_StepText.f (k : Nat) (a0_0 : Int) (a0_1 : Int) (a0_2 : Int) (a0_3 : Int) (a0_4 : Int) (a0_5 : Int) : Option (ByteArray × Bool) := (impl_Step_valid.f k a0_0 a0_1 a0_2 a0_3 a0_4 a0_5).bind fun t341 => (if t341 = true then ((impl_Step_text.f k a0_0 a0_1 a0_2 a0_3 a0_4 a0_5).bind fun t342 => (some (t342, true))) else (some ((⟨#[]⟩ : ByteArray), false)))
theorem impl_StepText.mono : ∀ a0 a1 a2 a3 a4 a5 k, LeO (impl_StepText.f k a0 a1 a2 a3 a4 a5) (impl_StepText.f (k + 1) a0 a1 a2 a3 a4 a5) := by
 intro a0 a1 a2 a3 a4 a5 k
 unfold impl_StepText.f
 repeat' first
   | (with_reducible exact impl_Step_text.mono _ _ _ _ _ _ _)
   | (with_reducible exact impl_Step_valid.mono _ _ _ _ _ _ _)
   | (with_reducible exact LeO.refl _)
   | (with_reducible exact LeO.none _)
   | (with_reducible refine LeO.ite ?_ ?_)
   | (with_reducible refine LeO.bind ?_ (fun _ => ?_))
   | exact impl_Step_text.mono _ _ _ _ _ _ _
   | exact impl_Step_valid.mono _ _ _ _ _ _ _
   | exact LeO.none _
   | refine LeO.ite ?_ ?_
   | refine LeO.bind ?_ (fun _ => ?_)
set_option maxHeartbeats 8000000 in
set_option maxRecDepth 100000 in
theorem impl_StepText.calls (k : Nat) (a0_0 : Int) (a0_1 : Int) (a0_2 : Int) (a0_3 : Int) (a0_4 : Int) (a0_5 : Int) (r1 : ByteArray) (r2 : Bool) (w : World) (h : impl_StepText.f k a0_0 a0_1 a0_2 a0_3 a0_4 a0_5 = some (r1, r2)) (htab : TabP_ w) :
  Calls Tryd.prog 11 #[.agg #[.int .i64 a0_0, .int .i64 a0_1, .int .i64 a0_2, .int .i64 a0_3, .int .i64 a0_4, .int .i64 a0_5]] w fun e w' => e = .returned (.tuple #[.string r1, .bool r2]) ∧ Below w.heap.size w w' := by
 have HT : Aside0 (∀ w' : World, Below w.heap.size w w' → TabP_ w') := ⟨Lib.tabBelow_of_tabIs htab⟩
 clear htab
 have hu31 := Tryd.underlying31
 have HB := Aside0.mk (Below.refl w.heap.size w)
 have H : ((impl_Step_valid.f k a0_0 a0_1 a0_2 a0_3 a0_4 a0_5).bind fun t341 => (if t341 = true then ((impl_Step_text.f k a0_0 a0_1 a0_2 a0_3 a0_4 a0_5).bind fun t342 => (some (t342, true))) else (some ((⟨#[]⟩ : ByteArray), false)))) = some (r1, r2) := h
 clear h
 replace H := Option.bind_eq_some_iff.mp H
 obtain ⟨t341, A20, H⟩ := H
 (try dsimp only at H)
 have A2 := Aside0.mk A20
 clear A20
 by_cases c3 : t341 = true
 ·subst c3
  have H1 : ((impl_Step_text.f k a0_0 a0_1 a0_2 a0_3 a0_4 a0_5).bind fun t342 => (some (t342, true))) = some (r1, r2) := by rw [if_pos rfl] at H; exact H
  clear H
  have H := H1
  clear H1
  replace H := Option.bind_eq_some_iff.mp H
  obtain ⟨t342, A40, H⟩ := H
  (try dsimp only at H)
  have A4 := Aside0.mk A40
  clear A40
  simp only [Option.some.injEq, Prod.mk.injEq] at H
  obtain ⟨rfl, rfl⟩ := H
  go_enter Tryd.func11, Tryd.ntmps11
  go_wp2_with (first | ((with_reducible refine gate_dst (N := 1) rfl ?_); refine box_event ?hg (N := 1) ?hd (cs := #[.int .i64 a0_0, .int .i64 a0_1, .int .i64 a0_2, .int .i64 a0_3, .int .i64 a0_4, .int .i64 a0_5]) (t := 31) ?hr ?_; (case hd => rfl); (case hg => rfl); (case hr => first | (go_simp; done) | (go_simp; rfl)); intro gb340 hg w5 hbox hb; have n0_ := Aside0.mk (below_step (zb_ HB.out) hb); have n1_ := Aside0.mk (hbox); have n2_ := Aside0.mk ((by rw [hg]; exact (below_size (zb_ HB.out)) : w.heap.size ≤ gb340)); have n3_ := Aside0.mk ((by rw [hg]; exact (below_size (zb_ HB.out)) : w.heap.size ≤ gb340)); clear HB; have HB := n0_; have BK340 := n1_; have GW340 := n2_; have GE340 := n3_; clear n0_ n1_ n2_ n3_; clear hb hbox hg; have hcz6_0 : w5.cell? ⟨gb340, 0, none⟩ = some (.int .i64 a0_0) := (blk_cell BK340.out 0).trans rfl; have hcz6_1 : w5.cell? ⟨gb340, 1, none⟩ = some (.int .i64 a0_1) := (blk_cell BK340.out 1).trans rfl; have hcz6_2 : w5.cell? ⟨gb340, 2, none⟩ = some (.int .i64 a0_2) := (blk_cell BK340.out 2).trans rfl; have hcz6_3 : w5.cell? ⟨gb340, 3, none⟩ = some (.int .i64 a0_3) := (blk_cell BK340.out 3).trans rfl; have hcz6_4 : w5.cell? ⟨gb340, 4, none⟩ = some (.int .i64 a0_4) := (blk_cell BK340.out 4).trans rfl; have hcz6_5 : w5.cell? ⟨gb340, 5, none⟩ = some (.int .i64 a0_5) := (blk_cell BK340.out 5).trans rfl; have hfz6_0 := blk_frozen BK340.out 0; have hfz6_1 := blk_frozen BK340.out 1; have hfz6_2 := blk_frozen BK340.out 2; have hfz6_3 := blk_frozen BK340.out 3; have hfz6_4 := blk_frozen BK340.out 4; have hfz6_5 := blk_frozen BK340.out 5) | ((with_reducible refine gate_callee (f := 23) rfl ?_); refine goesL_ (some 5) rfl rfl Tryd.func23 (by kernel_rfl) rfl #[.agg #[.int .i64 a0_0, .int .i64 a0_1, .int .i64 a0_2, .int .i64 a0_3, .int .i64 a0_4, .int .i64 a0_5]] rfl (by simp only [zA_, zB_, zD_] <;> rfl) ?_; (with_reducible refine (impl_Step_valid.calls k a0_0 a0_1 a0_2 a0_3 a0_4 a0_5 true _ A2.out).mono ?_); rintro e w7 ⟨rfl, hb⟩; refine ⟨_, rfl, ?_⟩; have n0_ := Aside0.mk (blk_below (g := gb340) (o := .cells #[.int .i64 a0_0, .int .i64 a0_1, .int .i64 a0_2, .int .i64 a0_3, .int .i64 a0_4, .int .i64 a0_5] 31 (0, 0)) (by (with_reducible repeat (first | refine blk_drewN ?_ _ | refine blk_drew ?_ | refine blk_alloc ?_ _)); exact BK340.out) hb); have n1_ := Aside0.mk (below_step (by repeat (first | (with_reducible first | exact HB.out | apply below_alloc | apply pw_below_drewN | apply below_drew1 | refine below_set ?_ GE340.out) | exact HB.out)) hb); clear BK340; clear HB; have BK340 := n0_; have HB := n1_; clear n0_ n1_; (try clear hb); (try clear hb2); (try clear hk); (try clear hi); have hcz8_0 : w7.cell? ⟨gb340, 0, none⟩ = some (.int .i64 a0_0) := (blk_cell BK340.out 0).trans rfl; have hcz8_1 : w7.cell? ⟨gb340, 1, none⟩ = some (.int .i64 a0_1) := (blk_cell BK340.out 1).trans rfl; have hcz8_2 : w7.cell? ⟨gb340, 2, none⟩ = some (.int .i64 a0_2) := (blk_cell BK340.out 2).trans rfl; have hcz8_3 : w7.cell? ⟨gb340, 3, none⟩ = some (.int .i64 a0_3) := (blk_cell BK340.out 3).trans rfl; have hcz8_4 : w7.cell? ⟨gb340, 4, none⟩ = some (.int .i64 a0_4) := (blk_cell BK340.out 4).trans rfl; have hcz8_5 : w7.cell? ⟨gb340, 5, none⟩ = some (.int .i64 a0_5) := (blk_cell BK340.out 5).trans rfl; have hfz8_0 := blk_frozen BK340.out 0; have hfz8_1 := blk_frozen BK340.out 1; have hfz8_2 := blk_frozen BK340.out 2; have hfz8_3 := blk_frozen BK340.out 3; have hfz8_4 := blk_frozen BK340.out 4; have hfz8_5 := blk_frozen BK340.out 5) | ((with_reducible refine gate_callee (f := 27) rfl ?_); refine goesL_ (some 8) rfl rfl Tryd.func27 (by kernel_rfl) rfl #[.agg #[.int .i64 a0_0, .int .i64 a0_1, .int .i64 a0_2, .int .i64 a0_3, .int .i64 a0_4, .int .i64 a0_5]] rfl (by simp only [zA_, zB_, zD_] <;> rfl) ?_; (with_reducible refine (impl_Step_text.calls k a0_0 a0_1 a0_2 a0_3 a0_4 a0_5 t342 _ A4.out (HT.out _ (by repeat (first | (with_reducible first | exact HB.out | apply below_alloc | apply pw_below_drewN | apply below_drew1 | (refine below_set ?_ _; assumption)) | exact HB.out)))).mono ?_); rintro e w9 ⟨rfl, hb⟩; refine ⟨_, rfl, ?_⟩; have n0_ := Aside0.mk (blk_below (g := gb340) (o := .cells #[.int .i64 a0_0, .int .i64 a0_1, .int .i64 a0_2, .int .i64 a0_3, .int .i64 a0_4, .int .i64 a0_5] 31 (0, 0)) (by (with_reducible repeat (first | refine blk_drewN ?_ _ | refine blk_drew ?_ | refine blk_alloc ?_ _)); exact BK340.out) hb); have n1_ := Aside0.mk (below_step (by repeat (first | (with_reducible first | exact HB.out | apply below_alloc | apply pw_below_drewN | apply below_drew1 | refine below_set ?_ GE340.out) | exact HB.out)) hb); clear BK340; clear HB; have BK340 := n0_; have HB := n1_; clear n0_ n1_; (try clear hb); (try clear hb2); (try clear hk); (try clear hi)))
  go_ret2
  exact ⟨by first | rfl | (simp [errW_none, errW_some] <;> rfl) | (simp [*, errW_none, errW_some] <;> rfl), by repeat (first | (with_reducible first | exact HB.out | apply below_alloc | apply pw_below_drewN | apply below_drew1 | refine below_set ?_ GE340.out) | exact HB.out)⟩
 ·replace c3 := Bool.eq_false_iff.mpr c3
  subst c3
  have H1 : (some ((⟨#[]⟩ : ByteArray), false)) = some (r1, r2) := by rw [if_neg (show ¬ (false = true) by decide)] at H; exact H
  clear H
  have H := H1
  clear H1
  simp only [Option.some.injEq, Prod.mk.injEq] at H
  obtain ⟨rfl, rfl⟩ := H
  go_enter Tryd.func11, Tryd.ntmps11
  go_wp2_with (first | ((with_reducible refine gate_dst (N := 1) rfl ?_); refine box_event ?hg (N := 1) ?hd (cs := #[.int .i64 a0_0, .int .i64 a0_1, .int .i64 a0_2, .int .i64 a0_3, .int .i64 a0_4, .int .i64 a0_5]) (t := 31) ?hr ?_; (case hd => rfl); (case hg => rfl); (case hr => first | (go_simp; done) | (go_simp; rfl)); intro gb340 hg w10 hbox hb; have n0_ := Aside0.mk (below_step (zb_ HB.out) hb); have n1_ := Aside0.mk (hbox); have n2_ := Aside0.mk ((by rw [hg]; exact (below_size (zb_ HB.out)) : w.heap.size ≤ gb340)); have n3_ := Aside0.mk ((by rw [hg]; exact (below_size (zb_ HB.out)) : w.heap.size ≤ gb340)); clear HB; have HB := n0_; have BK340 := n1_; have GW340 := n2_; have GE340 := n3_; clear n0_ n1_ n2_ n3_; clear hb hbox hg; have hcz11_0 : w10.cell? ⟨gb340, 0, none⟩ = some (.int .i64 a0_0) := (blk_cell BK340.out 0).trans rfl; have hcz11_1 : w10.cell? ⟨gb340, 1, none⟩ = some (.int .i64 a0_1) := (blk_cell BK340.out 1).trans rfl; have hcz11_2 : w10.cell? ⟨gb340, 2, none⟩ = some (.int .i64 a0_2) := (blk_cell BK340.out 2).trans rfl; have hcz11_3 : w10.cell? ⟨gb340, 3, none⟩ = some (.int .i64 a0_3) := (blk_cell BK340.out 3).trans rfl; have hcz11_4 : w10.cell? ⟨gb340, 4, none⟩ = some (.int .i64 a0_4) := (blk_cell BK340.out 4).trans rfl; have hcz11_5 : w10.cell? ⟨gb340, 5, none⟩ = some (.int .i64 a0_5) := (blk_cell BK340.out 5).trans rfl; have hfz11_0 := blk_frozen BK340.out 0; have hfz11_1 := blk_frozen BK340.out 1; have hfz11_2 := blk_frozen BK340.out 2; have hfz11_3 := blk_frozen BK340.out 3; have hfz11_4 := blk_frozen BK340.out 4; have hfz11_5 := blk_frozen BK340.out 5) | ((with_reducible refine gate_callee (f := 23) rfl ?_); refine goesL_ (some 5) rfl rfl Tryd.func23 (by kernel_rfl) rfl #[.agg #[.int .i64 a0_0, .int .i64 a0_1, .int .i64 a0_2, .int .i64 a0_3, .int .i64 a0_4, .int .i64 a0_5]] rfl (by simp only [zA_, zB_, zD_] <;> rfl) ?_; (with_reducible refine (impl_Step_valid.calls k a0_0 a0_1 a0_2 a0_3 a0_4 a0_5 false _ A2.out).mono ?_); rintro e w12 ⟨rfl, hb⟩; refine ⟨_, rfl, ?_⟩; have n0_ := Aside0.mk (blk_below (g := gb340) (o := .cells #[.int .i64 a0_0, .int .i64 a0_1, .int .i64 a0_2, .int .i64 a0_3, .int .i64 a0_4, .int .i64 a0_5] 31 (0, 0)) (by (with_reducible repeat (first | refine blk_drewN ?_ _ | refine blk_drew ?_ | refine blk_alloc ?_ _)); exact BK340.out) hb); have n1_ := Aside0.mk (below_step (by repeat (first | (with_reducible first | exact HB.out | apply below_alloc | apply pw_below_drewN | apply below_drew1 | refine below_set ?_ GE340.out) | exact HB.out)) hb); clear BK340; clear HB; have BK340 := n0_; have HB := n1_; clear n0_ n1_; (try clear hb); (try clear hb2); (try clear hk); (try clear hi)))
  go_ret2
  exact ⟨by first | rfl | (simp [errW_none, errW_some] <;> rfl) | (simp [*, errW_none, errW_some] <;> rfl), by repeat (first | (with_reducible first | exact HB.out | apply below_alloc | apply pw_below_drewN | apply below_drew1 | refine below_set ?_ GE340.out) | exact HB.out)⟩
def spec_l1Num.f : Nat → Int → Option (ByteArray)
 | 0, _ => none
 | k + 1, a0 => if a0 < 10 then (some (strOfNums (([(wrap64 (48 + a0)) % 256] : List Int)))) else ((spec_l1Num.f k (wrap64 (Int.tdiv a0 10))).bind fun t346 => ((some (([(wrap64 (48 + (Int.tmod a0 10))) % 256] : List Int) : List Int)).bind fun y347 => (if t346.size + (strOfNums y347).size ≤ 9223372036854775807 then (some (t346 ++ (strOfNums y347))) else (none))))
theorem spec_l1Num.mono_l : ∀ k, (∀ y0, LeO (spec_l1Num.f k y0) (spec_l1Num.f (k + 1) y0))
 | 0 => fun _ r h => by simp [spec_l1Num.f] at h
 | k + 1 => by
  have ih0 := spec_l1Num.mono_l k
  ·intro y0
   unfold spec_l1Num.f
   repeat' first
   | (with_reducible exact ih0 _)
   | (with_reducible exact LeO.refl _)
   | (with_reducible exact LeO.none _)
   | (with_reducible refine LeO.ite ?_ ?_)
   | (with_reducible refine LeO.bind ?_ (fun _ => ?_))
   | exact ih0 _
   | exact LeO.none _
   | refine LeO.ite ?_ ?_
   | refine LeO.bind ?_ (fun _ => ?_)
theorem spec_l1Num.mono : ∀ a0 k, LeO (spec_l1Num.f k a0) (spec_l1Num.f (k + 1) a0) := by
 intro a0 k
 have ih0 := spec_l1Num.mono_l k
 exact ih0 a0
def spec_l1Num.T3 : Bool × List (List Nat × List Nat) := (true, [([], []), ([0], [0]), ([1], [1]), ([], []), ([3], [3]), ([4], [4]), ([5], [5]), ([6], [6]), ([7], [7]), ([2, 8], [2, 8]), ([9, 2, 0, 1, 2, 3, 4, 5, 6, 7, 8, 9], [9])])
def spec_l1Num.B3 : List Nat := [0, 1, 3, 0, 8, 24, 56, 120, 248, 511, 1023]
theorem spec_l1Num.tab3 : rtab .any (opsOf Tryd.f28 3) = spec_l1Num.T3 := by kernel_rfl
theorem spec_l1Num.bits3 : waitsOk spec_l1Num.T3.2 spec_l1Num.B3 = true := by kernel_rfl
set_option maxHeartbeats 8000000 in
set_option maxRecDepth 100000 in
theorem spec_l1Num.calls (k : Nat) : ∀ (a0 : Int) (r : ByteArray) (w : World) (h : spec_l1Num.f k a0 = some r),
  Calls Tryd.prog 28 #[.int .i64 a0] w fun e w' => e = .returned (.string r) ∧ Below w.heap.size w w' := by
 induction k using Nat.strongRecOn with
 | _ k ih =>
 intro a0 r w h
 cases k with
 | zero => exact absurd h (by simp [spec_l1Num.f])
 | succ k =>
 simp only [spec_l1Num.f] at h
 have HB := Aside0.mk (Below.refl w.heap.size w)
 have H : (if a0 < 10 then (some (strOfNums (([(wrap64 (48 + a0)) % 256] : List Int)))) else ((spec_l1Num.f k (wrap64 (Int.tdiv a0 10))).bind fun t346 => ((some (([(wrap64 (48 + (Int.tmod a0 10))) % 256] : List Int) : List Int)).bind fun y347 => (if t346.size + (strOfNums y347).size ≤ 9223372036854775807 then (some (t346 ++ (strOfNums y347))) else (none))))) = some r := h
 clear h
 by_cases c2 : a0 < 10
 ·rw [if_pos c2] at H
  have c2b0 : decide (a0 < 10) = true := decide_eq_true c2
  clear c2
  obtain ⟨y343, hy343⟩ : ∃ y_ : List Int, y_ = (([(wrap64 (48 + a0)) % 256] : List Int)) := ⟨_, rfl⟩
  replace H : (some (strOfNums y343)) = some r := by first | (rw [hy343]; with_reducible exact H) | (have H2_ := (Option.bind_some _ _).symm.trans H; rw [hy343]; with_reducible exact H2_) | (have H2_ := (Option.bind_some _ _).symm.trans H; with_reducible exact H2_) | with_reducible exact H | (rw [hy343]; exact H) | exact H
  have Ny343 := Aside0.mk hy343
  clear hy343
  obtain rfl := Option.some.inj H
  go_enter Tryd.func28, Tryd.ntmps28
  go_wp2_with (first | ((with_reducible refine gate_dst (N := 8) rfl ?_); refine Kd.R_lit (Kd.int .u8) _ 5 ?hg (N := 8) ?hd (xs := ([(wrap64 (48 + a0)) % 256] : List Int)) (inner := [.int .u8 ((wrap64 (48 + a0)) % 256)]) (ok := fun _ => True) (okp := fun _ => True) ?hr ?hp (fun _ hk => hk) trivial (Below.refl _ _) (Nat.le_refl _) (by simp) ?_; (case hd => rfl); (case hg => rfl); (case hr => first | (go_simp; done) | (go_simp; rfl)); (case hp => exact (Reps.one (show Kd.M (Kd.int .u8) _ _ _ ((wrap64 (48 + a0)) % 256) [.int .u8 ((wrap64 (48 + a0)) % 256)] from rfl) (Reps.none _ _))); intro v344 w3 ho4 hb hg_ hnew_; clear hg_ hnew_; (first | rw [← Ny343.out] at ho4 | (simp only [Int.reduceToNat] at ho4; rw [← Ny343.out] at ho4)); have n0_ := Aside0.mk (Kd.R_lower ho4 (below_size (zb_ HB.out))); have n1_ := Aside0.mk (below_step (zb_ HB.out) hb); clear HB; have HO345 := n0_; have HB := n1_; clear n0_ n1_; clear hb ho4; have hcv5 := own_string (P := Tryd.prog) Tryd.underlying22 Tryd.underlying5 Tryd.underlying9 (Kd.own_of_R HO345.out)))
  go_ret
  exact ⟨by first | rfl | (simp [errW_none, errW_some] <;> rfl) | (simp [*, errW_none, errW_some] <;> rfl), zb_ HB.out⟩
 ·rw [if_neg c2] at H
  have c2b0 : decide (a0 < 10) = false := decide_eq_false c2
  clear c2
  replace H := Option.bind_eq_some_iff.mp H
  obtain ⟨t346, A60, H⟩ := H
  (try dsimp only at H)
  have A6 := Aside0.mk A60
  clear A60
  obtain ⟨y347, hy347⟩ : ∃ y_ : List Int, y_ = (([(wrap64 (48 + (Int.tmod a0 10))) % 256] : List Int)) := ⟨_, rfl⟩
  replace H : (if t346.size + (strOfNums y347).size ≤ 9223372036854775807 then (some (t346 ++ (strOfNums y347))) else (none)) = some r := by first | (rw [hy347]; with_reducible exact H) | (have H2_ := (Option.bind_some _ _).symm.trans H; rw [hy347]; with_reducible exact H2_) | (have H2_ := (Option.bind_some _ _).symm.trans H; with_reducible exact H2_) | with_reducible exact H | (rw [hy347]; exact H) | exact H
  have Ny347 := Aside0.mk hy347
  clear hy347
  by_cases c7 : t346.size + (strOfNums y347).size ≤ 9223372036854775807
  ·rw [if_pos c7] at H
   have c7b0 := eq_true c7
   have c7b1 : decide (t346.size + (strOfNums y347).size ≤ 9223372036854775807) = true := decide_eq_true c7
   try have c7b2 : (9223372036854775807 < t346.size + (strOfNums y347).size) = False := eq_false (Nat.not_lt.2 c7)
   obtain rfl := Option.some.inj H
   go_enter Tryd.func28, Tryd.ntmps28
   try go_wp2
   have n0_ := Aside0.mk (below_drew1 HB.out)
   clear HB
   have HB := n0_
   clear n0_
   refine start_ (n := 11) (S := fun w' => True) (ds := []) #[false, false, false, false, false, false, false, false, false, false, false] (by kernel_rfl) rfl rfl trivial (fun hHeld => ?_); refine with_tabW spec_l1Num.tab3 spec_l1Num.bits3 (fun HT_ HW_ => ?_)
   generalize w.drew = w8 at HB hHeld ⊢
   refine pure_ (i := 0) (N := some 10) (v := ?_) (a' := ?_) #[true, false, false, false, false, false, false, false, false, false, false] rfl rfl (any_of HT_.out (by kernel_rfl)) (fun _ _ _ h => h) (Or.inl ⟨by rfl, ?_⟩) ?_ ?_
   rotate_left
   ·intro w'
    go_simp
    with_reducible rfl
   rotate_left
   ·simp only [Act.put, List.setIfInBounds_toArray, List.set_cons_zero, List.set_cons_succ, i64_w, i32_w]
    rfl
   refine pure_ (i := 1) (N := some 11) (v := ?_) (a' := ?_) #[true, true, false, false, false, false, false, false, false, false, false] rfl rfl (any_of HT_.out (by kernel_rfl)) (fun _ _ _ h => h) (Or.inl ⟨by rfl, ?_⟩) ?_ ?_
   rotate_left
   ·intro w'
    go_simp
    with_reducible rfl
   rotate_left
   ·simp only [Act.put, List.setIfInBounds_toArray, List.set_cons_zero, List.set_cons_succ, i64_w, i32_w]
    rfl
   refine pure_ (i := 3) (N := some 13) (v := ?_) (a' := ?_) #[true, true, false, true, false, false, false, false, false, false, false] rfl rfl (any_of HT_.out (by kernel_rfl)) (fun _ _ _ h => h) (Or.inl ⟨by rfl, ?_⟩) ?_ ?_
   rotate_left
   ·intro w'
    go_simp
    with_reducible rfl
   rotate_left
   ·simp only [Act.put, List.setIfInBounds_toArray, List.set_cons_zero, List.set_cons_succ, i64_w, i32_w]
    rfl
   refine pure_ (i := 4) (N := some 14) (v := ?_) (a' := ?_) #[true, true, false, true, true, false, false, false, false, false, false] rfl rfl (any_of HT_.out (by kernel_rfl)) (fun _ _ _ h => h) (Or.inl ⟨by rfl, ?_⟩) ?_ ?_
   rotate_left
   ·intro w'
    go_simp
    with_reducible rfl
   rotate_left
   ·simp only [Act.put, List.setIfInBounds_toArray, List.set_cons_zero, List.set_cons_succ, i64_w, i32_w]
    rfl
   refine pure_ (i := 5) (N := some 15) (v := ?_) (a' := ?_) #[true, true, false, true, true, true, false, false, false, false, false] rfl rfl (any_of HT_.out (by kernel_rfl)) (fun _ _ _ h => h) (Or.inl ⟨by rfl, ?_⟩) ?_ ?_
   rotate_left
   ·intro w'
    go_simp
    with_reducible rfl
   rotate_left
   ·simp only [Act.put, List.setIfInBounds_toArray, List.set_cons_zero, List.set_cons_succ, i64_w, i32_w]
    rfl
   refine pure_ (i := 6) (N := some 16) (v := ?_) (a' := ?_) #[true, true, false, true, true, true, true, false, false, false, false] rfl rfl (any_of HT_.out (by kernel_rfl)) (fun _ _ _ h => h) (Or.inl ⟨by rfl, ?_⟩) ?_ ?_
   rotate_left
   ·intro w'
    go_simp
    with_reducible rfl
   rotate_left
   ·simp only [Act.put, List.setIfInBounds_toArray, List.set_cons_zero, List.set_cons_succ, i64_w, i32_w]
    rfl
   refine join_ (σ := Value) 2 #[true, true, true, true, true, true, true, true, true, false, false] (fun s_ => [(12, .string t346), (17, s_), (18, .string (strOfNums y347))]) (fun s_ w' => (Kd.R (Kd.int .u8) 5 w' w.heap.size (fun _ => True) s_ y347) ∧ (Below w.heap.size w w')) ?_ ?_
   rotate_left
   ·intro hCont
    refine two_ (i := 2) (j := 7) (Ni := some 12) (Nj := some 17) #[true, true, true, true, true, true, true, false, false, false, false] #[true, true, false, true, true, true, true, true, false, false, false] rfl rfl rfl rfl (two_of HT_.out (by kernel_rfl)) (by decide) (by decide) (fun K hK => ?_) (fun K hK => ?_)
    ·skip
     refine goes_ Tryd.func28 (by kernel_rfl) rfl #[.int .i64 (wrap64 (Int.tdiv a0 10))] (by rfl) rfl rfl (by simp only [zA_, zB_, zD_] <;> rfl) ?_
     with_reducible refine (ih k (by omega) (wrap64 (Int.tdiv a0 10)) t346 _ A6.out).mono ?_
     rintro e w9 ⟨rfl, hb⟩
     refine ⟨_, rfl, ?_⟩
     have n0_ := Aside0.mk (below_step (zb_ HB.out) hb)
     clear HB
     have HB := n0_
     clear n0_
     (try clear hb)
     (try clear hb2)
     (try clear hk)
     (try clear hi)
     refine hK.out _ _ trivial (fun hHeld => ?_)
     clear hK K
     refine norm_ (a' := ?_) ?_ ?_
     rotate_left
     ·show Act.put _ (some 12) _ = _
      simp only [Act.put, List.setIfInBounds_toArray, List.set_cons_zero, List.set_cons_succ, i64_w, i32_w]
      rfl
     refine one_ (i := 7) (N := some 17) #[true, true, true, true, true, true, true, true, false, false, false] rfl rfl (one_of HT_.out (by kernel_rfl)) (by decide) (fun K hK => ?_)
     refine Kd.R_lit_step (Kd.int .u8) _ 5 ?hg (N := 17) ?hd (xs := ([(wrap64 (48 + (Int.tmod a0 10))) % 256] : List Int)) (inner := [.int .u8 ((wrap64 (48 + (Int.tmod a0 10))) % 256)]) (ok := fun _ => True) (okp := fun _ => True) ?hr ?hp (fun _ hk => hk) trivial (Below.refl _ _) (Nat.le_refl _) (by simp) ?_; (case hd => rfl); (case hg => rfl); (case hr => first | (go_simp; done) | (go_simp; rfl)); (case hp => exact (Reps.one (show Kd.M (Kd.int .u8) _ _ _ ((wrap64 (48 + (Int.tmod a0 10))) % 256) [.int .u8 ((wrap64 (48 + (Int.tmod a0 10))) % 256)] from rfl) (Reps.none _ _)))
     intro v348 w10 ho11 hb hg_ hnew_
     clear hg_ hnew_
     (first | rw [← Ny347.out] at ho11 | (simp only [Int.reduceToNat] at ho11; rw [← Ny347.out] at ho11))
     have n0_ := Aside0.mk (Kd.R_lower ho11 (below_size (zb_ HB.out)))
     have n1_ := Aside0.mk (below_step (zb_ HB.out) hb)
     clear HB
     have HO349 := n0_
     have HB := n1_
     clear n0_ n1_
     clear hb ho11
     refine hK.out _ _ trivial (fun hHeld => ?_)
     clear hK K
     refine norm_ (a' := ?_) ?_ ?_
     rotate_left
     ·show Act.put _ (some 17) _ = _
      simp only [Act.put, List.setIfInBounds_toArray, List.set_cons_zero, List.set_cons_succ, i64_w, i32_w]
      rfl
     refine one_ (i := 8) (N := some 18) #[true, true, true, true, true, true, true, true, true, false, false] rfl rfl (one_of HT_.out (by kernel_rfl)) (by decide) (fun K hK => ?_)
     have hcv12 := own_string (P := Tryd.prog) Tryd.underlying22 Tryd.underlying5 Tryd.underlying9 (Kd.own_of_R HO349.out)
     refine value_ (w1 := ?_) (v := ?_) (by rfl) rfl ?_ ?_
     rotate_left 2
     ·go_simp
      constructor
      ·rfl
      ·rfl
     clear hcv12
     refine hK.out _ _ trivial (fun hHeld => ?_)
     clear hK K
     refine norm_ (a' := ?_) ?_ ?_
     rotate_left
     ·show Act.put _ (some 18) _ = _
      simp only [Act.put, List.setIfInBounds_toArray, List.set_cons_zero, List.set_cons_succ, i64_w, i32_w]
      rfl
     exact norm_ (by simp only [putAll, Act.put, List.setIfInBounds_toArray, List.set_cons_zero, List.set_cons_succ]) (hCont (v348) _ ⟨(zR_ HO349.out), (zb_ HB.out)⟩)
    ·skip
     refine Kd.R_lit_step (Kd.int .u8) _ 5 ?hg (N := 17) ?hd (xs := ([(wrap64 (48 + (Int.tmod a0 10))) % 256] : List Int)) (inner := [.int .u8 ((wrap64 (48 + (Int.tmod a0 10))) % 256)]) (ok := fun _ => True) (okp := fun _ => True) ?hr ?hp (fun _ hk => hk) trivial (Below.refl _ _) (Nat.le_refl _) (by simp) ?_; (case hd => rfl); (case hg => rfl); (case hr => first | (go_simp; done) | (go_simp; rfl)); (case hp => exact (Reps.one (show Kd.M (Kd.int .u8) _ _ _ ((wrap64 (48 + (Int.tmod a0 10))) % 256) [.int .u8 ((wrap64 (48 + (Int.tmod a0 10))) % 256)] from rfl) (Reps.none _ _)))
     intro v348 w9 ho10 hb hg_ hnew_
     clear hg_ hnew_
     (first | rw [← Ny347.out] at ho10 | (simp only [Int.reduceToNat] at ho10; rw [← Ny347.out] at ho10))
     have n0_ := Aside0.mk (Kd.R_lower ho10 (below_size (zb_ HB.out)))
     have n1_ := Aside0.mk (below_step (zb_ HB.out) hb)
     clear HB
     have HO349 := n0_
     have HB := n1_
     clear n0_ n1_
     clear hb ho10
     refine hK.out _ _ trivial (fun hHeld => ?_)
     clear hK K
     refine norm_ (a' := ?_) ?_ ?_
     rotate_left
     ·show Act.put _ (some 17) _ = _
      simp only [Act.put, List.setIfInBounds_toArray, List.set_cons_zero, List.set_cons_succ, i64_w, i32_w]
      rfl
     refine two_ (i := 2) (j := 8) (Ni := some 12) (Nj := some 18) #[true, true, true, true, true, true, true, true, false, false, false] #[true, true, false, true, true, true, true, true, true, false, false] rfl rfl rfl rfl (two_of HT_.out (by kernel_rfl)) (by decide) (by decide) (fun K hK => ?_) (fun K hK => ?_)
     ·skip
      refine goes_ Tryd.func28 (by kernel_rfl) rfl #[.int .i64 (wrap64 (Int.tdiv a0 10))] (by rfl) rfl rfl (by simp only [zA_, zB_, zD_] <;> rfl) ?_
      with_reducible refine (ih k (by omega) (wrap64 (Int.tdiv a0 10)) t346 _ A6.out).mono ?_
      rintro e w11 ⟨rfl, hb⟩
      refine ⟨_, rfl, ?_⟩
      have n0_ := Aside0.mk (Kd.R_below (zR_ HO349.out) hb)
      have n1_ := Aside0.mk (below_step (zb_ HB.out) hb)
      clear HO349
      clear HB
      have HO349 := n0_
      have HB := n1_
      clear n0_ n1_
      (try clear hb)
      (try clear hb2)
      (try clear hk)
      (try clear hi)
      refine hK.out _ _ trivial (fun hHeld => ?_)
      clear hK K
      refine norm_ (a' := ?_) ?_ ?_
      rotate_left
      ·show Act.put _ (some 12) _ = _
       simp only [Act.put, List.setIfInBounds_toArray, List.set_cons_zero, List.set_cons_succ, i64_w, i32_w]
       rfl
      refine one_ (i := 8) (N := some 18) #[true, true, true, true, true, true, true, true, true, false, false] rfl rfl (one_of HT_.out (by kernel_rfl)) (by decide) (fun K hK => ?_)
      have hcv12 := own_string (P := Tryd.prog) Tryd.underlying22 Tryd.underlying5 Tryd.underlying9 (Kd.own_of_R HO349.out)
      refine value_ (w1 := ?_) (v := ?_) (by rfl) rfl ?_ ?_
      rotate_left 2
      ·go_simp
       constructor
       ·rfl
       ·rfl
      clear hcv12
      refine hK.out _ _ trivial (fun hHeld => ?_)
      clear hK K
      refine norm_ (a' := ?_) ?_ ?_
      rotate_left
      ·show Act.put _ (some 18) _ = _
       simp only [Act.put, List.setIfInBounds_toArray, List.set_cons_zero, List.set_cons_succ, i64_w, i32_w]
       rfl
      exact norm_ (by simp only [putAll, Act.put, List.setIfInBounds_toArray, List.set_cons_zero, List.set_cons_succ]) (hCont (v348) _ ⟨(zR_ HO349.out), (zb_ HB.out)⟩)
     ·skip
      have hcv11 := own_string (P := Tryd.prog) Tryd.underlying22 Tryd.underlying5 Tryd.underlying9 (Kd.own_of_R HO349.out)
      refine value_ (w1 := ?_) (v := ?_) (by rfl) rfl ?_ ?_
      rotate_left 2
      ·go_simp
       constructor
       ·rfl
       ·rfl
      clear hcv11
      refine hK.out _ _ trivial (fun hHeld => ?_)
      clear hK K
      refine norm_ (a' := ?_) ?_ ?_
      rotate_left
      ·show Act.put _ (some 18) _ = _
       simp only [Act.put, List.setIfInBounds_toArray, List.set_cons_zero, List.set_cons_succ, i64_w, i32_w]
       rfl
      refine one_ (i := 2) (N := some 12) #[true, true, true, true, true, true, true, true, true, false, false] rfl rfl (one_of HT_.out (by kernel_rfl)) (by decide) (fun K hK => ?_)
      refine goes_ Tryd.func28 (by kernel_rfl) rfl #[.int .i64 (wrap64 (Int.tdiv a0 10))] (by rfl) rfl rfl (by simp only [zA_, zB_, zD_] <;> rfl) ?_
      with_reducible refine (ih k (by omega) (wrap64 (Int.tdiv a0 10)) t346 _ A6.out).mono ?_
      rintro e w12 ⟨rfl, hb⟩
      refine ⟨_, rfl, ?_⟩
      have n0_ := Aside0.mk (Kd.R_below (zR_ HO349.out) hb)
      have n1_ := Aside0.mk (below_step (zb_ HB.out) hb)
      clear HO349
      clear HB
      have HO349 := n0_
      have HB := n1_
      clear n0_ n1_
      (try clear hb)
      (try clear hb2)
      (try clear hk)
      (try clear hi)
      refine hK.out _ _ trivial (fun hHeld => ?_)
      clear hK K
      refine norm_ (a' := ?_) ?_ ?_
      rotate_left
      ·show Act.put _ (some 12) _ = _
       simp only [Act.put, List.setIfInBounds_toArray, List.set_cons_zero, List.set_cons_succ, i64_w, i32_w]
       rfl
      exact norm_ (by simp only [putAll, Act.put, List.setIfInBounds_toArray, List.set_cons_zero, List.set_cons_succ]) (hCont (v348) _ ⟨(zR_ HO349.out), (zb_ HB.out)⟩)
   rintro v348 w13 ⟨h0_, h1_⟩
   have n0_ : Aside0 (Kd.R (Kd.int .u8) 5 w13 w.heap.size (fun _ => True) v348 y347) := ⟨h0_⟩
   have n1_ : Aside0 (Below w.heap.size w w13) := ⟨h1_⟩
   clear HB
   clear h0_ h1_
   have HO349 := n0_
   have HB := n1_
   clear n0_ n1_
   have hHeld := trivial
   refine norm_ (a' := ?_) ?_ ?_
   rotate_left
   ·simp only [putAll, Act.put, List.setIfInBounds_toArray, List.set_cons_zero, List.set_cons_succ]
    rfl
   refine pure_ (i := 9) (N := some 19) (v := ?_) (a' := ?_) #[true, true, true, true, true, true, true, true, true, true, false] rfl rfl (any_of HT_.out (by kernel_rfl)) (fun _ _ _ h => h) (Or.inl ⟨by rfl, ?_⟩) ?_ ?_
   rotate_left
   ·intro w'
    go_simp
    with_reducible rfl
   rotate_left
   ·simp only [Act.put, List.setIfInBounds_toArray, List.set_cons_zero, List.set_cons_succ, i64_w, i32_w]
    rfl
   refine pure_ (i := 10) (N := some 2) (v := ?_) (a' := ?_) #[true, true, true, true, true, true, true, true, true, true, true] rfl rfl (any_of HT_.out (by kernel_rfl)) (fun _ _ _ h => h) (Or.inl ⟨by rfl, ?_⟩) ?_ ?_
   rotate_left
   ·intro w'
    go_simp
    with_reducible rfl
   rotate_left
   ·simp only [Act.put, List.setIfInBounds_toArray, List.set_cons_zero, List.set_cons_succ, i64_w, i32_w]
    rfl
   refine done_ (done_of HT_.out (by kernel_rfl)) ?_
   try go_wp2
   go_ret
   exact ⟨by first | rfl | (simp [errW_none, errW_some] <;> rfl) | (simp [*, errW_none, errW_some] <;> rfl), zb_ HB.out⟩
  ·rw [if_neg c7] at H
   exact absurd H (by simp)
end Go.Proofs.YtpkbjgmeejlchaaDoor.PFnNexts
-- squeezed
