-- Made by a program of this session (wip/tools), which leans on the kit's print: checked by Lean alone.
import Derived.Test.YtpkbjgmeejlchabPFnFollowsx0
import Derived.Test.YtpkbjgmeejlchabPFnFollowsx1
import Derived.Test.YtpkbjgmeejlchabPFnFollowsx2
namespace Go.Proofs.Ytpkbjgmeejlchab.PFnFollows
open Go.RowKit Go.Proofs.YtpkbjgmeejlchabW.PrintWords Go.Proofs.YtpkbjgmeejlchabW.PrintLast Go.Proofs.YtpkbjgmeejlchabW.PrintMore
attribute [local go_sem] max2_int min2_int max_two min_two max_three min_three max_four min_four   -- for this text's walks alone
set_option linter.unusedVariables false
set_option linter.unusedSimpArgs false
mutual
def spec_l1Cur_given.j1 : Nat → List Int → List Int → Int → Int → Option (List Int × Int × Int)
 | 0, _, _, _, _ => none
 | k + 1, x5, x1000, x1001, x1002 => (spec_CleanClause.f k x5).bind fun bt183 => (if bt183.2 = true then ((spec_l1Cur_one.f x1000 x1001 x1002 20).bind fun bt187 => (if bt187.1 = true then (some (x5, bt187.2.1, bt187.2.2)) else (some (bt183.1, bt187.2.1, bt187.2.2)))) else (some (x5, x1001, x1002)))
def spec_l1Cur_given.l0 : Nat → Int → List Int → Int → List Int → Int → Int → Option (List Int × Int × Int)
 | 0, _, _, _, _, _, _ => none
 | k + 1, x1, x5, x6, x1000, x1001, x1002 => if x6 > 0 then (if x1 > 0 then ((spec_l1Cur_lit.f x1000 x1001 x1002 x1).bind fun bt177 => (if x5.length < 17592186044416 then (spec_l1Cur_given.l0 k x1 (x5 ++ [bt177.1]) (wrap64 (x6 - 1)) x1000 bt177.2.1 bt177.2.2) else (none))) else (spec_l1Cur_given.j1 k x5 x1000 x1001 x1002)) else (spec_l1Cur_given.j1 k x5 x1000 x1001 x1002)
end
def spec_l1Cur_given.f (k : Nat) (s0_0 : List Int) (s0_1 : Int) (s0_2 : Int) (a1 : Int) : Option (List Int × Int × Int) := (spec_l1Cur_pick.f s0_0 s0_1 s0_2 3).bind fun bt174 => (spec_l1Cur_given.l0 k a1 ([] : List Int) bt174.1 s0_0 bt174.2.1 bt174.2.2)
theorem spec_l1Cur_given.mono_l : ∀ k, (∀ y0 y1 y2 y3, LeO (spec_l1Cur_given.j1 k y0 y1 y2 y3) (spec_l1Cur_given.j1 (k + 1) y0 y1 y2 y3)) ∧ (∀ y0 y1 y2 y3 y4 y5, LeO (spec_l1Cur_given.l0 k y0 y1 y2 y3 y4 y5) (spec_l1Cur_given.l0 (k + 1) y0 y1 y2 y3 y4 y5))
 | 0 => ⟨fun _ _ _ _ r h => by simp [spec_l1Cur_given.j1] at h, fun _ _ _ _ _ _ r h => by simp [spec_l1Cur_given.l0] at h⟩
 | k + 1 => by
  obtain ⟨ih0, ih1⟩ := spec_l1Cur_given.mono_l k
  refine ⟨?_, ?_⟩
  ·intro y0 y1 y2 y3
   unfold spec_l1Cur_given.j1
   repeat' first
   | (with_reducible exact ih0 _ _ _ _)
   | (with_reducible exact ih1 _ _ _ _ _ _)
   | (with_reducible exact spec_CleanClause.mono _ _)
   | (with_reducible exact LeO.refl _)
   | (with_reducible exact LeO.none _)
   | (with_reducible refine LeO.ite ?_ ?_)
   | (with_reducible refine LeO.bind ?_ (fun _ => ?_))
   | exact ih0 _ _ _ _
   | exact ih1 _ _ _ _ _ _
   | exact spec_CleanClause.mono _ _
   | exact LeO.none _
   | refine LeO.ite ?_ ?_
   | refine LeO.bind ?_ (fun _ => ?_)
  ·intro y0 y1 y2 y3 y4 y5
   unfold spec_l1Cur_given.l0
   repeat' first
   | (with_reducible exact ih0 _ _ _ _)
   | (with_reducible exact ih1 _ _ _ _ _ _)
   | (with_reducible exact spec_CleanClause.mono _ _)
   | (with_reducible exact LeO.refl _)
   | (with_reducible exact LeO.none _)
   | (with_reducible refine LeO.ite ?_ ?_)
   | (with_reducible refine LeO.bind ?_ (fun _ => ?_))
   | exact ih0 _ _ _ _
   | exact ih1 _ _ _ _ _ _
   | exact spec_CleanClause.mono _ _
   | exact LeO.none _
   | refine LeO.ite ?_ ?_
   | refine LeO.bind ?_ (fun _ => ?_)
theorem spec_l1Cur_given.mono : ∀ a0 a1 a2 a3 k, LeO (spec_l1Cur_given.f k a0 a1 a2 a3) (spec_l1Cur_given.f (k + 1) a0 a1 a2 a3) := by
 intro a0 a1 a2 a3 k
 obtain ⟨ih0, ih1⟩ := spec_l1Cur_given.mono_l k
 unfold spec_l1Cur_given.f
 repeat' first
   | (with_reducible exact ih0 _ _ _ _)
   | (with_reducible exact ih1 _ _ _ _ _ _)
   | (with_reducible exact spec_CleanClause.mono _ _)
   | (with_reducible exact LeO.refl _)
   | (with_reducible exact LeO.none _)
   | (with_reducible refine LeO.ite ?_ ?_)
   | (with_reducible refine LeO.bind ?_ (fun _ => ?_))
   | exact ih0 _ _ _ _
   | exact ih1 _ _ _ _ _ _
   | exact spec_CleanClause.mono _ _
   | exact LeO.none _
   | refine LeO.ite ?_ ?_
   | refine LeO.bind ?_ (fun _ => ?_)
set_option maxHeartbeats 8000000 in
set_option maxRecDepth 100000 in
theorem spec_l1Cur_given.calls (k : Nat) (g : Nat) (s0_0 : List Int) (s0_1 : Int) (s0_2 : Int) (a1 : Int) (r1 : List Int) (r2 : Int) (r3 : Int) (w0 w : World) (hI : IsS69 w0 w g s0_0 s0_1 s0_2) (hB : Below w0.heap.size w0 w) (h : spec_l1Cur_given.f k s0_0 s0_1 s0_2 a1 = some (r1, r2, r3)) :
  Calls Try.prog 76 #[.pointer (some ⟨g, 0, none⟩), .int .i64 a1] w fun e w' => ∃ v0_ : Value, e = .returned (v0_) ∧ Kd.R (Kd.int .i64) 3 w' w.heap.size (fun _ => True) v0_ r1 ∧ IsS69 w0 w' g s0_0 r2 r3 ∧ Below w0.heap.size w0 w' ∧ KeepBut w w' g none := by
 have HI0 := Aside0.mk hI
 have HK := Aside0.mk (KeepBut.refl w g none)
 have HL := Aside0.mk hB.size
 clear hI
 have HW0 := Aside0.mk hB.size
 have HB := Aside0.mk hB
 clear hB
 have H : ((spec_l1Cur_pick.f s0_0 s0_1 s0_2 3).bind fun bt174 => (spec_l1Cur_given.l0 k a1 ([] : List Int) bt174.1 s0_0 bt174.2.1 bt174.2.2)) = some (r1, r2, r3) := h
 clear h
 replace H := Option.bind_eq_some_iff.mp H
 obtain ⟨⟨t174, t175, t176⟩, A30, H⟩ := H
 (try dsimp only at H)
 have A3 := Aside0.mk A30
 clear A30
 have HC4 := Aside0.mk H
 clear H
 go_enter Try.func76, Try.ntmps76
 go_upto_block 0 with (first | ((with_reducible refine gate_callee (f := 70) rfl ?_); refine goesL_ (some 10) rfl rfl Try.func70 (by kernel_rfl) rfl #[.pointer (some ⟨g, 0, none⟩), .int .i64 3] rfl (by simp only [zA_, zB_, zD_] <;> rfl) ?_; (with_reducible refine (spec_l1Cur_pick.calls g s0_0 s0_1 s0_2 3 t174 t175 t176 w0 _ ?side1 ?side2 A3.out).mono ?_); (case side1 => exact IsS69.g HI0.out); (case side2 => exact zb_ HB.out); rintro e w5 ⟨rfl, hi, hb, hk⟩; refine ⟨_, rfl, ?_⟩; have n0_ := Aside0.mk (KeepBut.trans (zK_ HK.out) hk (.inl rfl)); have n1_ := Aside0.mk (hb); have n2_ := Aside0.mk (hi); clear HK; clear HB; clear HI0; have HK := n0_; have HB := n1_; have HI0 := n2_; clear n0_ n1_ n2_; (try clear hb); (try clear hb2); (try clear hk); (try clear hi)))
 (try simp only [Act.put, List.setIfInBounds_toArray, List.set_cons_zero, List.set_cons_succ])
 go_cut [5] (fun v5 wc => ∃ (kq : Nat) (x5_3 : List Int) (x1001_3 : Int) (x1002_3 : Int), Aside0 (spec_l1Cur_given.j1 kq x5_3 s0_0 x1001_3 x1002_3 = some (r1, r2, r3)) ∧ Aside0 (kq ≤ k) ∧ Aside0 (Kd.R (Kd.int .i64) 3 wc w.heap.size (fun _ => True) v5 x5_3) ∧ Aside0 (IsS69 w0 wc g s0_0 x1001_3 x1002_3) ∧ Aside0 (KeepBut w wc g none) ∧ Aside0 (Below w0.heap.size w0 wc))
 case first =>
  have H := HC4.out
  clear HC4
  have H' := Aside0.mk H
  clear H
  go_wp2
  go_loopg [5, 6] k (fun kq v5 v6 w' => ∃ (x5_1 : List Int) (x6_1 : Int) (x1001_1 : Int) (x1002_1 : Int), v6 = .int .i64 x6_1 ∧ Aside0 (spec_l1Cur_given.l0 kq a1 x5_1 x6_1 s0_0 x1001_1 x1002_1 = some (r1, r2, r3)) ∧ Aside0 (kq ≤ k) ∧ Aside0 (Kd.R (Kd.int .i64) 3 w' w.heap.size (fun _ => True) v5 x5_1) ∧ Aside0 (IsS69 w0 w' g s0_0 x1001_1 x1002_1) ∧ Aside0 (KeepBut w w' g none) ∧ Aside0 (Below w0.heap.size w0 w'))
  case atStart => exact ⟨(([] : List Int)), (t174), (t175), (t176), (by first | rfl | (simp; done) | (simp [*]; done)), H', ⟨Nat.le_refl _⟩, ⟨by first | exact Kd.R_nil _ _ _ _ _ | exact Kd.N_nil _ _ _ _ _ | exact Kd.V_nil _ _ _ _ _ | exact Kd.Q_nil _ _ _ _ _ | exact Kd.S_nil _ _ _ _ _⟩, ⟨IsS69.g HI0.out⟩, ⟨zK_ HK.out⟩, ⟨zb_ HB.out⟩⟩
  case round =>
   clear H'
   try clear p2
   obtain ⟨x5_1, x6_1, x1001_1, x1002_1, rfl, HA, HK1, HO_5, HI0, HK, HB⟩ := hrel
   cases gk with
   | zero => exact absurd HA.out (by simp [spec_l1Cur_given.l0])
   | succ k1 =>
    have H := HA.out
    clear HA
    simp only [spec_l1Cur_given.l0] at H
    by_cases c6 : x6_1 > 0
    ·rw [if_pos c6] at H
     have c6b0 : decide (0 < x6_1) = true := decide_eq_true c6
     clear c6
     (first | rw [c6b0] | (simp only [i64_w, i32_w]; rw [c6b0]) | skip)
     by_cases c7 : a1 > 0
     ·rw [if_pos c7] at H
      have c7b0 : decide (0 < a1) = true := decide_eq_true c7
      clear c7
      replace H := Option.bind_eq_some_iff.mp H
      obtain ⟨⟨t177, t178, t179⟩, A80, H⟩ := H
      (try dsimp only at H)
      have A8 := Aside0.mk A80
      clear A80
      by_cases c9 : x5_1.length < 17592186044416
      ·rw [if_pos c9] at H
       have LMc9 := Aside0.mk c9
       clear c9
       obtain ⟨y180, hy180⟩ : ∃ y_ : List Int, y_ = (x5_1 ++ [t177]) := ⟨_, rfl⟩
       replace H : (spec_l1Cur_given.l0 k1 a1 y180 (wrap64 (x6_1 - 1)) s0_0 t178 t179) = some (r1, r2, r3) := by first | (rw [hy180]; with_reducible exact H) | (have H2_ := (Option.bind_some _ _).symm.trans H; rw [hy180]; with_reducible exact H2_) | (have H2_ := (Option.bind_some _ _).symm.trans H; with_reducible exact H2_) | with_reducible exact H | (rw [hy180]; exact H) | exact H
       have Ny180 := Aside0.mk hy180
       clear hy180
       have H' := Aside0.mk H
       clear H
       go_wp2_with (first | ((with_reducible refine gate_callee (f := 105) rfl ?_); refine goesL_ (some 22) rfl rfl Try.func105 (by kernel_rfl) rfl #[.pointer (some ⟨g, 0, none⟩), .int .i64 a1] rfl (by simp only [zA_, zB_, zD_] <;> rfl) ?_; (with_reducible refine (spec_l1Cur_lit.calls g s0_0 x1001_1 x1002_1 a1 t177 t178 t179 w0 _ ?side1 ?side2 A8.out).mono ?_); (case side1 => exact IsS69.g HI0.out); (case side2 => exact zb_ HB.out); rintro e w10 ⟨rfl, hi, hb, hk⟩; refine ⟨_, rfl, ?_⟩; have n0_ := Aside0.mk (Kd.R_mono (Kd.R_keep (IsS69.apart (show IsS69 w0 _ g s0_0 x1001_1 x1002_1 from IsS69.g HI0.out) (zR_ HO_5.out) (by decide)) hk (fun _ h => h.2)) (fun _ h => h.1)); have n1_ := Aside0.mk (KeepBut.trans (zK_ HK.out) hk (.inl rfl)); have n2_ := Aside0.mk (hb); have n3_ := Aside0.mk (hi); clear HO_5; clear HK; clear HB; clear HI0; have HO_5 := n0_; have HK := n1_; have HB := n2_; have HI0 := n3_; clear n0_ n1_ n2_ n3_; (try clear hb); (try clear hb2); (try clear hk); (try clear hi)) | ((with_reducible refine gate_builtin (b := .append) (xs := #[.tmp 19, .tmp 23]) rfl ?_); at_builtin; refine Kd.R_append (Kd.int .i64) w.heap.size rfl (.tmp 19) (.tmp 23) 24 3 (.int .i64 0) 8 rfl Try.underlying24 info3 rfl (by decide) (by omega) u5 x5_1 t177 [.int .i64 t177] (fun _ => True) (fun _ => False) rfl rfl ?aP (fun _ hk => hk.elim) ?aF ?aO (Below.refl _ _) ?aS ?aL ?_; (case aP => exact rfl); (case aF => exact (fun _ _ => trivial)); (case aO => exact (zR_ HO_5.out)); (case aS => exact (keep_size (w := w) (g := g) (row := none) (zK_ HK.out))); (case aL => have := LMc9.out; omega); intro v181 w11 ho hb hg hat; rw [← Ny180.out] at ho; have n0_ := Aside0.mk (IsS69.grown (IsS69.g HI0.out) hg (IsS69.own_ne HI0.out HO_5.out (by decide))); have n1_ := Aside0.mk (below_weaken (zb_ HB.out) HL.out hb); have n2_ := Aside0.mk (KeepBut.trans (zK_ HK.out) (KeepBut.of_grown hg g) (Kd.R_base2 HO_5.out)); have n3_ := Aside0.mk (ho); clear HI0; clear HB; clear HK; clear HO_5; have HI0 := n0_; have HB := n1_; have HK := n2_; have HO182 := n3_; clear n0_ n1_ n2_ n3_; clear ho hb hg hat))
       go_roundg k1
       case measure => have := HK1.out; omega
       case rel => exact ⟨(y180), (wrap64 (x6_1 - 1)), (t178), (t179), (by first | rfl | (simp; done) | (simp [*]; done)), H', ⟨by have := HK1.out; omega⟩, ⟨zR_ HO182.out⟩, ⟨IsS69.g HI0.out⟩, ⟨zK_ HK.out⟩, ⟨zb_ HB.out⟩⟩
      ·rw [if_neg c9] at H
       exact absurd H (by simp)
     ·rw [if_neg c7] at H
      have c7b0 : decide (0 < a1) = false := decide_eq_false c7
      clear c7
      have H' := Aside0.mk H
      clear H
      go_wp2
      go_meet
      case rel => exact ⟨_, (x5_1), (x1001_1), (x1002_1), H', ⟨by have := HK1.out; first | omega | exact Nat.le_refl _⟩, ⟨zR_ HO_5.out⟩, ⟨IsS69.g HI0.out⟩, ⟨zK_ HK.out⟩, ⟨zb_ HB.out⟩⟩
    ·rw [if_neg c6] at H
     have c6b0 : decide (0 < x6_1) = false := decide_eq_false c6
     clear c6
     (first | rw [c6b0] | (simp only [i64_w, i32_w]; rw [c6b0]) | skip)
     have H' := Aside0.mk H
     clear H
     go_wp2
     go_meet
     case rel => exact ⟨_, (x5_1), (x1001_1), (x1002_1), H', ⟨by have := HK1.out; first | omega | exact Nat.le_refl _⟩, ⟨zR_ HO_5.out⟩, ⟨IsS69.g HI0.out⟩, ⟨zK_ HK.out⟩, ⟨zb_ HB.out⟩⟩
 case rest =>
  clear HC4
  try clear c1
  try clear p2
  try clear c6
  try clear c6b0
  try clear p6
  try clear c7
  try clear c7b0
  try clear c9
  try clear c10
  try clear p2
  obtain ⟨kq, x5_3, x1001_3, x1002_3, HA, HJ3, HO_5, HI0, HK, HB⟩ := hcut
  cases kq with
  | zero => exact absurd HA.out (by simp [spec_l1Cur_given.j1])
  | succ kj3 =>
   have H := HA.out
   clear HA
   simp only [spec_l1Cur_given.j1] at H
   replace H := Option.bind_eq_some_iff.mp H
   obtain ⟨⟨t183, t184⟩, A120, H⟩ := H
   (try dsimp only at H)
   have A12 := Aside0.mk A120
   clear A120
   by_cases c13 : t184 = true
   ·subst c13
    have H1 : ((spec_l1Cur_one.f s0_0 x1001_3 x1002_3 20).bind fun bt187 => (if bt187.1 = true then (some (x5_3, bt187.2.1, bt187.2.2)) else (some (t183, bt187.2.1, bt187.2.2)))) = some (r1, r2, r3) := by rw [if_pos rfl] at H; exact H
    clear H
    have H := H1
    clear H1
    replace H := Option.bind_eq_some_iff.mp H
    obtain ⟨⟨t187, t188, t189⟩, A140, H⟩ := H
    (try dsimp only at H)
    have A14 := Aside0.mk A140
    clear A140
    by_cases c15 : t187 = true
    ·subst c15
     have H1 : (some (x5_3, t188, t189)) = some (r1, r2, r3) := by rw [if_pos rfl] at H; exact H
     clear H
     have H := H1
     clear H1
     simp only [Option.some.injEq, Prod.mk.injEq] at H
     obtain ⟨rfl, rfl, rfl⟩ := H
     obtain ⟨Ao16, co16, eo16⟩ := Kd.R_slice HO_5.out
     subst eo16
     go_wp2_with (first | ((with_reducible refine gate_callee (f := 42) rfl ?_); refine goesL_ (some 27) rfl rfl Try.func42 (by kernel_rfl) rfl #[.slice Ao16 x5_3.length co16] rfl (by simp only [zA_, zB_, zD_] <;> rfl) ?_; (with_reducible refine (spec_CleanClause.calls kj3 _ _ x5_3 t183 true _ ?side1 ?side2 A12.out).mono ?_); (case side1 => exact zC_ (Kd.R_reads' HO_5.out).2.2); (case side2 => exact (Kd.R_reads' HO_5.out).2.1); rintro e w17 ⟨v185, rfl, ho0, hb⟩; refine ⟨_, rfl, ?_⟩; have n0_ := Aside0.mk (Kd.R_elder' (zR_ HO_5.out) (Kd.R_base ho0) hb); have n1_ := Aside0.mk (Kd.R_lower (Kd.R_new' ho0 (Kd.R_lt (zR_ HO_5.out))) (keep_size (w := w) (g := g) (row := none) (zK_ HK.out))); have n2_ := Aside0.mk (IsS69.below (IsS69.g HI0.out) hb); have n3_ := Aside0.mk (KeepBut.trans (zK_ HK.out) (KeepBut.of_below hb g none) (.inl rfl)); have n4_ := Aside0.mk (below_step (zb_ HB.out) hb); clear HO_5; clear HI0; clear HK; clear HB; have HO_5 := n0_; have HO186 := n1_; have HI0 := n2_; have HK := n3_; have HB := n4_; clear n0_ n1_ n2_ n3_ n4_; (try clear hb); (try clear hb2); (try clear hk); (try clear hi); (try clear ho0)) | (go_at_call 56; (with_reducible refine (spec_l1Cur_one.calls g s0_0 x1001_3 x1002_3 20 true t188 t189 w0 _ ?side1 ?side2 A14.out).mono ?_); (case side1 => exact IsS69.g HI0.out); (case side2 => exact zb_ HB.out); rintro e w18 ⟨rfl, hi, hb, hk⟩; have n0_ := Aside0.mk (Kd.R_mono (Kd.R_keep (IsS69.apart (show IsS69 w0 _ g s0_0 x1001_3 x1002_3 from IsS69.g HI0.out) (zR_ HO_5.out) (by decide)) hk (fun _ h => h.2)) (fun _ h => h.1)); have n1_ := Aside0.mk (Kd.R_mono (Kd.R_keep (IsS69.apart (show IsS69 w0 _ g s0_0 x1001_3 x1002_3 from IsS69.g HI0.out) (zR_ HO186.out) (by decide)) hk (fun _ h => h.2)) (fun _ h => h.1)); have n2_ := Aside0.mk (KeepBut.trans (zK_ HK.out) hk (.inl rfl)); have n3_ := Aside0.mk (hb); have n4_ := Aside0.mk (hi); clear HO_5; clear HO186; clear HK; clear HB; clear HI0; have HO_5 := n0_; have HO186 := n1_; have HK := n2_; have HB := n3_; have HI0 := n4_; clear n0_ n1_ n2_ n3_ n4_; (try clear hb); (try clear hb2); (try clear hk); (try clear hi)))
     go_ret
     exact ⟨_, by first | rfl | (simp [errW_none, errW_some] <;> rfl) | (simp [*, errW_none, errW_some] <;> rfl), by (with_reducible repeat (first | apply Kd.R_alloc | apply Kd.R_drewN | apply Kd.R_drew)); exact Kd.R_mono HO_5.out (fun _ hk => trivial), IsS69.g HI0.out, zb_ HB.out, zK_ HK.out⟩
    ·replace c15 := Bool.eq_false_iff.mpr c15
     subst c15
     have H1 : (some (t183, t188, t189)) = some (r1, r2, r3) := by rw [if_neg (show ¬ (false = true) by decide)] at H; exact H
     clear H
     have H := H1
     clear H1
     simp only [Option.some.injEq, Prod.mk.injEq] at H
     obtain ⟨rfl, rfl, rfl⟩ := H
     obtain ⟨Ao19, co19, eo19⟩ := Kd.R_slice HO_5.out
     subst eo19
     go_wp2_with (first | ((with_reducible refine gate_callee (f := 42) rfl ?_); refine goesL_ (some 27) rfl rfl Try.func42 (by kernel_rfl) rfl #[.slice Ao19 x5_3.length co19] rfl (by simp only [zA_, zB_, zD_] <;> rfl) ?_; (with_reducible refine (spec_CleanClause.calls kj3 _ _ x5_3 t183 true _ ?side1 ?side2 A12.out).mono ?_); (case side1 => exact zC_ (Kd.R_reads' HO_5.out).2.2); (case side2 => exact (Kd.R_reads' HO_5.out).2.1); rintro e w20 ⟨v185, rfl, ho0, hb⟩; refine ⟨_, rfl, ?_⟩; have n0_ := Aside0.mk (Kd.R_elder' (zR_ HO_5.out) (Kd.R_base ho0) hb); have n1_ := Aside0.mk (Kd.R_lower (Kd.R_new' ho0 (Kd.R_lt (zR_ HO_5.out))) (keep_size (w := w) (g := g) (row := none) (zK_ HK.out))); have n2_ := Aside0.mk (IsS69.below (IsS69.g HI0.out) hb); have n3_ := Aside0.mk (KeepBut.trans (zK_ HK.out) (KeepBut.of_below hb g none) (.inl rfl)); have n4_ := Aside0.mk (below_step (zb_ HB.out) hb); clear HO_5; clear HI0; clear HK; clear HB; have HO_5 := n0_; have HO186 := n1_; have HI0 := n2_; have HK := n3_; have HB := n4_; clear n0_ n1_ n2_ n3_ n4_; (try clear hb); (try clear hb2); (try clear hk); (try clear hi); (try clear ho0)) | (go_at_call 56; (with_reducible refine (spec_l1Cur_one.calls g s0_0 x1001_3 x1002_3 20 false t188 t189 w0 _ ?side1 ?side2 A14.out).mono ?_); (case side1 => exact IsS69.g HI0.out); (case side2 => exact zb_ HB.out); rintro e w21 ⟨rfl, hi, hb, hk⟩; have n0_ := Aside0.mk (Kd.R_mono (Kd.R_keep (IsS69.apart (show IsS69 w0 _ g s0_0 x1001_3 x1002_3 from IsS69.g HI0.out) (zR_ HO_5.out) (by decide)) hk (fun _ h => h.2)) (fun _ h => h.1)); have n1_ := Aside0.mk (Kd.R_mono (Kd.R_keep (IsS69.apart (show IsS69 w0 _ g s0_0 x1001_3 x1002_3 from IsS69.g HI0.out) (zR_ HO186.out) (by decide)) hk (fun _ h => h.2)) (fun _ h => h.1)); have n2_ := Aside0.mk (KeepBut.trans (zK_ HK.out) hk (.inl rfl)); have n3_ := Aside0.mk (hb); have n4_ := Aside0.mk (hi); clear HO_5; clear HO186; clear HK; clear HB; clear HI0; have HO_5 := n0_; have HO186 := n1_; have HK := n2_; have HB := n3_; have HI0 := n4_; clear n0_ n1_ n2_ n3_ n4_; (try clear hb); (try clear hb2); (try clear hk); (try clear hi)))
     go_ret
     exact ⟨_, by first | rfl | (simp [errW_none, errW_some] <;> rfl) | (simp [*, errW_none, errW_some] <;> rfl), by (with_reducible repeat (first | apply Kd.R_alloc | apply Kd.R_drewN | apply Kd.R_drew)); exact Kd.R_mono HO186.out (fun _ hk => trivial), IsS69.g HI0.out, zb_ HB.out, zK_ HK.out⟩
   ·replace c13 := Bool.eq_false_iff.mpr c13
    subst c13
    have H1 : (some (x5_3, x1001_3, x1002_3)) = some (r1, r2, r3) := by rw [if_neg (show ¬ (false = true) by decide)] at H; exact H
    clear H
    have H := H1
    clear H1
    simp only [Option.some.injEq, Prod.mk.injEq] at H
    obtain ⟨rfl, rfl, rfl⟩ := H
    obtain ⟨Ao22, co22, eo22⟩ := Kd.R_slice HO_5.out
    subst eo22
    go_wp2_with (first | ((with_reducible refine gate_callee (f := 42) rfl ?_); refine goesL_ (some 27) rfl rfl Try.func42 (by kernel_rfl) rfl #[.slice Ao22 x5_3.length co22] rfl (by simp only [zA_, zB_, zD_] <;> rfl) ?_; (with_reducible refine (spec_CleanClause.calls kj3 _ _ x5_3 t183 false _ ?side1 ?side2 A12.out).mono ?_); (case side1 => exact zC_ (Kd.R_reads' HO_5.out).2.2); (case side2 => exact (Kd.R_reads' HO_5.out).2.1); rintro e w23 ⟨v185, rfl, ho0, hb⟩; refine ⟨_, rfl, ?_⟩; have n0_ := Aside0.mk (Kd.R_elder' (zR_ HO_5.out) (Kd.R_base ho0) hb); have n1_ := Aside0.mk (Kd.R_lower (Kd.R_new' ho0 (Kd.R_lt (zR_ HO_5.out))) (keep_size (w := w) (g := g) (row := none) (zK_ HK.out))); have n2_ := Aside0.mk (IsS69.below (IsS69.g HI0.out) hb); have n3_ := Aside0.mk (KeepBut.trans (zK_ HK.out) (KeepBut.of_below hb g none) (.inl rfl)); have n4_ := Aside0.mk (below_step (zb_ HB.out) hb); clear HO_5; clear HI0; clear HK; clear HB; have HO_5 := n0_; have HO186 := n1_; have HI0 := n2_; have HK := n3_; have HB := n4_; clear n0_ n1_ n2_ n3_ n4_; (try clear hb); (try clear hb2); (try clear hk); (try clear hi); (try clear ho0)))
    go_ret
    exact ⟨_, by first | rfl | (simp [errW_none, errW_some] <;> rfl) | (simp [*, errW_none, errW_some] <;> rfl), by (with_reducible repeat (first | apply Kd.R_alloc | apply Kd.R_drewN | apply Kd.R_drew)); exact Kd.R_mono HO_5.out (fun _ hk => trivial), IsS69.g HI0.out, zb_ HB.out, zK_ HK.out⟩
def spec_DrawPropagate.f (k : Nat) (l0 : List Int) : Option (Int × (List (List Int)) × List Int) := (spec_l1Cur_clauses.f k l0 0 0).bind fun bt191 => ((spec_l1Cur_given.f k l0 bt191.2.2.1 bt191.2.2.2 bt191.1).bind fun bt197 => (some (bt191.1, bt191.2.1, bt197.1)))
theorem spec_DrawPropagate.mono : ∀ a0 k, LeO (spec_DrawPropagate.f k a0) (spec_DrawPropagate.f (k + 1) a0) := by
 intro a0 k
 unfold spec_DrawPropagate.f
 repeat' first
   | (with_reducible exact spec_l1Cur_clauses.mono _ _ _ _)
   | (with_reducible exact spec_l1Cur_given.mono _ _ _ _ _)
   | (with_reducible exact LeO.refl _)
   | (with_reducible exact LeO.none _)
   | (with_reducible refine LeO.ite ?_ ?_)
   | (with_reducible refine LeO.bind ?_ (fun _ => ?_))
   | exact spec_l1Cur_clauses.mono _ _ _ _
   | exact spec_l1Cur_given.mono _ _ _ _ _
   | exact LeO.none _
   | refine LeO.ite ?_ ?_
   | refine LeO.bind ?_ (fun _ => ?_)
set_option maxHeartbeats 8000000 in
set_option maxRecDepth 100000 in
theorem spec_DrawPropagate.calls (k : Nat) (A0 : Option Addr) (c0 : Nat) (l0 : List Int) (r1 : Int) (r2 : List (List Int)) (r3 : List Int) (w : World) (hr0 : Kd.C (Kd.int .u8) w A0 l0.length l0) (hc0 : l0.length ≤ c0) (h : spec_DrawPropagate.f k l0 = some (r1, r2, r3)) :
  Calls Try.prog 23 #[.slice A0 l0.length c0] w fun e w' => ∃ v1_ v2_ : Value, e = .returned (.tuple #[.int .i64 r1, v1_, v2_]) ∧ Kd.S (Kd.slice 3 (Kd.int .i64)) 24 w' w.heap.size (fun _ => True) v1_ r2 ∧ Kd.R (Kd.int .i64) 3 w' w.heap.size (fun _ => True) v2_ r3 ∧ Below w.heap.size w w' := by
 have hu69 := Try.underlying69
 have HR0 := Aside0.mk hr0
 have HC0 := Aside0.mk hc0
 clear hr0 hc0
 have HB := Aside0.mk (Below.refl w.heap.size w)
 have H : ((spec_l1Cur_clauses.f k l0 0 0).bind fun bt191 => ((spec_l1Cur_given.f k l0 bt191.2.2.1 bt191.2.2.2 bt191.1).bind fun bt197 => (some (bt191.1, bt191.2.1, bt197.1)))) = some (r1, r2, r3) := h
 clear h
 replace H := Option.bind_eq_some_iff.mp H
 obtain ⟨⟨t191, t192, t195, t196⟩, A20, H⟩ := H
 (try dsimp only at H)
 have A2 := Aside0.mk A20
 clear A20
 replace H := Option.bind_eq_some_iff.mp H
 obtain ⟨⟨t197, t200, t201⟩, A30, H⟩ := H
 (try dsimp only at H)
 have A3 := Aside0.mk A30
 clear A30
 simp only [Option.some.injEq, Prod.mk.injEq] at H
 obtain ⟨rfl, rfl, rfl⟩ := H
 go_enter Try.func23, Try.ntmps23
 go_wp2_with (first | ((with_reducible refine gate_dst (N := 10) rfl ?_); refine box_event ?hg (N := 10) ?hd (cs := #[.slice A0 l0.length c0, .int .i64 0, .int .u64 0]) (t := 69) ?hr ?_; (case hd => rfl); (case hg => rfl); (case hr => first | (go_simp; done) | (go_simp; rfl)); intro gb190 hg w4 hbox hb; have n0_ := Aside0.mk (below_step (zb_ HB.out) hb); have n1_ := Aside0.mk ((show IsS69 w w4 gb190 l0 0 0 from ⟨_, _,  hbox, (by rw [hg]; exact (below_size (zb_ HB.out)) : w.heap.size ≤ gb190), HR0.out⟩)); clear HB; have HB := n0_; have HI190 := n1_; clear n0_ n1_; clear hb hbox hg) | ((with_reducible refine gate_callee (f := 75) rfl ?_); refine goesL_ (some 13) rfl rfl Try.func75 (by kernel_rfl) rfl #[.pointer (some ⟨gb190, 0, none⟩)] rfl (by simp only [zA_, zB_, zD_] <;> rfl) ?_; (with_reducible refine (spec_l1Cur_clauses.calls k gb190 l0 0 0 t191 t192 t195 t196 w _ ?side1 ?side2 A2.out).mono ?_); (case side1 => exact IsS69.g HI190.out); (case side2 => exact zb_ HB.out); rintro e w5 ⟨v193, rfl, ho0, hi, hb, hk⟩; refine ⟨_, rfl, ?_⟩; have n0_ := Aside0.mk (Kd.S_lower ho0 (below_size (zb_ HB.out))); have n1_ := Aside0.mk (hb); have n2_ := Aside0.mk (hi); clear HB; clear HI190; have HO194 := n0_; have HB := n1_; have HI190 := n2_; clear n0_ n1_ n2_; (try clear hb); (try clear hb2); (try clear hk); (try clear hi); (try clear ho0)) | ((with_reducible refine gate_callee (f := 76) rfl ?_); refine goesL_ (some 20) rfl rfl Try.func76 (by kernel_rfl) rfl #[.pointer (some ⟨gb190, 0, none⟩), .int .i64 t191] rfl (by simp only [zA_, zB_, zD_] <;> rfl) ?_; (with_reducible refine (spec_l1Cur_given.calls k gb190 l0 t195 t196 t191 t197 t200 t201 w _ ?side1 ?side2 A3.out).mono ?_); (case side1 => exact IsS69.g HI190.out); (case side2 => exact zb_ HB.out); rintro e w6 ⟨v198, rfl, ho0, hi, hb, hk⟩; refine ⟨_, rfl, ?_⟩; have n0_ := Aside0.mk (Kd.S_mono (Kd.S_told (Kd.S_oldK (IsS69.apartS (show IsS69 w _ gb190 l0 t195 t196 from IsS69.g HI190.out) (zS_ HO194.out) (by decide)) hk) (Kd.R_base ho0)) (fun _ h_ => h_.1)); have n1_ := Aside0.mk (Kd.R_lower ho0 (below_size (zb_ HB.out))); have n2_ := Aside0.mk (hb); have n3_ := Aside0.mk (hi); clear HO194; clear HB; clear HI190; have HO194 := n0_; have HO199 := n1_; have HB := n2_; have HI190 := n3_; clear n0_ n1_ n2_ n3_; (try clear hb); (try clear hb2); (try clear hk); (try clear hi); (try clear ho0)))
 go_ret3
 exact ⟨_, _, by first | rfl | (simp [errW_none, errW_some] <;> rfl) | (simp [*, errW_none, errW_some] <;> rfl), by (with_reducible repeat (first | apply Kd.S_alloc | apply Kd.S_drewN | apply Kd.S_drew)); exact Kd.S_mono HO194.out (fun _ hk => trivial), zR_ HO199.out, zb_ HB.out⟩
def spec_l4Clause.l0 : Nat → Int → List Int → List Int → Int → Int → Option (Bool)
 | 0, _, _, _, _, _ => none
 | k + 1, x0, x1, x7, x8, x9 => if x9 < x8 then (if 0 ≤ x9 then (if x9 < (x7.length : Int) then (if (rd x7 x9) = 0 then (some false) else ((spec_l1In.f (rd x7 x9) (wrap64 (-x0)) x0).bind fun t203 => (if t203 = true then (if x9 ≤ (x1.length : Int) then ((spec_l1Has.f k (x1.take (x9 : Int).toNat) (rd x7 x9)).bind fun t205 => (if t205 = true then (some false) else ((spec_l1Has.f k (x1.take (x9 : Int).toNat) (wrap64 (-(rd x7 x9)))).bind fun t207 => (if t207 = true then (some false) else (spec_l4Clause.l0 k x0 x1 x7 x8 (wrap64 (x9 + 1))))))) else (none)) else (some false)))) else (none)) else (none)) else (some (decide ((x1.length : Int) ≤ 12)))
def spec_l4Clause.f (k : Nat) (a0 : Int) (l1 : List Int) : Option (Bool) := spec_l4Clause.l0 k a0 l1 l1 (l1.length : Int) 0
theorem spec_l4Clause.mono_l : ∀ k, (∀ y0 y1 y2 y3 y4, LeO (spec_l4Clause.l0 k y0 y1 y2 y3 y4) (spec_l4Clause.l0 (k + 1) y0 y1 y2 y3 y4))
 | 0 => fun _ _ _ _ _ r h => by simp [spec_l4Clause.l0] at h
 | k + 1 => by
  have ih0 := spec_l4Clause.mono_l k
  ·intro y0 y1 y2 y3 y4
   unfold spec_l4Clause.l0
   repeat' first
   | (with_reducible exact ih0 _ _ _ _ _)
   | (with_reducible exact spec_l1Has.mono _ _ _)
   | (with_reducible exact LeO.refl _)
   | (with_reducible exact LeO.none _)
   | (with_reducible refine LeO.ite ?_ ?_)
   | (with_reducible refine LeO.bind ?_ (fun _ => ?_))
   | exact ih0 _ _ _ _ _
   | exact spec_l1Has.mono _ _ _
   | exact LeO.none _
   | refine LeO.ite ?_ ?_
   | refine LeO.bind ?_ (fun _ => ?_)
theorem spec_l4Clause.mono : ∀ a0 a1 k, LeO (spec_l4Clause.f k a0 a1) (spec_l4Clause.f (k + 1) a0 a1) := by
 intro a0 a1 k
 have ih0 := spec_l4Clause.mono_l k
 unfold spec_l4Clause.f
 repeat' first
   | (with_reducible exact ih0 _ _ _ _ _)
   | (with_reducible exact spec_l1Has.mono _ _ _)
   | (with_reducible exact LeO.refl _)
   | (with_reducible exact LeO.none _)
   | (with_reducible refine LeO.ite ?_ ?_)
   | (with_reducible refine LeO.bind ?_ (fun _ => ?_))
   | exact ih0 _ _ _ _ _
   | exact spec_l1Has.mono _ _ _
   | exact LeO.none _
   | refine LeO.ite ?_ ?_
   | refine LeO.bind ?_ (fun _ => ?_)
set_option maxHeartbeats 8000000 in
set_option maxRecDepth 100000 in
theorem spec_l4Clause.calls (k : Nat) (a0 : Int) (A1 : Option Addr) (c1 : Nat) (l1 : List Int) (r : Bool) (w : World) (hr1 : Kd.C (Kd.int .i64) w A1 l1.length l1) (hc1 : l1.length ≤ c1) (h : spec_l4Clause.f k a0 l1 = some r) :
  Calls Try.prog 87 #[.int .i64 a0, .slice A1 l1.length c1] w fun e w' => e = .returned (.bool r) ∧ Drawn0 w w' := by
 have HR1 := Aside0.mk hr1
 have HC1 := Aside0.mk hc1
 clear hr1 hc1
 have H : (spec_l4Clause.l0 k a0 l1 l1 (l1.length : Int) 0) = some r := h
 clear h
 have H' := Aside0.mk H
 clear H
 go_enter Try.func87, Try.ntmps87
 go_wp2
 go_loopg [9] k (fun kq v9 w' => ∃ (x9_1 : Int), v9 = .int .i64 x9_1 ∧ Aside0 (spec_l4Clause.l0 kq a0 l1 l1 (l1.length : Int) x9_1 = some r) ∧ Aside0 (kq ≤ k) ∧ Drawn0 w w')
 case atStart => exact ⟨(0), (by first | rfl | (simp; done) | (simp [*]; done)), H', ⟨Nat.le_refl _⟩, by repeat (first | exact Drawn0.refl _ | apply Drawn0.step)⟩
 case round =>
  clear H'
  try clear c1
  try clear p2
  obtain ⟨x9_1, rfl, HA, HK1, ⟨m1, rfl⟩⟩ := hrel
  cases gk with
  | zero => exact absurd HA.out (by simp [spec_l4Clause.l0])
  | succ k1 =>
   have H := HA.out
   clear HA
   simp only [spec_l4Clause.l0] at H
   by_cases c3 : x9_1 < (l1.length : Int)
   ·rw [if_pos c3] at H
    have c3b0 : decide (x9_1 < (l1.length : Int)) = true := decide_eq_true c3
    clear c3
    by_cases c4 : 0 ≤ x9_1
    ·rw [if_pos c4] at H
     have c4b0 : decide (0 ≤ x9_1) = true := decide_eq_true c4
     clear c4
     by_cases c5 : x9_1 < (l1.length : Int)
     ·rw [if_pos c5] at H
      have c5b0 : decide (x9_1 < (l1.length : Int)) = true := decide_eq_true c5
      clear c5
      by_cases c6 : (rd l1 x9_1) = 0
      ·rw [if_pos c6] at H
       have c6b0 : ((rd l1 x9_1) == 0) = true := beq_iff_eq.mpr c6
       have c6b1 : ((rd l1 x9_1) != 0) = false := bne_eq_false_iff_eq.mpr c6
       clear c6
       obtain rfl := Option.some.inj H
       have p202 : 0 ≤ (x9_1 : Int) := of_decide_eq_true (by assumption)
       have q202 : x9_1 < (l1.length : Int) := of_decide_eq_true (by assumption)
       obtain ⟨ad202, e202, hx202_0⟩ := Kd.at_int HR1.out x9_1 p202 q202
       cases e202
       replace p202 := eq_true p202
       replace q202 := eq_true q202
       go_wp2
       go_ret
       exact ⟨by first | rfl | (simp; done) | (simp [*]; done), by repeat (first | exact Drawn0.refl _ | apply Drawn0.step)⟩
      ·rw [if_neg c6] at H
       have c6b0 : ((rd l1 x9_1) == 0) = false := beq_eq_false_iff_ne.mpr c6
       have c6b1 : ((rd l1 x9_1) != 0) = true := bne_iff_ne.mpr c6
       replace H := Option.bind_eq_some_iff.mp H
       obtain ⟨t203, A70, H⟩ := H
       (try dsimp only at H)
       have A7 := Aside0.mk A70
       clear A70
       by_cases c8 : t203 = true
       ·subst c8
        have H1 : (if x9_1 ≤ (l1.length : Int) then ((spec_l1Has.f k1 (l1.take (x9_1 : Int).toNat) (rd l1 x9_1)).bind fun t205 => (if t205 = true then (some false) else ((spec_l1Has.f k1 (l1.take (x9_1 : Int).toNat) (wrap64 (-(rd l1 x9_1)))).bind fun t207 => (if t207 = true then (some false) else (spec_l4Clause.l0 k1 a0 l1 l1 (l1.length : Int) (wrap64 (x9_1 + 1))))))) else (none)) = some r := by rw [if_pos rfl] at H; exact H
        clear H
        have H := H1
        clear H1
        have c9b0 := eq_true (of_decide_eq_true (by assumption) : 0 ≤ x9_1)
        by_cases c10 : x9_1 ≤ (l1.length : Int)
        ·rw [if_pos c10] at H
         have c10b0 := eq_true c10
         have c10b1 : decide (x9_1 ≤ (l1.length : Int)) = true := decide_eq_true c10
         clear c10
         replace H := Option.bind_eq_some_iff.mp H
         obtain ⟨t205, A110, H⟩ := H
         (try dsimp only at H)
         have A11 := Aside0.mk A110
         clear A110
         by_cases c12 : t205 = true
         ·subst c12
          have H1 : (some false) = some r := by rw [if_pos rfl] at H; exact H
          clear H
          have H := H1
          clear H1
          obtain rfl := Option.some.inj H
          have p202 : 0 ≤ (x9_1 : Int) := of_decide_eq_true (by assumption)
          have q202 : x9_1 < (l1.length : Int) := of_decide_eq_true (by assumption)
          obtain ⟨ad202, e202, hx202_0⟩ := Kd.at_int HR1.out x9_1 p202 q202
          cases e202
          replace p202 := eq_true p202
          replace q202 := eq_true q202
          go_wp2_with (first | (go_at_call 88; (with_reducible refine (spec_l1In.calls (rd l1 x9_1) (wrap64 (-a0)) a0 true _ A7.out).mono ?_); rintro e w' ⟨rfl, ⟨nd, rfl⟩⟩; obtain ⟨i013, hi013, _, hsz13, _⟩ := info_parts info3; obtain ⟨hcut13, hA13, hC13⟩ := print_take_of (P := Try.prog) (Value.int .i64) 0 24 3 .i64 Try.underlying24 hi013 hsz13 (some ad202) c1 l1 x9_1 (of_decide_eq_true (by assumption)) (of_decide_eq_true (by assumption)) HC1.out; have HR204 := Aside0.mk (Kd.C_of_reads (h1 := fun _ => rfl) (hA13 _ (Kd.reads_of_C HR1.out))); have HC204 := Aside0.mk hC13; clear hA13 hC13 hi013 hsz13) | (go_at_call 69; (first | (with_reducible refine (spec_l1Has.calls k1 _ _ (l1.take (x9_1 : Int).toNat) (rd l1 x9_1) true _ ?side1 ?side2 A11.out).mono ?_) | (refine (recast_ (spec_l1Has.calls k1 _ _ (l1.take (x9_1 : Int).toNat) (rd l1 x9_1) true _ ?side1 ?side2 A11.out) (by rw [take_len_ l1 x9_1 (of_decide_eq_true (by assumption)) (of_decide_eq_true (by assumption))])).mono ?_)); (case side1 => exact zC_ HR204.out); (case side2 => exact HC204.out); rintro e w' ⟨rfl, ⟨nd, rfl⟩⟩))
          go_ret
          exact ⟨by first | rfl | (simp; done) | (simp [*]; done), by repeat (first | exact Drawn0.refl _ | apply Drawn0.step)⟩
         ·replace c12 := Bool.eq_false_iff.mpr c12
          subst c12
          have H1 : ((spec_l1Has.f k1 (l1.take (x9_1 : Int).toNat) (wrap64 (-(rd l1 x9_1)))).bind fun t207 => (if t207 = true then (some false) else (spec_l4Clause.l0 k1 a0 l1 l1 (l1.length : Int) (wrap64 (x9_1 + 1))))) = some r := by rw [if_neg (show ¬ (false = true) by decide)] at H; exact H
          clear H
          have H := H1
          clear H1
          have c14b0 := eq_true (of_decide_eq_true (by assumption) : 0 ≤ x9_1)
          have c15b0 := eq_true (of_decide_eq_true (by assumption) : x9_1 ≤ (l1.length : Int))
          replace H := Option.bind_eq_some_iff.mp H
          obtain ⟨t207, A160, H⟩ := H
          (try dsimp only at H)
          have A16 := Aside0.mk A160
          clear A160
          by_cases c17 : t207 = true
          ·subst c17
           have H1 : (some false) = some r := by rw [if_pos rfl] at H; exact H
           clear H
           have H := H1
           clear H1
           obtain rfl := Option.some.inj H
           have p202 : 0 ≤ (x9_1 : Int) := of_decide_eq_true (by assumption)
           have q202 : x9_1 < (l1.length : Int) := of_decide_eq_true (by assumption)
           obtain ⟨ad202, e202, hx202_0⟩ := Kd.at_int HR1.out x9_1 p202 q202
           cases e202
           replace p202 := eq_true p202
           replace q202 := eq_true q202
           go_wp2_with (first | (go_at_call 88; (with_reducible refine (spec_l1In.calls (rd l1 x9_1) (wrap64 (-a0)) a0 true _ A7.out).mono ?_); rintro e w' ⟨rfl, ⟨nd, rfl⟩⟩; obtain ⟨i018, hi018, _, hsz18, _⟩ := info_parts info3; obtain ⟨hcut18, hA18, hC18⟩ := print_take_of (P := Try.prog) (Value.int .i64) 0 24 3 .i64 Try.underlying24 hi018 hsz18 (some ad202) c1 l1 x9_1 (of_decide_eq_true (by assumption)) (of_decide_eq_true (by assumption)) HC1.out; have HR204 := Aside0.mk (Kd.C_of_reads (h1 := fun _ => rfl) (hA18 _ (Kd.reads_of_C HR1.out))); have HC204 := Aside0.mk hC18; clear hA18 hC18 hi018 hsz18) | (go_at_call 69; (first | (with_reducible refine (spec_l1Has.calls k1 _ _ (l1.take (x9_1 : Int).toNat) (rd l1 x9_1) false _ ?side1 ?side2 A11.out).mono ?_) | (refine (recast_ (spec_l1Has.calls k1 _ _ (l1.take (x9_1 : Int).toNat) (rd l1 x9_1) false _ ?side1 ?side2 A11.out) (by rw [take_len_ l1 x9_1 (of_decide_eq_true (by assumption)) (of_decide_eq_true (by assumption))])).mono ?_)); (case side1 => exact zC_ HR204.out); (case side2 => exact HC204.out); rintro e w' ⟨rfl, ⟨nd, rfl⟩⟩; obtain ⟨i019, hi019, _, hsz19, _⟩ := info_parts info3; obtain ⟨hcut19, hA19, hC19⟩ := print_take_of (P := Try.prog) (Value.int .i64) 0 24 3 .i64 Try.underlying24 hi019 hsz19 (some ad202) c1 l1 x9_1 (of_decide_eq_true (by assumption)) (of_decide_eq_true (by assumption)) HC1.out; have HR206 := Aside0.mk (Kd.C_of_reads (h1 := fun _ => rfl) (hA19 _ (Kd.reads_of_C HR1.out))); have HC206 := Aside0.mk hC19; clear hA19 hC19 hi019 hsz19) | (go_at_call 69; (first | (with_reducible refine (spec_l1Has.calls k1 _ _ (l1.take (x9_1 : Int).toNat) (wrap64 (-(rd l1 x9_1))) true _ ?side1 ?side2 A16.out).mono ?_) | (refine (recast_ (spec_l1Has.calls k1 _ _ (l1.take (x9_1 : Int).toNat) (wrap64 (-(rd l1 x9_1))) true _ ?side1 ?side2 A16.out) (by rw [take_len_ l1 x9_1 (of_decide_eq_true (by assumption)) (of_decide_eq_true (by assumption))])).mono ?_)); (case side1 => exact zC_ HR206.out); (case side2 => exact HC206.out); rintro e w' ⟨rfl, ⟨nd, rfl⟩⟩))
           go_ret
           exact ⟨by first | rfl | (simp; done) | (simp [*]; done), by repeat (first | exact Drawn0.refl _ | apply Drawn0.step)⟩
          ·replace c17 := Bool.eq_false_iff.mpr c17
           subst c17
           have H1 : (spec_l4Clause.l0 k1 a0 l1 l1 (l1.length : Int) (wrap64 (x9_1 + 1))) = some r := by rw [if_neg (show ¬ (false = true) by decide)] at H; exact H
           clear H
           have H := H1
           clear H1
           have H' := Aside0.mk H
           clear H
           have p202 : 0 ≤ (x9_1 : Int) := of_decide_eq_true (by assumption)
           have q202 : x9_1 < (l1.length : Int) := of_decide_eq_true (by assumption)
           obtain ⟨ad202, e202, hx202_0⟩ := Kd.at_int HR1.out x9_1 p202 q202
           cases e202
           replace p202 := eq_true p202
           replace q202 := eq_true q202
           go_wp2_with (first | (go_at_call 88; (with_reducible refine (spec_l1In.calls (rd l1 x9_1) (wrap64 (-a0)) a0 true _ A7.out).mono ?_); rintro e w' ⟨rfl, ⟨nd, rfl⟩⟩; obtain ⟨i020, hi020, _, hsz20, _⟩ := info_parts info3; obtain ⟨hcut20, hA20, hC20⟩ := print_take_of (P := Try.prog) (Value.int .i64) 0 24 3 .i64 Try.underlying24 hi020 hsz20 (some ad202) c1 l1 x9_1 (of_decide_eq_true (by assumption)) (of_decide_eq_true (by assumption)) HC1.out; have HR204 := Aside0.mk (Kd.C_of_reads (h1 := fun _ => rfl) (hA20 _ (Kd.reads_of_C HR1.out))); have HC204 := Aside0.mk hC20; clear hA20 hC20 hi020 hsz20) | (go_at_call 69; (first | (with_reducible refine (spec_l1Has.calls k1 _ _ (l1.take (x9_1 : Int).toNat) (rd l1 x9_1) false _ ?side1 ?side2 A11.out).mono ?_) | (refine (recast_ (spec_l1Has.calls k1 _ _ (l1.take (x9_1 : Int).toNat) (rd l1 x9_1) false _ ?side1 ?side2 A11.out) (by rw [take_len_ l1 x9_1 (of_decide_eq_true (by assumption)) (of_decide_eq_true (by assumption))])).mono ?_)); (case side1 => exact zC_ HR204.out); (case side2 => exact HC204.out); rintro e w' ⟨rfl, ⟨nd, rfl⟩⟩; obtain ⟨i021, hi021, _, hsz21, _⟩ := info_parts info3; obtain ⟨hcut21, hA21, hC21⟩ := print_take_of (P := Try.prog) (Value.int .i64) 0 24 3 .i64 Try.underlying24 hi021 hsz21 (some ad202) c1 l1 x9_1 (of_decide_eq_true (by assumption)) (of_decide_eq_true (by assumption)) HC1.out; have HR206 := Aside0.mk (Kd.C_of_reads (h1 := fun _ => rfl) (hA21 _ (Kd.reads_of_C HR1.out))); have HC206 := Aside0.mk hC21; clear hA21 hC21 hi021 hsz21) | (go_at_call 69; (first | (with_reducible refine (spec_l1Has.calls k1 _ _ (l1.take (x9_1 : Int).toNat) (wrap64 (-(rd l1 x9_1))) false _ ?side1 ?side2 A16.out).mono ?_) | (refine (recast_ (spec_l1Has.calls k1 _ _ (l1.take (x9_1 : Int).toNat) (wrap64 (-(rd l1 x9_1))) false _ ?side1 ?side2 A16.out) (by rw [take_len_ l1 x9_1 (of_decide_eq_true (by assumption)) (of_decide_eq_true (by assumption))])).mono ?_)); (case side1 => exact zC_ HR206.out); (case side2 => exact HC206.out); rintro e w' ⟨rfl, ⟨nd, rfl⟩⟩))
           go_roundg k1
           case measure => have := HK1.out; omega
           case rel => exact ⟨(wrap64 (x9_1 + 1)), (by first | rfl | (simp; done) | (simp [*]; done)), H', ⟨by have := HK1.out; omega⟩, by repeat (first | exact Drawn0.refl _ | apply Drawn0.step)⟩
        ·rw [if_neg c10] at H
         exact absurd H (by simp)
       ·replace c8 := Bool.eq_false_iff.mpr c8
        subst c8
        have H1 : (some false) = some r := by rw [if_neg (show ¬ (false = true) by decide)] at H; exact H
        clear H
        have H := H1
        clear H1
        obtain rfl := Option.some.inj H
        have p202 : 0 ≤ (x9_1 : Int) := of_decide_eq_true (by assumption)
        have q202 : x9_1 < (l1.length : Int) := of_decide_eq_true (by assumption)
        obtain ⟨ad202, e202, hx202_0⟩ := Kd.at_int HR1.out x9_1 p202 q202
        cases e202
        replace p202 := eq_true p202
        replace q202 := eq_true q202
        go_wp2_with (first | (go_at_call 88; (with_reducible refine (spec_l1In.calls (rd l1 x9_1) (wrap64 (-a0)) a0 false _ A7.out).mono ?_); rintro e w' ⟨rfl, ⟨nd, rfl⟩⟩))
        go_ret
        exact ⟨by first | rfl | (simp; done) | (simp [*]; done), by repeat (first | exact Drawn0.refl _ | apply Drawn0.step)⟩
     ·rw [if_neg c5] at H
      exact absurd H (by simp)
    ·rw [if_neg c4] at H
     exact absurd H (by simp)
   ·rw [if_neg c3] at H
    have c3b0 : decide (x9_1 < (l1.length : Int)) = false := decide_eq_false c3
    clear c3
    obtain rfl := Option.some.inj H
    go_wp2
    go_ret
    exact ⟨by first | rfl | (simp; done) | (simp [*]; done), by repeat (first | exact Drawn0.refl _ | apply Drawn0.step)⟩
mutual
def spec_l4Resolve.l0 : Nat → List Int → Int → List Int → List Int → Int → Int → Option (List Int × Bool)
 | 0, _, _, _, _, _, _ => none
 | k + 1, x1, x2, x8, x13, x14, x15 => if x15 < x14 then (if 0 ≤ x15 then (if x15 < (x13.length : Int) then (if (rd x13 x15) = x2 then (spec_l4Resolve.l0 k x1 x2 x8 x13 x14 (wrap64 (x15 + 1))) else (if x8.length < 17592186044416 then (spec_l4Resolve.l0 k x1 x2 (x8 ++ [rd x13 x15]) x13 x14 (wrap64 (x15 + 1))) else (none))) else (none)) else (none)) else (spec_l4Resolve.l1 k x2 x8 x1 (x1.length : Int) 0)
def spec_l4Resolve.l1 : Nat → Int → List Int → List Int → Int → Int → Option (List Int × Bool)
 | 0, _, _, _, _, _ => none
 | k + 1, x2, x8, x27, x28, x29 => if x29 < x28 then (if 0 ≤ x29 then (if x29 < (x27.length : Int) then (if (rd x27 x29) = (wrap64 (-x2)) then (spec_l4Resolve.l1 k x2 x8 x27 x28 (wrap64 (x29 + 1))) else (if x8.length < 17592186044416 then (spec_l4Resolve.l1 k x2 (x8 ++ [rd x27 x29]) x27 x28 (wrap64 (x29 + 1))) else (none))) else (none)) else (none)) else ((spec_CleanClause.f k x8).bind fun bt216 => (some (bt216.1, bt216.2)))
end
def spec_l4Resolve.f (k : Nat) (l0 : List Int) (l1 : List Int) (a2 : Int) : Option (List Int × Bool) := spec_l4Resolve.l0 k l1 a2 ([] : List Int) l0 (l0.length : Int) 0
theorem spec_l4Resolve.mono_l : ∀ k, (∀ y0 y1 y2 y3 y4 y5, LeO (spec_l4Resolve.l0 k y0 y1 y2 y3 y4 y5) (spec_l4Resolve.l0 (k + 1) y0 y1 y2 y3 y4 y5)) ∧ (∀ y0 y1 y2 y3 y4, LeO (spec_l4Resolve.l1 k y0 y1 y2 y3 y4) (spec_l4Resolve.l1 (k + 1) y0 y1 y2 y3 y4))
 | 0 => ⟨fun _ _ _ _ _ _ r h => by simp [spec_l4Resolve.l0] at h, fun _ _ _ _ _ r h => by simp [spec_l4Resolve.l1] at h⟩
 | k + 1 => by
  obtain ⟨ih0, ih1⟩ := spec_l4Resolve.mono_l k
  refine ⟨?_, ?_⟩
  ·intro y0 y1 y2 y3 y4 y5
   unfold spec_l4Resolve.l0
   repeat' first
   | (with_reducible exact ih0 _ _ _ _ _ _)
   | (with_reducible exact ih1 _ _ _ _ _)
   | (with_reducible exact spec_CleanClause.mono _ _)
   | (with_reducible exact LeO.refl _)
   | (with_reducible exact LeO.none _)
   | (with_reducible refine LeO.ite ?_ ?_)
   | (with_reducible refine LeO.bind ?_ (fun _ => ?_))
   | exact ih0 _ _ _ _ _ _
   | exact ih1 _ _ _ _ _
   | exact spec_CleanClause.mono _ _
   | exact LeO.none _
   | refine LeO.ite ?_ ?_
   | refine LeO.bind ?_ (fun _ => ?_)
  ·intro y0 y1 y2 y3 y4
   unfold spec_l4Resolve.l1
   repeat' first
   | (with_reducible exact ih0 _ _ _ _ _ _)
   | (with_reducible exact ih1 _ _ _ _ _)
   | (with_reducible exact spec_CleanClause.mono _ _)
   | (with_reducible exact LeO.refl _)
   | (with_reducible exact LeO.none _)
   | (with_reducible refine LeO.ite ?_ ?_)
   | (with_reducible refine LeO.bind ?_ (fun _ => ?_))
   | exact ih0 _ _ _ _ _ _
   | exact ih1 _ _ _ _ _
   | exact spec_CleanClause.mono _ _
   | exact LeO.none _
   | refine LeO.ite ?_ ?_
   | refine LeO.bind ?_ (fun _ => ?_)
theorem spec_l4Resolve.mono : ∀ a0 a1 a2 k, LeO (spec_l4Resolve.f k a0 a1 a2) (spec_l4Resolve.f (k + 1) a0 a1 a2) := by
 intro a0 a1 a2 k
 obtain ⟨ih0, ih1⟩ := spec_l4Resolve.mono_l k
 unfold spec_l4Resolve.f
 repeat' first
   | (with_reducible exact ih0 _ _ _ _ _ _)
   | (with_reducible exact ih1 _ _ _ _ _)
   | (with_reducible exact spec_CleanClause.mono _ _)
   | (with_reducible exact LeO.refl _)
   | (with_reducible exact LeO.none _)
   | (with_reducible refine LeO.ite ?_ ?_)
   | (with_reducible refine LeO.bind ?_ (fun _ => ?_))
   | exact ih0 _ _ _ _ _ _
   | exact ih1 _ _ _ _ _
   | exact spec_CleanClause.mono _ _
   | exact LeO.none _
   | refine LeO.ite ?_ ?_
   | refine LeO.bind ?_ (fun _ => ?_)
set_option maxHeartbeats 8000000 in
set_option maxRecDepth 100000 in
theorem spec_l4Resolve.calls (k : Nat) (A0 : Option Addr) (c0 : Nat) (l0 : List Int) (A1 : Option Addr) (c1 : Nat) (l1 : List Int) (a2 : Int) (r1 : List Int) (r2 : Bool) (w : World) (hr0 : Kd.C (Kd.int .i64) w A0 l0.length l0) (hc0 : l0.length ≤ c0) (hr1 : Kd.C (Kd.int .i64) w A1 l1.length l1) (hc1 : l1.length ≤ c1) (h : spec_l4Resolve.f k l0 l1 a2 = some (r1, r2)) :
  Calls Try.prog 89 #[.slice A0 l0.length c0, .slice A1 l1.length c1, .int .i64 a2] w fun e w' => ∃ v0_ : Value, e = .returned (.tuple #[v0_, .bool r2]) ∧ Kd.R (Kd.int .i64) 3 w' w.heap.size (fun _ => True) v0_ r1 ∧ Below w.heap.size w w' := by
 have HR0 := Aside0.mk hr0
 have HC0 := Aside0.mk hc0
 clear hr0 hc0
 have HR1 := Aside0.mk hr1
 have HC1 := Aside0.mk hc1
 clear hr1 hc1
 have HB := Aside0.mk (Below.refl w.heap.size w)
 have H : (spec_l4Resolve.l0 k l1 a2 ([] : List Int) l0 (l0.length : Int) 0) = some (r1, r2) := h
 clear h
 have H' := Aside0.mk H
 clear H
 go_enter Try.func89, Try.ntmps89
 go_wp2
 go_loopg [8, 15] k (fun kq v8 v15 w' => ∃ (x8_1 : List Int) (x15_1 : Int), v15 = .int .i64 x15_1 ∧ Aside0 (spec_l4Resolve.l0 kq l1 a2 x8_1 l0 (l0.length : Int) x15_1 = some (r1, r2)) ∧ Aside0 (kq ≤ k) ∧ Aside0 (Kd.R (Kd.int .i64) 3 w' w.heap.size (fun _ => True) v8 x8_1) ∧ Aside0 (Below w.heap.size w w'))
 case atStart => exact ⟨(([] : List Int)), (0), (by first | rfl | (simp; done) | (simp [*]; done)), H', ⟨Nat.le_refl _⟩, ⟨by first | exact Kd.R_nil _ _ _ _ _ | exact Kd.N_nil _ _ _ _ _ | exact Kd.V_nil _ _ _ _ _ | exact Kd.Q_nil _ _ _ _ _ | exact Kd.S_nil _ _ _ _ _⟩, ⟨zb_ HB.out⟩⟩
 case round =>
  clear H'
  try clear c1
  try clear p2
  obtain ⟨x8_1, x15_1, rfl, HA, HK1, HO_8, HB⟩ := hrel
  cases gk with
  | zero => exact absurd HA.out (by simp [spec_l4Resolve.l0])
  | succ k1 =>
   have H := HA.out
   clear HA
   simp only [spec_l4Resolve.l0] at H
   by_cases c4 : x15_1 < (l0.length : Int)
   ·rw [if_pos c4] at H
    have c4b0 : decide (x15_1 < (l0.length : Int)) = true := decide_eq_true c4
    clear c4
    by_cases c5 : 0 ≤ x15_1
    ·rw [if_pos c5] at H
     have c5b0 : decide (0 ≤ x15_1) = true := decide_eq_true c5
     clear c5
     by_cases c6 : x15_1 < (l0.length : Int)
     ·rw [if_pos c6] at H
      have c6b0 : decide (x15_1 < (l0.length : Int)) = true := decide_eq_true c6
      clear c6
      by_cases c7 : (rd l0 x15_1) = a2
      ·rw [if_pos c7] at H
       have c7b0 : ((rd l0 x15_1) == a2) = true := beq_iff_eq.mpr c7
       have c7b1 : ((rd l0 x15_1) != a2) = false := bne_eq_false_iff_eq.mpr c7
       clear c7
       have H' := Aside0.mk H
       clear H
       have p208 : 0 ≤ (x15_1 : Int) := of_decide_eq_true (by assumption)
       have q208 : x15_1 < (l0.length : Int) := of_decide_eq_true (by assumption)
       obtain ⟨ad208, e208, hx208_0⟩ := Kd.at_int HR0.out x15_1 p208 q208
       cases e208
       (try replace hx208_0 := (HB.out.cell (World.block_lt_of_cell? w _ hx208_0)).trans hx208_0)
       replace p208 := eq_true p208
       replace q208 := eq_true q208
       go_wp2
       go_roundg k1
       case measure => have := HK1.out; omega
       case rel => exact ⟨(x8_1), (wrap64 (x15_1 + 1)), (by first | rfl | (simp; done) | (simp [*]; done)), H', ⟨by have := HK1.out; omega⟩, ⟨zR_ HO_8.out⟩, ⟨zb_ HB.out⟩⟩
      ·rw [if_neg c7] at H
       have c7b0 : ((rd l0 x15_1) == a2) = false := beq_eq_false_iff_ne.mpr c7
       have c7b1 : ((rd l0 x15_1) != a2) = true := bne_iff_ne.mpr c7
       by_cases c8 : x8_1.length < 17592186044416
       ·rw [if_pos c8] at H
        have LMc8 := Aside0.mk c8
        clear c8
        obtain ⟨y209, hy209⟩ : ∃ y_ : List Int, y_ = (x8_1 ++ [rd l0 x15_1]) := ⟨_, rfl⟩
        replace H : (spec_l4Resolve.l0 k1 l1 a2 y209 l0 (l0.length : Int) (wrap64 (x15_1 + 1))) = some (r1, r2) := by first | (rw [hy209]; with_reducible exact H) | (have H2_ := (Option.bind_some _ _).symm.trans H; rw [hy209]; with_reducible exact H2_) | (have H2_ := (Option.bind_some _ _).symm.trans H; with_reducible exact H2_) | with_reducible exact H | (rw [hy209]; exact H) | exact H
        have Ny209 := Aside0.mk hy209
        clear hy209
        have H' := Aside0.mk H
        clear H
        have p208 : 0 ≤ (x15_1 : Int) := of_decide_eq_true (by assumption)
        have q208 : x15_1 < (l0.length : Int) := of_decide_eq_true (by assumption)
        obtain ⟨ad208, e208, hx208_0⟩ := Kd.at_int HR0.out x15_1 p208 q208
        cases e208
        (try replace hx208_0 := (HB.out.cell (World.block_lt_of_cell? w _ hx208_0)).trans hx208_0)
        replace p208 := eq_true p208
        replace q208 := eq_true q208
        go_wp2_with (first | ((with_reducible refine gate_builtin (b := .append) (xs := #[.tmp 22, .tmp 24]) rfl ?_); at_builtin; refine Kd.R_append (Kd.int .i64) (w0 := w) w.heap.size rfl (.tmp 22) (.tmp 24) 24 3 (.int .i64 0) 8 rfl Try.underlying24 info3 rfl (by decide) (by omega) u8 x8_1 (rd l0 x15_1) [.int .i64 (rd l0 x15_1)] (fun _ => True) (fun _ => False) rfl rfl ?aP (fun _ hk => hk.elim) ?aF ?aO ?aB ?aS ?aL ?_; (case aP => exact rfl); (case aB => exact (zb_ HB.out)); (case aF => exact (fun _ _ => trivial)); (case aO => exact (zR_ HO_8.out)); (case aS => exact (below_size (zb_ HB.out))); (case aL => have := LMc8.out; omega); intro v210 w9 ho hb hg hat; rw [← Ny209.out] at ho; have n0_ := Aside0.mk (hb); have n1_ := Aside0.mk (ho); clear HB; clear HO_8; have HB := n0_; have HO211 := n1_; clear n0_ n1_; clear ho hb hg hat))
        go_roundg k1
        case measure => have := HK1.out; omega
        case rel => exact ⟨(y209), (wrap64 (x15_1 + 1)), (by first | rfl | (simp; done) | (simp [*]; done)), H', ⟨by have := HK1.out; omega⟩, ⟨zR_ HO211.out⟩, ⟨zb_ HB.out⟩⟩
       ·rw [if_neg c8] at H
        exact absurd H (by simp)
     ·rw [if_neg c6] at H
      exact absurd H (by simp)
    ·rw [if_neg c5] at H
     exact absurd H (by simp)
   ·rw [if_neg c4] at H
    have c4b0 : decide (x15_1 < (l0.length : Int)) = false := decide_eq_false c4
    clear c4
    have H' := Aside0.mk H
    clear H
    go_wp2
    go_loopg [8, 29] k1 (fun kq v8 v29 w' => ∃ (x8_2 : List Int) (x29_2 : Int), v29 = .int .i64 x29_2 ∧ Aside0 (spec_l4Resolve.l1 kq a2 x8_2 l1 (l1.length : Int) x29_2 = some (r1, r2)) ∧ Aside0 (kq ≤ k1) ∧ Aside0 (Kd.R (Kd.int .i64) 3 w' w.heap.size (fun _ => True) v8 x8_2) ∧ Aside0 (Below w.heap.size w w'))
    case atStart => exact ⟨(x8_1), (0), (by first | rfl | (simp; done) | (simp [*]; done)), H', ⟨Nat.le_refl _⟩, ⟨zR_ HO_8.out⟩, ⟨zb_ HB.out⟩⟩
    case round =>
     clear H'
     try clear c1
     try clear p2
     try clear q2
     try clear hx2
     try clear c4
     try clear c4b0
     try clear c5
     try clear c5b0
     try clear c6
     try clear c6b0
     try clear p6
     try clear c7
     try clear c7b0
     try clear c7b1
     try clear c8
     try clear hx208_0
     try clear p2
     try clear p208
     try clear q208
     obtain ⟨x8_2, x29_2, rfl, HA, HK2, HO_8, HB⟩ := hrel
     cases gk with
     | zero => exact absurd HA.out (by simp [spec_l4Resolve.l1])
     | succ k2 =>
      have H := HA.out
      clear HA
      simp only [spec_l4Resolve.l1] at H
      by_cases c10 : x29_2 < (l1.length : Int)
      ·rw [if_pos c10] at H
       have c10b0 : decide (x29_2 < (l1.length : Int)) = true := decide_eq_true c10
       clear c10
       by_cases c11 : 0 ≤ x29_2
       ·rw [if_pos c11] at H
        have c11b0 : decide (0 ≤ x29_2) = true := decide_eq_true c11
        clear c11
        by_cases c12 : x29_2 < (l1.length : Int)
        ·rw [if_pos c12] at H
         have c12b0 : decide (x29_2 < (l1.length : Int)) = true := decide_eq_true c12
         clear c12
         by_cases c13 : (rd l1 x29_2) = (wrap64 (-a2))
         ·rw [if_pos c13] at H
          have c13b0 : ((rd l1 x29_2) == (wrap64 (-a2))) = true := beq_iff_eq.mpr c13
          have c13b1 : ((rd l1 x29_2) != (wrap64 (-a2))) = false := bne_eq_false_iff_eq.mpr c13
          clear c13
          have H' := Aside0.mk H
          clear H
          have p212 : 0 ≤ (x29_2 : Int) := of_decide_eq_true (by assumption)
          have q212 : x29_2 < (l1.length : Int) := of_decide_eq_true (by assumption)
          obtain ⟨ad212, e212, hx212_0⟩ := Kd.at_int HR1.out x29_2 p212 q212
          cases e212
          (try replace hx212_0 := (HB.out.cell (World.block_lt_of_cell? w _ hx212_0)).trans hx212_0)
          replace p212 := eq_true p212
          replace q212 := eq_true q212
          go_wp2
          go_roundg k2
          case measure => have := HK1.out; have := HK2.out; omega
          case rel => exact ⟨(x8_2), (wrap64 (x29_2 + 1)), (by first | rfl | (simp; done) | (simp [*]; done)), H', ⟨by have := HK1.out; have := HK2.out; omega⟩, ⟨zR_ HO_8.out⟩, ⟨zb_ HB.out⟩⟩
         ·rw [if_neg c13] at H
          have c13b0 : ((rd l1 x29_2) == (wrap64 (-a2))) = false := beq_eq_false_iff_ne.mpr c13
          have c13b1 : ((rd l1 x29_2) != (wrap64 (-a2))) = true := bne_iff_ne.mpr c13
          by_cases c14 : x8_2.length < 17592186044416
          ·rw [if_pos c14] at H
           have LMc14 := Aside0.mk c14
           clear c14
           obtain ⟨y213, hy213⟩ : ∃ y_ : List Int, y_ = (x8_2 ++ [rd l1 x29_2]) := ⟨_, rfl⟩
           replace H : (spec_l4Resolve.l1 k2 a2 y213 l1 (l1.length : Int) (wrap64 (x29_2 + 1))) = some (r1, r2) := by first | (rw [hy213]; with_reducible exact H) | (have H2_ := (Option.bind_some _ _).symm.trans H; rw [hy213]; with_reducible exact H2_) | (have H2_ := (Option.bind_some _ _).symm.trans H; with_reducible exact H2_) | with_reducible exact H | (rw [hy213]; exact H) | exact H
           have Ny213 := Aside0.mk hy213
           clear hy213
           have H' := Aside0.mk H
           clear H
           have p212 : 0 ≤ (x29_2 : Int) := of_decide_eq_true (by assumption)
           have q212 : x29_2 < (l1.length : Int) := of_decide_eq_true (by assumption)
           obtain ⟨ad212, e212, hx212_0⟩ := Kd.at_int HR1.out x29_2 p212 q212
           cases e212
           (try replace hx212_0 := (HB.out.cell (World.block_lt_of_cell? w _ hx212_0)).trans hx212_0)
           replace p212 := eq_true p212
           replace q212 := eq_true q212
           go_wp2_with (first | ((with_reducible refine gate_builtin (b := .append) (xs := #[.tmp 37, .tmp 39]) rfl ?_); at_builtin; refine Kd.R_append (Kd.int .i64) (w0 := w) w.heap.size rfl (.tmp 37) (.tmp 39) 24 3 (.int .i64 0) 8 rfl Try.underlying24 info3 rfl (by decide) (by omega) u8 x8_2 (rd l1 x29_2) [.int .i64 (rd l1 x29_2)] (fun _ => True) (fun _ => False) rfl rfl ?aP (fun _ hk => hk.elim) ?aF ?aO ?aB ?aS ?aL ?_; (case aP => exact rfl); (case aB => exact (zb_ HB.out)); (case aF => exact (fun _ _ => trivial)); (case aO => exact (zR_ HO_8.out)); (case aS => exact (below_size (zb_ HB.out))); (case aL => have := LMc14.out; omega); intro v214 w15 ho hb hg hat; rw [← Ny213.out] at ho; have n0_ := Aside0.mk (hb); have n1_ := Aside0.mk (ho); clear HB; clear HO_8; have HB := n0_; have HO215 := n1_; clear n0_ n1_; clear ho hb hg hat))
           go_roundg k2
           case measure => have := HK1.out; have := HK2.out; omega
           case rel => exact ⟨(y213), (wrap64 (x29_2 + 1)), (by first | rfl | (simp; done) | (simp [*]; done)), H', ⟨by have := HK1.out; have := HK2.out; omega⟩, ⟨zR_ HO215.out⟩, ⟨zb_ HB.out⟩⟩
          ·rw [if_neg c14] at H
           exact absurd H (by simp)
        ·rw [if_neg c12] at H
         exact absurd H (by simp)
       ·rw [if_neg c11] at H
        exact absurd H (by simp)
      ·rw [if_neg c10] at H
       have c10b0 : decide (x29_2 < (l1.length : Int)) = false := decide_eq_false c10
       clear c10
       replace H := Option.bind_eq_some_iff.mp H
       obtain ⟨⟨t216, t217⟩, A160, H⟩ := H
       (try dsimp only at H)
       have A16 := Aside0.mk A160
       clear A160
       simp only [Option.some.injEq, Prod.mk.injEq] at H
       obtain ⟨rfl, rfl⟩ := H
       obtain ⟨Ao17, co17, eo17⟩ := Kd.R_slice HO_8.out
       subst eo17
       go_wp2_with (first | ((with_reducible refine gate_callee (f := 42) rfl ?_); refine goesL_ (some 43) rfl rfl Try.func42 (by kernel_rfl) rfl #[.slice Ao17 x8_2.length co17] rfl (by simp only [zA_, zB_, zD_] <;> rfl) ?_; (with_reducible refine (spec_CleanClause.calls k2 _ _ x8_2 t216 t217 _ ?side1 ?side2 A16.out).mono ?_); (case side1 => exact zC_ (Kd.R_reads' HO_8.out).2.2); (case side2 => exact (Kd.R_reads' HO_8.out).2.1); rintro e w18 ⟨v218, rfl, ho0, hb⟩; refine ⟨_, rfl, ?_⟩; have n0_ := Aside0.mk (Kd.R_elder' (zR_ HO_8.out) (Kd.R_base ho0) hb); have n1_ := Aside0.mk (Kd.R_lower (Kd.R_new' ho0 (Kd.R_lt (zR_ HO_8.out))) (below_size (zb_ HB.out))); have n2_ := Aside0.mk (below_step (zb_ HB.out) hb); clear HO_8; clear HB; have HO_8 := n0_; have HO219 := n1_; have HB := n2_; clear n0_ n1_ n2_; (try clear hb); (try clear hb2); (try clear hk); (try clear hi); (try clear ho0)))
       go_ret2
       exact ⟨_, by first | rfl | (simp [errW_none, errW_some] <;> rfl) | (simp [*, errW_none, errW_some] <;> rfl), by (with_reducible repeat (first | apply Kd.R_alloc | apply Kd.R_drewN | apply Kd.R_drew)); exact Kd.R_mono HO219.out (fun _ hk => trivial), zb_ HB.out⟩
end Go.Proofs.Ytpkbjgmeejlchab.PFnFollows
-- squeezed
