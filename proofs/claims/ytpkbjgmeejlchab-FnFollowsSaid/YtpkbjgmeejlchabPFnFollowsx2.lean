-- Made by a program of this session (wip/tools), which leans on the kit's print: checked by Lean alone.
import Derived.Test.YtpkbjgmeejlchabPFnFollowsx0
import Derived.Test.YtpkbjgmeejlchabPFnFollowsx1
namespace Go.Proofs.Ytpkbjgmeejlchab.PFnFollows
open Go.RowKit Go.Proofs.YtpkbjgmeejlchabW.PrintWords Go.Proofs.YtpkbjgmeejlchabW.PrintLast Go.Proofs.YtpkbjgmeejlchabW.PrintMore
attribute [local go_sem] max2_int min2_int max_two min_two max_three min_three max_four min_four   -- for this text's walks alone
set_option linter.unusedVariables false
set_option linter.unusedSimpArgs false
mutual
def spec_l1Cur_clauses.j0 : Nat → Int → List Int → Int → Int → Option (Int × (List (List Int)) × Int × Int)
 | 0, _, _, _, _ => none
 | k + 1, x4, x1000, x1001, x1002 => (spec_l1Cur_pick.f x1000 x1001 x1002 14).bind fun bt141 => (if x4 = 0 then (spec_l1Cur_clauses.j1 k x4 ([] : List (List Int)) 0 x1000 bt141.2.1 bt141.2.2) else (spec_l1Cur_clauses.j1 k x4 ([] : List (List Int)) bt141.1 x1000 bt141.2.1 bt141.2.2))
def spec_l1Cur_clauses.j1 : Nat → Int → List (List Int) → Int → List Int → Int → Int → Option (Int × (List (List Int)) × Int × Int)
 | 0, _, _, _, _, _, _ => none
 | k + 1, x4, x5, x6, x1000, x1001, x1002 => spec_l1Cur_clauses.l0 k x4 x5 x6 x1000 x1001 x1002
def spec_l1Cur_clauses.l0 : Nat → Int → List (List Int) → Int → List Int → Int → Int → Option (Int × (List (List Int)) × Int × Int)
 | 0, _, _, _, _, _, _ => none
 | k + 1, x4, x5, x6, x1000, x1001, x1002 => if x6 > 0 then ((spec_l1Cur_pick.f x1000 x1001 x1002 3).bind fun bt144 => (spec_l1Cur_clauses.l1 k x4 x5 x6 ([] : List Int) (wrap64 (1 + bt144.1)) x1000 bt144.2.1 bt144.2.2)) else (if (x5.length : Int) > 0 then ((spec_l1Cur_one.f x1000 x1001 x1002 30).bind fun bt160 => (if bt160.1 = true then (if 0 < (x5.length : Int) then ((spec_l1Cur_among.f x1000 bt160.2.1 bt160.2.2 (([0, 13, 1] : List Int))).bind fun bt167 => (if (rd_L2 x5 0).length < 17592186044416 then (some (x4, (x5.set (0 : Int).toNat ((rd_L2 x5 0) ++ [bt167.1])), bt167.2.1, bt167.2.2)) else (none))) else (none)) else (some (x4, x5, bt160.2.1, bt160.2.2)))) else (some (x4, x5, x1001, x1002)))
def spec_l1Cur_clauses.l1 : Nat → Int → List (List Int) → Int → List Int → Int → List Int → Int → Int → Option (Int × (List (List Int)) × Int × Int)
 | 0, _, _, _, _, _, _, _, _ => none
 | k + 1, x4, x5, x6, x7, x8, x1000, x1001, x1002 => if x8 > 0 then ((spec_l1Cur_lit.f x1000 x1001 x1002 x4).bind fun bt147 => (if x7.length < 17592186044416 then (spec_l1Cur_clauses.l1 k x4 x5 x6 (x7 ++ [bt147.1]) (wrap64 (x8 - 1)) x1000 bt147.2.1 bt147.2.2) else (none))) else ((spec_CleanClause.f k x7).bind fun bt153 => (if bt153.2 = true then (if x5.length < 5864062014805 then (spec_l1Cur_clauses.l0 k x4 (x5 ++ [bt153.1]) (wrap64 (x6 - 1)) x1000 x1001 x1002) else (none)) else (spec_l1Cur_clauses.l0 k x4 x5 (wrap64 (x6 - 1)) x1000 x1001 x1002)))
end
def spec_l1Cur_clauses.f (k : Nat) (s0_0 : List Int) (s0_1 : Int) (s0_2 : Int) : Option (Int × (List (List Int)) × Int × Int) := (spec_l1Cur_pick.f s0_0 s0_1 s0_2 6).bind fun bt129 => ((spec_l1Cur_one.f s0_0 bt129.2.1 bt129.2.2 30).bind fun bt132 => (if bt132.1 = true then ((spec_l1Cur_among.f s0_0 bt132.2.1 bt132.2.2 (([0, 10, 13] : List Int))).bind fun bt138 => (spec_l1Cur_clauses.j0 k bt138.1 s0_0 bt138.2.1 bt138.2.2)) else (spec_l1Cur_clauses.j0 k (wrap64 (1 + bt129.1)) s0_0 bt132.2.1 bt132.2.2)))
theorem spec_l1Cur_clauses.mono_l : ∀ k, (∀ y0 y1 y2 y3, LeO (spec_l1Cur_clauses.j0 k y0 y1 y2 y3) (spec_l1Cur_clauses.j0 (k + 1) y0 y1 y2 y3)) ∧ (∀ y0 y1 y2 y3 y4 y5, LeO (spec_l1Cur_clauses.j1 k y0 y1 y2 y3 y4 y5) (spec_l1Cur_clauses.j1 (k + 1) y0 y1 y2 y3 y4 y5)) ∧ (∀ y0 y1 y2 y3 y4 y5, LeO (spec_l1Cur_clauses.l0 k y0 y1 y2 y3 y4 y5) (spec_l1Cur_clauses.l0 (k + 1) y0 y1 y2 y3 y4 y5)) ∧ (∀ y0 y1 y2 y3 y4 y5 y6 y7, LeO (spec_l1Cur_clauses.l1 k y0 y1 y2 y3 y4 y5 y6 y7) (spec_l1Cur_clauses.l1 (k + 1) y0 y1 y2 y3 y4 y5 y6 y7))
 | 0 => ⟨fun _ _ _ _ r h => by simp [spec_l1Cur_clauses.j0] at h, fun _ _ _ _ _ _ r h => by simp [spec_l1Cur_clauses.j1] at h, fun _ _ _ _ _ _ r h => by simp [spec_l1Cur_clauses.l0] at h, fun _ _ _ _ _ _ _ _ r h => by simp [spec_l1Cur_clauses.l1] at h⟩
 | k + 1 => by
  obtain ⟨ih0, ih1, ih2, ih3⟩ := spec_l1Cur_clauses.mono_l k
  refine ⟨?_, ?_, ?_, ?_⟩
  ·intro y0 y1 y2 y3
   unfold spec_l1Cur_clauses.j0
   repeat' first
   | (with_reducible exact ih0 _ _ _ _)
   | (with_reducible exact ih1 _ _ _ _ _ _)
   | (with_reducible exact ih2 _ _ _ _ _ _)
   | (with_reducible exact ih3 _ _ _ _ _ _ _ _)
   | (with_reducible exact spec_CleanClause.mono _ _)
   | (with_reducible exact LeO.refl _)
   | (with_reducible exact LeO.none _)
   | (with_reducible refine LeO.ite ?_ ?_)
   | (with_reducible refine LeO.bind ?_ (fun _ => ?_))
   | exact ih0 _ _ _ _
   | exact ih1 _ _ _ _ _ _
   | exact ih2 _ _ _ _ _ _
   | exact ih3 _ _ _ _ _ _ _ _
   | exact spec_CleanClause.mono _ _
   | exact LeO.none _
   | refine LeO.ite ?_ ?_
   | refine LeO.bind ?_ (fun _ => ?_)
  ·intro y0 y1 y2 y3 y4 y5
   unfold spec_l1Cur_clauses.j1
   repeat' first
   | (with_reducible exact ih0 _ _ _ _)
   | (with_reducible exact ih1 _ _ _ _ _ _)
   | (with_reducible exact ih2 _ _ _ _ _ _)
   | (with_reducible exact ih3 _ _ _ _ _ _ _ _)
   | (with_reducible exact spec_CleanClause.mono _ _)
   | (with_reducible exact LeO.refl _)
   | (with_reducible exact LeO.none _)
   | (with_reducible refine LeO.ite ?_ ?_)
   | (with_reducible refine LeO.bind ?_ (fun _ => ?_))
   | exact ih0 _ _ _ _
   | exact ih1 _ _ _ _ _ _
   | exact ih2 _ _ _ _ _ _
   | exact ih3 _ _ _ _ _ _ _ _
   | exact spec_CleanClause.mono _ _
   | exact LeO.none _
   | refine LeO.ite ?_ ?_
   | refine LeO.bind ?_ (fun _ => ?_)
  ·intro y0 y1 y2 y3 y4 y5
   unfold spec_l1Cur_clauses.l0
   repeat' first
   | (with_reducible exact ih0 _ _ _ _)
   | (with_reducible exact ih1 _ _ _ _ _ _)
   | (with_reducible exact ih2 _ _ _ _ _ _)
   | (with_reducible exact ih3 _ _ _ _ _ _ _ _)
   | (with_reducible exact spec_CleanClause.mono _ _)
   | (with_reducible exact LeO.refl _)
   | (with_reducible exact LeO.none _)
   | (with_reducible refine LeO.ite ?_ ?_)
   | (with_reducible refine LeO.bind ?_ (fun _ => ?_))
   | exact ih0 _ _ _ _
   | exact ih1 _ _ _ _ _ _
   | exact ih2 _ _ _ _ _ _
   | exact ih3 _ _ _ _ _ _ _ _
   | exact spec_CleanClause.mono _ _
   | exact LeO.none _
   | refine LeO.ite ?_ ?_
   | refine LeO.bind ?_ (fun _ => ?_)
  ·intro y0 y1 y2 y3 y4 y5 y6 y7
   unfold spec_l1Cur_clauses.l1
   repeat' first
   | (with_reducible exact ih0 _ _ _ _)
   | (with_reducible exact ih1 _ _ _ _ _ _)
   | (with_reducible exact ih2 _ _ _ _ _ _)
   | (with_reducible exact ih3 _ _ _ _ _ _ _ _)
   | (with_reducible exact spec_CleanClause.mono _ _)
   | (with_reducible exact LeO.refl _)
   | (with_reducible exact LeO.none _)
   | (with_reducible refine LeO.ite ?_ ?_)
   | (with_reducible refine LeO.bind ?_ (fun _ => ?_))
   | exact ih0 _ _ _ _
   | exact ih1 _ _ _ _ _ _
   | exact ih2 _ _ _ _ _ _
   | exact ih3 _ _ _ _ _ _ _ _
   | exact spec_CleanClause.mono _ _
   | exact LeO.none _
   | refine LeO.ite ?_ ?_
   | refine LeO.bind ?_ (fun _ => ?_)
theorem spec_l1Cur_clauses.mono : ∀ a0 a1 a2 k, LeO (spec_l1Cur_clauses.f k a0 a1 a2) (spec_l1Cur_clauses.f (k + 1) a0 a1 a2) := by
 intro a0 a1 a2 k
 obtain ⟨ih0, ih1, ih2, ih3⟩ := spec_l1Cur_clauses.mono_l k
 unfold spec_l1Cur_clauses.f
 repeat' first
   | (with_reducible exact ih0 _ _ _ _)
   | (with_reducible exact ih1 _ _ _ _ _ _)
   | (with_reducible exact ih2 _ _ _ _ _ _)
   | (with_reducible exact ih3 _ _ _ _ _ _ _ _)
   | (with_reducible exact spec_CleanClause.mono _ _)
   | (with_reducible exact LeO.refl _)
   | (with_reducible exact LeO.none _)
   | (with_reducible refine LeO.ite ?_ ?_)
   | (with_reducible refine LeO.bind ?_ (fun _ => ?_))
   | exact ih0 _ _ _ _
   | exact ih1 _ _ _ _ _ _
   | exact ih2 _ _ _ _ _ _
   | exact ih3 _ _ _ _ _ _ _ _
   | exact spec_CleanClause.mono _ _
   | exact LeO.none _
   | refine LeO.ite ?_ ?_
   | refine LeO.bind ?_ (fun _ => ?_)
def spec_l1Cur_clauses.T19 : Bool × List (List Nat × List Nat) := (true, [([], []), ([], []), ([1], [1]), ([2], [2]), ([], []), ([], []), ([4, 5], [4, 5]), ([6], [6]), ([3, 7, 6], [3, 7]), ([0, 0, 1, 2, 3, 4, 5, 6, 7, 8], [0]), ([9, 8, 8, 0, 1, 2, 3, 4, 5, 6, 7, 8], [8, 9])])
def spec_l1Cur_clauses.B19 : List Nat := [0, 0, 2, 6, 0, 0, 48, 112, 254, 511, 1023]
theorem spec_l1Cur_clauses.tab19 : rtab .any (opsOf Try.f75 19) = spec_l1Cur_clauses.T19 := by kernel_rfl
theorem spec_l1Cur_clauses.bits19 : waitsOk spec_l1Cur_clauses.T19.2 spec_l1Cur_clauses.B19 = true := by kernel_rfl
set_option maxHeartbeats 8000000 in
set_option maxRecDepth 100000 in
theorem spec_l1Cur_clauses.calls (k : Nat) (g : Nat) (s0_0 : List Int) (s0_1 : Int) (s0_2 : Int) (r1 : Int) (r2 : List (List Int)) (r3 : Int) (r4 : Int) (w0 w : World) (hI : IsS69 w0 w g s0_0 s0_1 s0_2) (hB : Below w0.heap.size w0 w) (h : spec_l1Cur_clauses.f k s0_0 s0_1 s0_2 = some (r1, r2, r3, r4)) :
  Calls Try.prog 75 #[.pointer (some ⟨g, 0, none⟩)] w fun e w' => ∃ v1_ : Value, e = .returned (.tuple #[.int .i64 r1, v1_]) ∧ Kd.S (Kd.slice 3 (Kd.int .i64)) 24 w' w.heap.size (fun _ => True) v1_ r2 ∧ IsS69 w0 w' g s0_0 r3 r4 ∧ Below w0.heap.size w0 w' ∧ KeepBut w w' g none := by
 have HI0 := Aside0.mk hI
 have HK := Aside0.mk (KeepBut.refl w g none)
 have HL := Aside0.mk hB.size
 clear hI
 have HW0 := Aside0.mk hB.size
 have HB := Aside0.mk hB
 clear hB
 have H : ((spec_l1Cur_pick.f s0_0 s0_1 s0_2 6).bind fun bt129 => ((spec_l1Cur_one.f s0_0 bt129.2.1 bt129.2.2 30).bind fun bt132 => (if bt132.1 = true then ((spec_l1Cur_among.f s0_0 bt132.2.1 bt132.2.2 (([0, 10, 13] : List Int))).bind fun bt138 => (spec_l1Cur_clauses.j0 k bt138.1 s0_0 bt138.2.1 bt138.2.2)) else (spec_l1Cur_clauses.j0 k (wrap64 (1 + bt129.1)) s0_0 bt132.2.1 bt132.2.2)))) = some (r1, r2, r3, r4) := h
 clear h
 replace H := Option.bind_eq_some_iff.mp H
 obtain ⟨⟨t129, t130, t131⟩, A20, H⟩ := H
 (try dsimp only at H)
 have A2 := Aside0.mk A20
 clear A20
 replace H := Option.bind_eq_some_iff.mp H
 obtain ⟨⟨t132, t133, t134⟩, A30, H⟩ := H
 (try dsimp only at H)
 have A3 := Aside0.mk A30
 clear A30
 have HC4 := Aside0.mk H
 clear H
 go_enter Try.func75, Try.ntmps75
 go_upto_if 15 with (first | ((with_reducible refine gate_callee (f := 70) rfl ?_); refine goesL_ (some 12) rfl rfl Try.func70 (by kernel_rfl) rfl #[.pointer (some ⟨g, 0, none⟩), .int .i64 6] rfl (by simp only [zA_, zB_, zD_] <;> rfl) ?_; (with_reducible refine (spec_l1Cur_pick.calls g s0_0 s0_1 s0_2 6 t129 t130 t131 w0 _ ?side1 ?side2 A2.out).mono ?_); (case side1 => exact IsS69.g HI0.out); (case side2 => exact zb_ HB.out); rintro e w5 ⟨rfl, hi, hb, hk⟩; refine ⟨_, rfl, ?_⟩; have n0_ := Aside0.mk (KeepBut.trans (zK_ HK.out) hk (.inl rfl)); have n1_ := Aside0.mk (hb); have n2_ := Aside0.mk (hi); clear HK; clear HB; clear HI0; have HK := n0_; have HB := n1_; have HI0 := n2_; clear n0_ n1_ n2_; (try clear hb); (try clear hb2); (try clear hk); (try clear hi)) | ((with_reducible refine gate_callee (f := 56) rfl ?_); refine goesL_ (some 15) rfl rfl Try.func56 (by kernel_rfl) rfl #[.pointer (some ⟨g, 0, none⟩), .int .i64 30] rfl (by simp only [zA_, zB_, zD_] <;> rfl) ?_; (with_reducible refine (spec_l1Cur_one.calls g s0_0 t130 t131 30 t132 t133 t134 w0 _ ?side1 ?side2 A3.out).mono ?_); (case side1 => exact IsS69.g HI0.out); (case side2 => exact zb_ HB.out); rintro e w6 ⟨rfl, hi, hb, hk⟩; refine ⟨_, rfl, ?_⟩; have n0_ := Aside0.mk (KeepBut.trans (zK_ HK.out) hk (.inl rfl)); have n1_ := Aside0.mk (hb); have n2_ := Aside0.mk (hi); clear HK; clear HB; clear HI0; have HK := n0_; have HB := n1_; have HI0 := n2_; clear n0_ n1_ n2_; (try clear hb); (try clear hb2); (try clear hk); (try clear hi)))
 (try simp only [Act.put, List.setIfInBounds_toArray, List.set_cons_zero, List.set_cons_succ])
 go_cut [4] (fun v4 wc => ∃ (kq : Nat) (x4_3 : Int) (x1001_3 : Int) (x1002_3 : Int), v4 = .int .i64 x4_3 ∧ Aside0 (spec_l1Cur_clauses.j0 kq x4_3 s0_0 x1001_3 x1002_3 = some (r1, r2, r3, r4)) ∧ Aside0 (kq ≤ k) ∧ Aside0 (IsS69 w0 wc g s0_0 x1001_3 x1002_3) ∧ Aside0 (KeepBut w wc g none) ∧ Aside0 (Below w0.heap.size w0 wc))
 case first =>
  have H := HC4.out
  clear HC4
  by_cases c7 : t132 = true
  ·subst c7
   have H1 : ((spec_l1Cur_among.f s0_0 t133 t134 (([0, 10, 13] : List Int))).bind fun bt138 => (spec_l1Cur_clauses.j0 k bt138.1 s0_0 bt138.2.1 bt138.2.2)) = some (r1, r2, r3, r4) := by rw [if_pos rfl] at H; exact H
   clear H
   have H := H1
   clear H1
   obtain ⟨y135, hy135⟩ : ∃ y_ : List Int, y_ = (([0, 10, 13] : List Int)) := ⟨_, rfl⟩
   replace H : ((spec_l1Cur_among.f s0_0 t133 t134 y135).bind fun bt138 => (spec_l1Cur_clauses.j0 k bt138.1 s0_0 bt138.2.1 bt138.2.2)) = some (r1, r2, r3, r4) := by first | (rw [hy135]; with_reducible exact H) | (have H2_ := (Option.bind_some _ _).symm.trans H; rw [hy135]; with_reducible exact H2_) | (have H2_ := (Option.bind_some _ _).symm.trans H; with_reducible exact H2_) | with_reducible exact H | (rw [hy135]; exact H) | exact H
   have Ny135 := Aside0.mk hy135
   clear hy135
   replace H := Option.bind_eq_some_iff.mp H
   obtain ⟨⟨t138, t139, t140⟩, A80, H⟩ := H
   (try dsimp only at H)
   have A8 := Aside0.mk A80
   clear A80
   have H' := Aside0.mk H
   clear H
   go_wp2_with (first | ((with_reducible refine gate_dst (N := 17) rfl ?_); refine Kd.R_lit (Kd.int .i64) _ 3 ?hg (N := 17) ?hd (xs := ([0, 10, 13] : List Int)) (inner := [.int .i64 0, .int .i64 10, .int .i64 13]) (ok := fun _ => True) (okp := fun _ => True) ?hr ?hp (fun _ hk => hk) trivial (Below.refl _ _) (Nat.le_refl _) (by simp) ?_; (case hd => rfl); (case hg => rfl); (case hr => first | (go_simp; done) | (go_simp; rfl)); (case hp => exact (Reps.one (show Kd.M (Kd.int .i64) _ _ _ 0 [.int .i64 0] from rfl) (Reps.one (show Kd.M (Kd.int .i64) _ _ _ 10 [.int .i64 10] from rfl) (Reps.one (show Kd.M (Kd.int .i64) _ _ _ 13 [.int .i64 13] from rfl) (Reps.none _ _))))); intro v136 w9 ho10 hb hg_ hnew_; clear hg_ hnew_; (first | rw [← Ny135.out] at ho10 | (simp only [Int.reduceToNat] at ho10; rw [← Ny135.out] at ho10)); have n0_ := Aside0.mk (Kd.R_lower ho10 (keep_size (w := w) (g := g) (row := none) (zK_ HK.out))); have n1_ := Aside0.mk (IsS69.below (IsS69.g HI0.out) hb); have n2_ := Aside0.mk (KeepBut.trans (zK_ HK.out) (KeepBut.of_below hb g none) (.inl rfl)); have n3_ := Aside0.mk (below_step (zb_ HB.out) hb); clear HI0; clear HK; clear HB; have HO137 := n0_; have HI0 := n1_; have HK := n2_; have HB := n3_; clear n0_ n1_ n2_ n3_; clear hb ho10; obtain ⟨Ao11, co11, eo11⟩ := Kd.R_slice HO137.out; subst eo11) | ((with_reducible refine gate_callee (f := 90) rfl ?_); refine goesL_ (some 18) rfl rfl Try.func90 (by kernel_rfl) rfl #[.pointer (some ⟨g, 0, none⟩), .slice Ao11 y135.length co11] rfl (by simp only [zA_, zB_, zD_] <;> rfl) ?_; (with_reducible refine (spec_l1Cur_among.calls g s0_0 t133 t134 _ _ y135 t138 t139 t140 w0 _ ?side1 ?side2 ?side3 ?side4 ?side5 A8.out).mono ?_); (case side1 => exact IsS69.g HI0.out); (case side2 => exact zb_ HB.out); (case side3 => exact zC_ (Kd.R_reads' HO137.out).2.2); (case side4 => exact (Kd.R_reads' HO137.out).2.1); (case side5 => exact far_slice (IsS69.own_ne HI0.out HO137.out (by decide))); rintro e w12 ⟨rfl, hi, hb, hk⟩; refine ⟨_, rfl, ?_⟩; have n0_ := Aside0.mk (Kd.R_mono (Kd.R_keep (IsS69.apart (show IsS69 w0 _ g s0_0 t133 t134 from IsS69.g HI0.out) (zR_ HO137.out) (by decide)) hk (fun _ h => h.2)) (fun _ h => h.1)); have n1_ := Aside0.mk (KeepBut.trans (zK_ HK.out) hk (.inl rfl)); have n2_ := Aside0.mk (hb); have n3_ := Aside0.mk (hi); clear HO137; clear HK; clear HB; clear HI0; have HO137 := n0_; have HK := n1_; have HB := n2_; have HI0 := n3_; clear n0_ n1_ n2_ n3_; (try clear hb); (try clear hb2); (try clear hk); (try clear hi)))
   go_meet
   case rel => exact ⟨_, (t138), (t139), (t140), (by first | rfl | (simp; done) | (simp [*]; done)), H', ⟨by first | omega | exact Nat.le_refl _⟩, ⟨IsS69.g HI0.out⟩, ⟨zK_ HK.out⟩, ⟨zb_ HB.out⟩⟩
  ·replace c7 := Bool.eq_false_iff.mpr c7
   subst c7
   have H1 : (spec_l1Cur_clauses.j0 k (wrap64 (1 + t129)) s0_0 t133 t134) = some (r1, r2, r3, r4) := by rw [if_neg (show ¬ (false = true) by decide)] at H; exact H
   clear H
   have H := H1
   clear H1
   have H' := Aside0.mk H
   clear H
   go_wp2
   go_meet
   case rel => exact ⟨_, (wrap64 (1 + t129)), (t133), (t134), (by first | rfl | (simp; done) | (simp [*]; done)), H', ⟨by first | omega | exact Nat.le_refl _⟩, ⟨IsS69.g HI0.out⟩, ⟨zK_ HK.out⟩, ⟨zb_ HB.out⟩⟩
 case rest =>
  clear HC4
  try clear p2
  try clear c5
  try clear p6
  try clear c7
  try clear c9
  obtain ⟨kq, x4_3, x1001_3, x1002_3, rfl, HA, HJ3, HI0, HK, HB⟩ := hcut
  cases kq with
  | zero => exact absurd HA.out (by simp [spec_l1Cur_clauses.j0])
  | succ kj3 =>
   have H := HA.out
   clear HA
   simp only [spec_l1Cur_clauses.j0] at H
   replace H := Option.bind_eq_some_iff.mp H
   obtain ⟨⟨t141, t142, t143⟩, A130, H⟩ := H
   (try dsimp only at H)
   have A13 := Aside0.mk A130
   clear A130
   have HC14 := Aside0.mk H
   clear H
   go_upto_if 22 with (first | ((with_reducible refine gate_callee (f := 70) rfl ?_); refine goesL_ (some 20) rfl rfl Try.func70 (by kernel_rfl) rfl #[.pointer (some ⟨g, 0, none⟩), .int .i64 14] rfl (by simp only [zA_, zB_, zD_] <;> rfl) ?_; (with_reducible refine (spec_l1Cur_pick.calls g s0_0 x1001_3 x1002_3 14 t141 t142 t143 w0 _ ?side1 ?side2 A13.out).mono ?_); (case side1 => exact IsS69.g HI0.out); (case side2 => exact zb_ HB.out); rintro e w15 ⟨rfl, hi, hb, hk⟩; refine ⟨_, rfl, ?_⟩; have n0_ := Aside0.mk (KeepBut.trans (zK_ HK.out) hk (.inl rfl)); have n1_ := Aside0.mk (hb); have n2_ := Aside0.mk (hi); clear HK; clear HB; clear HI0; have HK := n0_; have HB := n1_; have HI0 := n2_; clear n0_ n1_ n2_; (try clear hb); (try clear hb2); (try clear hk); (try clear hi)))
   (try simp only [Act.put, List.setIfInBounds_toArray, List.set_cons_zero, List.set_cons_succ])
   go_cut [6] (fun v6 wc => ∃ (kq : Nat) (x6_13 : Int), v6 = .int .i64 x6_13 ∧ Aside0 (spec_l1Cur_clauses.j1 kq x4_3 ([] : List (List Int)) x6_13 s0_0 t142 t143 = some (r1, r2, r3, r4)) ∧ Aside0 (kq ≤ kj3) ∧ Aside0 (Kd.S (Kd.slice 3 (Kd.int .i64)) 24 wc w.heap.size (fun _ => True) (.slice none 0 0) ([] : List (List Int))) ∧ Aside0 (IsS69 w0 wc g s0_0 t142 t143) ∧ Aside0 (KeepBut w wc g none) ∧ Aside0 (Below w0.heap.size w0 wc))
   case first =>
    have H := HC14.out
    clear HC14
    by_cases c16 : x4_3 = 0
    ·rw [if_pos c16] at H
     have c16b0 : (x4_3 == 0) = true := beq_iff_eq.mpr c16
     have c16b1 : (x4_3 != 0) = false := bne_eq_false_iff_eq.mpr c16
     clear c16
     (first | rw [c16b0] | (simp only [i64_w, i32_w]; rw [c16b0]) | skip)
     have H' := Aside0.mk H
     clear H
     go_wp2
     go_meet
     case rel => exact ⟨_, (0), (by first | rfl | (simp; done) | (simp [*]; done)), H', ⟨by have := HJ3.out; first | omega | exact Nat.le_refl _⟩, ⟨by first | exact Kd.S_nil _ _ _ _ _ | exact Kd.N_nil _ _ _ _ _ | exact Kd.V_nil _ _ _ _ _ | exact Kd.Q_nil _ _ _ _ _ | exact Kd.R_nil _ _ _ _ _⟩, ⟨IsS69.g HI0.out⟩, ⟨zK_ HK.out⟩, ⟨zb_ HB.out⟩⟩
    ·rw [if_neg c16] at H
     have c16b0 : (x4_3 == 0) = false := beq_eq_false_iff_ne.mpr c16
     have c16b1 : (x4_3 != 0) = true := bne_iff_ne.mpr c16
     (first | rw [c16b0] | (simp only [i64_w, i32_w]; rw [c16b0]) | skip)
     have H' := Aside0.mk H
     clear H
     go_wp2
     go_meet
     case rel => exact ⟨_, (t141), (by first | rfl | (simp; done) | (simp [*]; done)), H', ⟨by have := HJ3.out; first | omega | exact Nat.le_refl _⟩, ⟨by first | exact Kd.S_nil _ _ _ _ _ | exact Kd.N_nil _ _ _ _ _ | exact Kd.V_nil _ _ _ _ _ | exact Kd.Q_nil _ _ _ _ _ | exact Kd.R_nil _ _ _ _ _⟩, ⟨IsS69.g HI0.out⟩, ⟨zK_ HK.out⟩, ⟨zb_ HB.out⟩⟩
   case rest =>
    clear HC14
    try clear c1
    try clear p2
    try clear c5
    try clear p6
    try clear c7
    try clear c9
    try clear c16
    try clear c16b0
    try clear c16b1
    try clear p2
    try clear p6
    obtain ⟨kq, x6_13, rfl, HA, HJ13, HO_5, HI0, HK, HB⟩ := hcut
    cases kq with
    | zero => exact absurd HA.out (by simp [spec_l1Cur_clauses.j1])
    | succ kj13 =>
     have H := HA.out
     clear HA
     simp only [spec_l1Cur_clauses.j1] at H
     have H' := Aside0.mk H
     clear H
     go_wp2
     go_loopg [5, 6] kj13 (fun kq v5 v6 w' => ∃ (x5_3 : List (List Int)) (x6_3 : Int) (x1001_3 : Int) (x1002_3 : Int), v6 = .int .i64 x6_3 ∧ Aside0 (spec_l1Cur_clauses.l0 kq x4_3 x5_3 x6_3 s0_0 x1001_3 x1002_3 = some (r1, r2, r3, r4)) ∧ Aside0 (kq ≤ kj13) ∧ Aside0 (Kd.S (Kd.slice 3 (Kd.int .i64)) 24 w' w.heap.size (fun _ => True) v5 x5_3) ∧ Aside0 (IsS69 w0 w' g s0_0 x1001_3 x1002_3) ∧ Aside0 (KeepBut w w' g none) ∧ Aside0 (Below w0.heap.size w0 w'))
     case atStart => exact ⟨(([] : List (List Int))), (x6_13), (t142), (t143), (by first | rfl | (simp; done) | (simp [*]; done)), H', ⟨Nat.le_refl _⟩, ⟨zS_ HO_5.out⟩, ⟨IsS69.g HI0.out⟩, ⟨zK_ HK.out⟩, ⟨zb_ HB.out⟩⟩
     case round =>
      clear H'
      try clear c1
      try clear p2
      try clear c5
      try clear p6
      try clear c7
      try clear c9
      try clear c16
      try clear c16b0
      try clear c16b1
      try clear p2
      try clear p6
      obtain ⟨x5_3, x6_3, x1001_3, x1002_3, rfl, HA, HK3, HO_5, HI0, HK, HB⟩ := hrel
      cases gk with
      | zero => exact absurd HA.out (by simp [spec_l1Cur_clauses.l0])
      | succ k3 =>
       have H := HA.out
       clear HA
       simp only [spec_l1Cur_clauses.l0] at H
       by_cases c17 : x6_3 > 0
       ·rw [if_pos c17] at H
        have c17b0 : decide (0 < x6_3) = true := decide_eq_true c17
        clear c17
        replace H := Option.bind_eq_some_iff.mp H
        obtain ⟨⟨t144, t145, t146⟩, A180, H⟩ := H
        (try dsimp only at H)
        have A18 := Aside0.mk A180
        clear A180
        have H' := Aside0.mk H
        clear H
        go_wp2_with (first | ((with_reducible refine gate_callee (f := 70) rfl ?_); refine goesL_ (some 28) rfl rfl Try.func70 (by kernel_rfl) rfl #[.pointer (some ⟨g, 0, none⟩), .int .i64 3] rfl (by simp only [zA_, zB_, zD_] <;> rfl) ?_; (with_reducible refine (spec_l1Cur_pick.calls g s0_0 x1001_3 x1002_3 3 t144 t145 t146 w0 _ ?side1 ?side2 A18.out).mono ?_); (case side1 => exact IsS69.g HI0.out); (case side2 => exact zb_ HB.out); rintro e w19 ⟨rfl, hi, hb, hk⟩; refine ⟨_, rfl, ?_⟩; have n0_ := Aside0.mk (Kd.S_mono (Kd.S_keep (IsS69.apartS (show IsS69 w0 _ g s0_0 x1001_3 x1002_3 from IsS69.g HI0.out) (zS_ HO_5.out) (by decide)) hk (fun _ h => h.2)) (fun _ h => h.1)); have n1_ := Aside0.mk (KeepBut.trans (zK_ HK.out) hk (.inl rfl)); have n2_ := Aside0.mk (hb); have n3_ := Aside0.mk (hi); clear HO_5; clear HK; clear HB; clear HI0; have HO_5 := n0_; have HK := n1_; have HB := n2_; have HI0 := n3_; clear n0_ n1_ n2_ n3_; (try clear hb); (try clear hb2); (try clear hk); (try clear hi)))
        go_loopg [7, 8] k3 (fun kq v7 v8 w' => ∃ (x7_4 : List Int) (x8_4 : Int) (x1001_4 : Int) (x1002_4 : Int), v8 = .int .i64 x8_4 ∧ Aside0 (spec_l1Cur_clauses.l1 kq x4_3 x5_3 x6_3 x7_4 x8_4 s0_0 x1001_4 x1002_4 = some (r1, r2, r3, r4)) ∧ Aside0 (kq ≤ k3) ∧ Aside0 (Kd.S (Kd.slice 3 (Kd.int .i64)) 24 w' w.heap.size (fun k_ => some k_ ≠ (v7 : Value).ownBlock) u5 x5_3) ∧ Aside0 (Kd.R (Kd.int .i64) 3 w' w.heap.size (fun _ => True) v7 x7_4) ∧ Aside0 (IsS69 w0 w' g s0_0 x1001_4 x1002_4) ∧ Aside0 (KeepBut w w' g none) ∧ Aside0 (Below w0.heap.size w0 w'))
        case atStart => exact ⟨(([] : List Int)), (wrap64 (1 + t144)), (t145), (t146), (by first | rfl | (simp; done) | (simp [*]; done)), H', ⟨Nat.le_refl _⟩, ⟨by (with_reducible repeat (first | apply Kd.S_alloc | apply Kd.S_drewN | apply Kd.S_drew)); exact Kd.S_mono HO_5.out (fun _ hk => (by simp [Value.ownBlock]))⟩, ⟨by first | exact Kd.R_nil _ _ _ _ _ | exact Kd.N_nil _ _ _ _ _ | exact Kd.V_nil _ _ _ _ _ | exact Kd.Q_nil _ _ _ _ _ | exact Kd.S_nil _ _ _ _ _⟩, ⟨IsS69.g HI0.out⟩, ⟨zK_ HK.out⟩, ⟨zb_ HB.out⟩⟩
        case round =>
         clear H'
         try clear c1
         try clear p2
         try clear c5
         try clear p6
         try clear c7
         try clear c9
         try clear c16
         try clear c16b0
         try clear c16b1
         try clear c17
         try clear c17b0
         try clear p2
         try clear p6
         obtain ⟨x7_4, x8_4, x1001_4, x1002_4, rfl, HA, HK4, HO_5, HO_7, HI0, HK, HB⟩ := hrel
         cases gk with
         | zero => exact absurd HA.out (by simp [spec_l1Cur_clauses.l1])
         | succ k4 =>
          have H := HA.out
          clear HA
          simp only [spec_l1Cur_clauses.l1] at H
          by_cases c20 : x8_4 > 0
          ·rw [if_pos c20] at H
           have c20b0 : decide (0 < x8_4) = true := decide_eq_true c20
           clear c20
           replace H := Option.bind_eq_some_iff.mp H
           obtain ⟨⟨t147, t148, t149⟩, A210, H⟩ := H
           (try dsimp only at H)
           have A21 := Aside0.mk A210
           clear A210
           by_cases c22 : x7_4.length < 17592186044416
           ·rw [if_pos c22] at H
            have LMc22 := Aside0.mk c22
            clear c22
            obtain ⟨y150, hy150⟩ : ∃ y_ : List Int, y_ = (x7_4 ++ [t147]) := ⟨_, rfl⟩
            replace H : (spec_l1Cur_clauses.l1 k4 x4_3 x5_3 x6_3 y150 (wrap64 (x8_4 - 1)) s0_0 t148 t149) = some (r1, r2, r3, r4) := by first | (rw [hy150]; with_reducible exact H) | (have H2_ := (Option.bind_some _ _).symm.trans H; rw [hy150]; with_reducible exact H2_) | (have H2_ := (Option.bind_some _ _).symm.trans H; with_reducible exact H2_) | with_reducible exact H | (rw [hy150]; exact H) | exact H
            have Ny150 := Aside0.mk hy150
            clear hy150
            have H' := Aside0.mk H
            clear H
            go_wp2_with (first | ((with_reducible refine gate_callee (f := 105) rfl ?_); refine goesL_ (some 37) rfl rfl Try.func105 (by kernel_rfl) rfl #[.pointer (some ⟨g, 0, none⟩), .int .i64 x4_3] rfl (by simp only [zA_, zB_, zD_] <;> rfl) ?_; (with_reducible refine (spec_l1Cur_lit.calls g s0_0 x1001_4 x1002_4 x4_3 t147 t148 t149 w0 _ ?side1 ?side2 A21.out).mono ?_); (case side1 => exact IsS69.g HI0.out); (case side2 => exact zb_ HB.out); rintro e w23 ⟨rfl, hi, hb, hk⟩; refine ⟨_, rfl, ?_⟩; have n0_ := Aside0.mk (Kd.S_mono (Kd.S_keep (IsS69.apartS (show IsS69 w0 _ g s0_0 x1001_4 x1002_4 from IsS69.g HI0.out) (zS_ HO_5.out) (by decide)) hk (fun _ h => h.2)) (fun _ h => h.1)); have n1_ := Aside0.mk (Kd.R_mono (Kd.R_keep (IsS69.apart (show IsS69 w0 _ g s0_0 x1001_4 x1002_4 from IsS69.g HI0.out) (zR_ HO_7.out) (by decide)) hk (fun _ h => h.2)) (fun _ h => h.1)); have n2_ := Aside0.mk (KeepBut.trans (zK_ HK.out) hk (.inl rfl)); have n3_ := Aside0.mk (hb); have n4_ := Aside0.mk (hi); clear HO_5; clear HO_7; clear HK; clear HB; clear HI0; have HO_5 := n0_; have HO_7 := n1_; have HK := n2_; have HB := n3_; have HI0 := n4_; clear n0_ n1_ n2_ n3_ n4_; (try clear hb); (try clear hb2); (try clear hk); (try clear hi)) | ((with_reducible refine gate_builtin (b := .append) (xs := #[.tmp 34, .tmp 38]) rfl ?_); at_builtin; refine Kd.R_append (Kd.int .i64) w.heap.size rfl (.tmp 34) (.tmp 38) 24 3 (.int .i64 0) 8 rfl Try.underlying24 info3 rfl (by decide) (by omega) u7 x7_4 t147 [.int .i64 t147] (fun _ => True) (fun _ => False) rfl rfl ?aP (fun _ hk => hk.elim) ?aF ?aO (Below.refl _ _) ?aS ?aL ?_; (case aP => exact rfl); (case aF => exact (fun _ _ => trivial)); (case aO => exact (zR_ HO_7.out)); (case aS => exact (keep_size (w := w) (g := g) (row := none) (zK_ HK.out))); (case aL => have := LMc22.out; omega); intro v151 w24 ho hb hg hat; rw [← Ny150.out] at ho; have n0_ := Aside0.mk (Kd.S_after (ok := (fun _ => True)) (by (with_reducible repeat (first | apply Kd.S_alloc | apply Kd.S_drewN | apply Kd.S_drew)); exact Kd.S_mono HO_5.out (fun _ hk => ⟨trivial, hk⟩)) hg hat); have n1_ := Aside0.mk (IsS69.grown (IsS69.g HI0.out) hg (IsS69.own_ne HI0.out HO_7.out (by decide))); have n2_ := Aside0.mk (below_weaken (zb_ HB.out) HL.out hb); have n3_ := Aside0.mk (KeepBut.trans (zK_ HK.out) (KeepBut.of_grown hg g) (Kd.R_base2 HO_7.out)); have n4_ := Aside0.mk (ho); clear HO_5; clear HI0; clear HB; clear HK; clear HO_7; have HO_5 := n0_; have HI0 := n1_; have HB := n2_; have HK := n3_; have HO152 := n4_; clear n0_ n1_ n2_ n3_ n4_; clear ho hb hg hat))
            go_roundg k4
            case measure => have := HJ3.out; have := HJ13.out; have := HK3.out; have := HK4.out; omega
            case rel => exact ⟨(y150), (wrap64 (x8_4 - 1)), (t148), (t149), (by first | rfl | (simp; done) | (simp [*]; done)), H', ⟨by have := HJ3.out; have := HJ13.out; have := HK3.out; have := HK4.out; omega⟩, ⟨by (with_reducible repeat (first | apply Kd.S_alloc | apply Kd.S_drewN | apply Kd.S_drew)); exact Kd.S_mono HO_5.out (fun _ hk => hk.2)⟩, ⟨zR_ HO152.out⟩, ⟨IsS69.g HI0.out⟩, ⟨zK_ HK.out⟩, ⟨zb_ HB.out⟩⟩
           ·rw [if_neg c22] at H
            exact absurd H (by simp)
          ·rw [if_neg c20] at H
           have c20b0 : decide (0 < x8_4) = false := decide_eq_false c20
           clear c20
           replace H := Option.bind_eq_some_iff.mp H
           obtain ⟨⟨t153, t154⟩, A250, H⟩ := H
           (try dsimp only at H)
           have A25 := Aside0.mk A250
           clear A250
           by_cases c26 : t154 = true
           ·subst c26
            have H1 : (if x5_3.length < 5864062014805 then (spec_l1Cur_clauses.l0 k4 x4_3 (x5_3 ++ [t153]) (wrap64 (x6_3 - 1)) s0_0 x1001_4 x1002_4) else (none)) = some (r1, r2, r3, r4) := by rw [if_pos rfl] at H; exact H
            clear H
            have H := H1
            clear H1
            by_cases c27 : x5_3.length < 5864062014805
            ·rw [if_pos c27] at H
             have LMc27 := Aside0.mk c27
             clear c27
             obtain ⟨y157, hy157⟩ : ∃ y_ : List (List Int), y_ = (x5_3 ++ [t153]) := ⟨_, rfl⟩
             replace H : (spec_l1Cur_clauses.l0 k4 x4_3 y157 (wrap64 (x6_3 - 1)) s0_0 x1001_4 x1002_4) = some (r1, r2, r3, r4) := by first | (rw [hy157]; with_reducible exact H) | (have H2_ := (Option.bind_some _ _).symm.trans H; rw [hy157]; with_reducible exact H2_) | (have H2_ := (Option.bind_some _ _).symm.trans H; with_reducible exact H2_) | with_reducible exact H | (rw [hy157]; exact H) | exact H
             have Ny157 := Aside0.mk hy157
             clear hy157
             have H' := Aside0.mk H
             clear H
             obtain ⟨Ao28, co28, eo28⟩ := Kd.R_slice HO_7.out
             subst eo28
             go_wp2_with (first | ((with_reducible refine gate_callee (f := 42) rfl ?_); refine goesL_ (some 42) rfl rfl Try.func42 (by kernel_rfl) rfl #[.slice Ao28 x7_4.length co28] rfl (by simp only [zA_, zB_, zD_] <;> rfl) ?_; (with_reducible refine (spec_CleanClause.calls k4 _ _ x7_4 t153 true _ ?side1 ?side2 A25.out).mono ?_); (case side1 => exact zC_ (Kd.R_reads' HO_7.out).2.2); (case side2 => exact (Kd.R_reads' HO_7.out).2.1); rintro e w29 ⟨v155, rfl, ho0, hb⟩; refine ⟨_, rfl, ?_⟩; have n0_ := Aside0.mk (Kd.S_elder' (zS_ HO_5.out) (Kd.R_base ho0) hb); have n1_ := Aside0.mk (Kd.R_elder' (zR_ HO_7.out) (Kd.R_base ho0) hb); have n2_ := Aside0.mk (Kd.R_lower (Kd.R_new' ho0 (Kd.R_lt (zR_ HO_7.out))) (keep_size (w := w) (g := g) (row := none) (zK_ HK.out))); have n3_ := Aside0.mk (IsS69.below (IsS69.g HI0.out) hb); have n4_ := Aside0.mk (KeepBut.trans (zK_ HK.out) (KeepBut.of_below hb g none) (.inl rfl)); have n5_ := Aside0.mk (below_step (zb_ HB.out) hb); clear HO_5; clear HO_7; clear HI0; clear HK; clear HB; have HO_5 := n0_; have HO_7 := n1_; have HO156 := n2_; have HI0 := n3_; have HK := n4_; have HB := n5_; clear n0_ n1_ n2_ n3_ n4_ n5_; (try clear hb); (try clear hb2); (try clear hk); (try clear hi); (try clear ho0); obtain ⟨Ao31, co31, eo31⟩ := Kd.R_slice HO156.out; subst eo31) | ((with_reducible refine gate_builtin (b := .append) (xs := #[.tmp 46, .tmp 48]) rfl ?_); at_builtin; refine Kd.S_append (Kd.slice 3 (Kd.int .i64)) w.heap.size rfl (.tmp 46) (.tmp 48) 23 24 (.slice none 0 0) 24 rfl Try.underlying23 info24 rfl (by decide) (by omega) u5 x5_3 t153 [.slice Ao31 t153.length co31] (fun k_ => some k_ ≠ (.slice Ao28 x7_4.length co28 : Value).ownBlock) (fun k_ => some k_ = (.slice Ao31 t153.length co31 : Value).ownBlock) rfl rfl ?aP (fun k_ hk_ => ((Kd.R_mono (ok' := fun k_ => ((fun k_ => some k_ ≠ (.slice Ao28 x7_4.length co28 : Value).ownBlock)) k_ ∧ some k_ ≠ (u5 : Value).ownBlock) (Kd.R_apart' (HO156.out) (Kd.S_typed HO_5.out) (by decide)) (fun k_ hk => ⟨hk.1.2, hk.2⟩))).1 k_ hk_.symm) ?aF ?aO (Below.refl _ _) ?aS ?aL ?_; (case aP => exact Kd.M_row (Kd.R_mono (Kd.R_tight rfl (Kd.R_mono (ok' := fun k_ => ((fun k_ => some k_ ≠ (.slice Ao28 x7_4.length co28 : Value).ownBlock)) k_ ∧ some k_ ≠ (u5 : Value).ownBlock) (Kd.R_apart' (HO156.out) (Kd.S_typed HO_5.out) (by decide)) (fun k_ hk => ⟨hk.1.2, hk.2⟩))) (fun _ h_ => h_))); (case aF => exact (fun k_ hk => Kd.fresh' (Kd.R_lt (zR_ HO_7.out)) k_ hk)); (case aO => exact (by (with_reducible repeat (first | apply Kd.S_alloc | apply Kd.S_drewN | apply Kd.S_drew)); exact Kd.S_mono HO_5.out (fun k_ hk => ⟨hk.1, fun e_ => hk.2 e_⟩))); (case aS => exact (keep_size (w := w) (g := g) (row := none) (zK_ HK.out))); (case aL => have := LMc27.out; omega); intro v158 w30 ho hb hg hat; rw [← Ny157.out] at ho; have n0_ := Aside0.mk (Kd.R_over' (zR_ HO_7.out) (Kd.S_typed (zS_ HO_5.out)) (by decide) hg); have n1_ := Aside0.mk (IsS69.grown (IsS69.g HI0.out) hg (IsS69.own_neS HI0.out HO_5.out (by decide))); have n2_ := Aside0.mk (below_weaken (zb_ HB.out) HL.out hb); have n3_ := Aside0.mk (KeepBut.trans (zK_ HK.out) (KeepBut.of_grown hg g) (Kd.S_base2 HO_5.out)); have n4_ := Aside0.mk (ho); clear HO_7; clear HI0; clear HB; clear HK; clear HO_5; clear HO156; have HO_7 := n0_; have HI0 := n1_; have HB := n2_; have HK := n3_; have HO159 := n4_; clear n0_ n1_ n2_ n3_ n4_; clear ho hb hg hat))
             go_roundg k4
             case measure => have := HJ3.out; have := HJ13.out; have := HK3.out; have := HK4.out; omega
             case rel => exact ⟨(y157), (wrap64 (x6_3 - 1)), (x1001_4), (x1002_4), (by first | rfl | (simp; done) | (simp [*]; done)), H', ⟨by have := HJ3.out; have := HJ13.out; have := HK3.out; have := HK4.out; omega⟩, ⟨by (with_reducible repeat (first | apply Kd.S_alloc | apply Kd.S_drewN | apply Kd.S_drew)); exact Kd.S_mono HO159.out (fun _ hk => trivial)⟩, ⟨IsS69.g HI0.out⟩, ⟨zK_ HK.out⟩, ⟨zb_ HB.out⟩⟩
            ·rw [if_neg c27] at H
             exact absurd H (by simp)
           ·replace c26 := Bool.eq_false_iff.mpr c26
            subst c26
            have H1 : (spec_l1Cur_clauses.l0 k4 x4_3 x5_3 (wrap64 (x6_3 - 1)) s0_0 x1001_4 x1002_4) = some (r1, r2, r3, r4) := by rw [if_neg (show ¬ (false = true) by decide)] at H; exact H
            clear H
            have H := H1
            clear H1
            have H' := Aside0.mk H
            clear H
            obtain ⟨Ao32, co32, eo32⟩ := Kd.R_slice HO_7.out
            subst eo32
            go_wp2_with (first | ((with_reducible refine gate_callee (f := 42) rfl ?_); refine goesL_ (some 42) rfl rfl Try.func42 (by kernel_rfl) rfl #[.slice Ao32 x7_4.length co32] rfl (by simp only [zA_, zB_, zD_] <;> rfl) ?_; (with_reducible refine (spec_CleanClause.calls k4 _ _ x7_4 t153 false _ ?side1 ?side2 A25.out).mono ?_); (case side1 => exact zC_ (Kd.R_reads' HO_7.out).2.2); (case side2 => exact (Kd.R_reads' HO_7.out).2.1); rintro e w33 ⟨v155, rfl, ho0, hb⟩; refine ⟨_, rfl, ?_⟩; have n0_ := Aside0.mk (Kd.S_elder' (zS_ HO_5.out) (Kd.R_base ho0) hb); have n1_ := Aside0.mk (Kd.R_elder' (zR_ HO_7.out) (Kd.R_base ho0) hb); have n2_ := Aside0.mk (Kd.R_lower (Kd.R_new' ho0 (Kd.R_lt (zR_ HO_7.out))) (keep_size (w := w) (g := g) (row := none) (zK_ HK.out))); have n3_ := Aside0.mk (IsS69.below (IsS69.g HI0.out) hb); have n4_ := Aside0.mk (KeepBut.trans (zK_ HK.out) (KeepBut.of_below hb g none) (.inl rfl)); have n5_ := Aside0.mk (below_step (zb_ HB.out) hb); clear HO_5; clear HO_7; clear HI0; clear HK; clear HB; have HO_5 := n0_; have HO_7 := n1_; have HO156 := n2_; have HI0 := n3_; have HK := n4_; have HB := n5_; clear n0_ n1_ n2_ n3_ n4_ n5_; (try clear hb); (try clear hb2); (try clear hk); (try clear hi); (try clear ho0)))
            go_roundg k4
            case measure => have := HJ3.out; have := HJ13.out; have := HK3.out; have := HK4.out; omega
            case rel => exact ⟨(x5_3), (wrap64 (x6_3 - 1)), (x1001_4), (x1002_4), (by first | rfl | (simp; done) | (simp [*]; done)), H', ⟨by have := HJ3.out; have := HJ13.out; have := HK3.out; have := HK4.out; omega⟩, ⟨by (with_reducible repeat (first | apply Kd.S_alloc | apply Kd.S_drewN | apply Kd.S_drew)); exact Kd.S_mono HO_5.out (fun _ hk => trivial)⟩, ⟨IsS69.g HI0.out⟩, ⟨zK_ HK.out⟩, ⟨zb_ HB.out⟩⟩
       ·rw [if_neg c17] at H
        have c17b0 : decide (0 < x6_3) = false := decide_eq_false c17
        clear c17
        by_cases c34 : (x5_3.length : Int) > 0
        ·rw [if_pos c34] at H
         have c34b0 : decide (0 < (x5_3.length : Int)) = true := decide_eq_true c34
         have c34b1 : decide (0 < x5_3.length) = true := decide_eq_true (by omega)
         clear c34
         replace H := Option.bind_eq_some_iff.mp H
         obtain ⟨⟨t160, t161, t162⟩, A350, H⟩ := H
         (try dsimp only at H)
         have A35 := Aside0.mk A350
         clear A350
         by_cases c36 : t160 = true
         ·subst c36
          have H1 : (if 0 < (x5_3.length : Int) then ((spec_l1Cur_among.f s0_0 t161 t162 (([0, 13, 1] : List Int))).bind fun bt167 => (if (rd_L2 x5_3 0).length < 17592186044416 then (some (x4_3, (x5_3.set (0 : Int).toNat ((rd_L2 x5_3 0) ++ [bt167.1])), bt167.2.1, bt167.2.2)) else (none))) else (none)) = some (r1, r2, r3, r4) := by rw [if_pos rfl] at H; exact H
          clear H
          have H := H1
          clear H1
          by_cases c37 : 0 < (x5_3.length : Int)
          ·rw [if_pos c37] at H
           have c37b0 : decide (0 < (x5_3.length : Int)) = true := decide_eq_true c37
           have c37b1 : decide (0 < x5_3.length) = true := decide_eq_true (by omega)
           clear c37
           obtain ⟨y164, hy164⟩ : ∃ y_ : List Int, y_ = (([0, 13, 1] : List Int)) := ⟨_, rfl⟩
           replace H : ((spec_l1Cur_among.f s0_0 t161 t162 y164).bind fun bt167 => (if (rd_L2 x5_3 0).length < 17592186044416 then (some (x4_3, (x5_3.set (0 : Int).toNat ((rd_L2 x5_3 0) ++ [bt167.1])), bt167.2.1, bt167.2.2)) else (none))) = some (r1, r2, r3, r4) := by first | (rw [hy164]; with_reducible exact H) | (have H2_ := (Option.bind_some _ _).symm.trans H; rw [hy164]; with_reducible exact H2_) | (have H2_ := (Option.bind_some _ _).symm.trans H; with_reducible exact H2_) | with_reducible exact H | (rw [hy164]; exact H) | exact H
           have Ny164 := Aside0.mk hy164
           clear hy164
           replace H := Option.bind_eq_some_iff.mp H
           obtain ⟨⟨t167, t168, t169⟩, A380, H⟩ := H
           (try dsimp only at H)
           have A38 := Aside0.mk A380
           clear A380
           by_cases c39 : (rd_L2 x5_3 0).length < 17592186044416
           ·rw [if_pos c39] at H
            have LMc39 := Aside0.mk c39
            clear c39
            obtain ⟨y170, hy170⟩ : ∃ y_ : List Int, y_ = ((rd_L2 x5_3 0) ++ [t167]) := ⟨_, rfl⟩
            replace H : (some (x4_3, (x5_3.set (0 : Int).toNat y170), t168, t169)) = some (r1, r2, r3, r4) := by first | (rw [hy170]; with_reducible exact H) | (have H2_ := (Option.bind_some _ _).symm.trans H; rw [hy170]; with_reducible exact H2_) | (have H2_ := (Option.bind_some _ _).symm.trans H; with_reducible exact H2_) | with_reducible exact H | (rw [hy170]; exact H) | exact H
            have Ny170 := Aside0.mk hy170
            clear hy170
            obtain ⟨y173, hy173⟩ : ∃ y_ : List (List Int), y_ = (x5_3.set (0 : Int).toNat y170) := ⟨_, rfl⟩
            replace H : (some (x4_3, y173, t168, t169)) = some (r1, r2, r3, r4) := by first | (rw [hy173]; with_reducible exact H) | (have H2_ := (Option.bind_some _ _).symm.trans H; rw [hy173]; with_reducible exact H2_) | (have H2_ := (Option.bind_some _ _).symm.trans H; with_reducible exact H2_) | with_reducible exact H | (rw [hy173]; exact H) | exact H
            have Ny173 := Aside0.mk hy173
            clear hy173
            simp only [Option.some.injEq, Prod.mk.injEq] at H
            obtain ⟨rfl, rfl, rfl, rfl⟩ := H
            obtain ⟨Ao41, co41, eo41⟩ := Kd.S_slice HO_5.out
            subst eo41
            try go_wp2_with (first | (go_at_call 56; (with_reducible refine (spec_l1Cur_one.calls g s0_0 x1001_3 x1002_3 30 true t161 t162 w0 _ ?side1 ?side2 A35.out).mono ?_); (case side1 => exact IsS69.g HI0.out); (case side2 => exact zb_ HB.out); rintro e w42 ⟨rfl, hi, hb, hk⟩; have n0_ := Aside0.mk (Kd.S_mono (Kd.S_keep (IsS69.apartS (show IsS69 w0 _ g s0_0 x1001_3 x1002_3 from IsS69.g HI0.out) (zS_ HO_5.out) (by decide)) hk (fun _ h => h.2)) (fun _ h => h.1)); have n1_ := Aside0.mk (KeepBut.trans (zK_ HK.out) hk (.inl rfl)); have n2_ := Aside0.mk (hb); have n3_ := Aside0.mk (hi); clear HO_5; clear HK; clear HB; clear HI0; have HO_5 := n0_; have HK := n1_; have HB := n2_; have HI0 := n3_; clear n0_ n1_ n2_ n3_; (try clear hb); (try clear hb2); (try clear hk); (try clear hi)))
            have n0_ := Aside0.mk (Kd.S_drew HO_5.out)
            have n1_ := Aside0.mk (IsS69.drew HI0.out)
            have n2_ := Aside0.mk (keep_drew HK.out)
            have n3_ := Aside0.mk (below_drew1 HB.out)
            clear HO_5
            clear HI0
            clear HK
            clear HB
            have HO_5 := n0_
            have HI0 := n1_
            have HK := n2_
            have HB := n3_
            clear n0_ n1_ n2_ n3_
            have p163 : 0 ≤ (0 : Int) := (by omega)
            have q163 : 0 < (x5_3.length : Int) := of_decide_eq_true (by assumption)
            obtain ⟨ad163, A163_0, c163_0, e163, hx163_0, hl163_0, hi163_0⟩ := at_L2 (Kd.S_reads' HO_5.out).2.2 0 p163 q163
            cases e163
            obtain ⟨ce163, hce163, hMe163, hcc163⟩ := Kd.S_get HO_5.out [] 0 p163 (by first | exact q163 | exact of_decide_eq_true (by assumption) | (have e_ := (Kd.S_reads' HO_5.out).1; omega))
            obtain ⟨ve163_0, rfl, ge163_0⟩ := hMe163
            have hv163_0 := hcc163 0 _ rfl
            rw [Nat.add_zero, show ((Kd.slice 3 (Kd.int .i64))).sz = 1 from rfl, Nat.mul_one] at hv163_0
            replace hv163_0 := Option.some.inj (hv163_0.symm.trans hx163_0)
            rw [hv163_0] at ge163_0
            have HL163_0 := Aside0.mk (show Kd.R (Kd.int .i64) 3 _ _ _ _ (rd_L2 x5_3 0) from ge163_0)
            clear hv163_0 ge163_0
            have HX163_0 := Aside0.mk hx163_0
            clear hcc163 hce163
            have qi163 : (0 < x5_3.length) = True := eq_true (by omega)
            (try rw [show ((0 : Int)).toNat = 0 from rfl] at hx163_0)
            (try rw [Addr.add_zero'] at hx163_0)
            have HR163_0 := Aside0.mk hi163_0
            have HC163_0 := Aside0.mk hl163_0
            clear hi163_0 hl163_0
            replace p163 := eq_true p163
            replace q163 := eq_true q163
            refine start_ (n := 11) (S := fun w' => w'.cell? ad163 = some (.slice A163_0 (rd_L2 x5_3 0).length c163_0)) (ds := [10]) #[false, false, false, false, false, false, false, false, false, false, false] (by kernel_rfl) rfl rfl (hx163_0) (fun hHeld => ?_); refine with_tabW spec_l1Cur_clauses.tab19 spec_l1Cur_clauses.bits19 (fun HT_ HW_ => ?_)
            generalize w42.drew = w43 at HO_5 HI0 HK HB HL163_0 HR163_0 HX163_0 hx163_0 hHeld ⊢
            refine pure_ (i := 0) (N := some 57) (v := ?_) (a' := ?_) #[true, false, false, false, false, false, false, false, false, false, false] rfl rfl (any_of HT_.out (by kernel_rfl)) (fun _ _ _ h => h) (Or.inl ⟨by rfl, ?_⟩) ?_ ?_
            rotate_left
            ·intro w'
             go_simp
             with_reducible rfl
            rotate_left
            ·simp only [Act.put, List.setIfInBounds_toArray, List.set_cons_zero, List.set_cons_succ, i64_w, i32_w]
             rfl
            refine pure_ (i := 1) (N := some 58) (v := ?_) (a' := ?_) #[true, true, false, false, false, false, false, false, false, false, false] rfl rfl (any_of HT_.out (by kernel_rfl)) (fun _ _ _ h => h) (Or.inl ⟨by rfl, ?_⟩) ?_ ?_
            rotate_left
            ·intro w'
             go_simp
             with_reducible rfl
            rotate_left
            ·simp only [Act.put, List.setIfInBounds_toArray, List.set_cons_zero, List.set_cons_succ, i64_w, i32_w]
             rfl
            refine pure_ (i := 2) (N := some 59) (v := ?_) (a' := ?_) #[true, true, true, false, false, false, false, false, false, false, false] rfl rfl (any_of HT_.out (by kernel_rfl)) (fun _ _ _ h => h) (Or.inl ⟨by rfl, ?_⟩) ?_ ?_
            rotate_left
            ·intro w'
             go_simp
             with_reducible rfl
            rotate_left
            ·simp only [Act.put, List.setIfInBounds_toArray, List.set_cons_zero, List.set_cons_succ, i64_w, i32_w]
             rfl
            refine pure_ (i := 4) (N := some 61) (v := ?_) (a' := ?_) #[true, true, true, false, true, false, false, false, false, false, false] rfl rfl (any_of HT_.out (by kernel_rfl)) (fun _ _ _ h => h) (Or.inl ⟨by rfl, ?_⟩) ?_ ?_
            rotate_left
            ·intro w'
             go_simp
             with_reducible rfl
            rotate_left
            ·simp only [Act.put, List.setIfInBounds_toArray, List.set_cons_zero, List.set_cons_succ, i64_w, i32_w]
             rfl
            refine take_ (i := 3) (N := some 60) (v := ?_) (a' := ?_) #[true, true, true, true, true, false, false, false, false, false, false] rfl rfl (take_ofW HT_.out HW_.out (by kernel_rfl)) (fun _ _ _ h => h) (Or.inl ⟨by rfl, ?_⟩) hHeld ?_ ?_
            rotate_left
            ·intro w' s0
             go_simp
             with_reducible rfl
            rotate_left
            ·simp only [Act.put, List.setIfInBounds_toArray, List.set_cons_zero, List.set_cons_succ, i64_w, i32_w]
             rfl
            refine one_ (i := 5) (N := some 62) #[true, true, true, true, true, true, false, false, false, false, false] rfl rfl (one_of HT_.out (by kernel_rfl)) (by decide) (fun K hK => ?_)
            refine Kd.R_lit_step (Kd.int .i64) _ 3 ?hg (N := 62) ?hd (xs := ([0, 13, 1] : List Int)) (inner := [.int .i64 0, .int .i64 13, .int .i64 1]) (ok := fun _ => True) (okp := fun _ => True) ?hr ?hp (fun _ hk => hk) trivial (Below.refl _ _) (Nat.le_refl _) (by simp) ?_; (case hd => rfl); (case hg => rfl); (case hr => first | (go_simp; done) | (go_simp; rfl)); (case hp => exact (Reps.one (show Kd.M (Kd.int .i64) _ _ _ 0 [.int .i64 0] from rfl) (Reps.one (show Kd.M (Kd.int .i64) _ _ _ 13 [.int .i64 13] from rfl) (Reps.one (show Kd.M (Kd.int .i64) _ _ _ 1 [.int .i64 1] from rfl) (Reps.none _ _)))))
            intro v165 w44 ho45 hb hg_ hnew_
            have HS0_ := (hb.cell (World.block_lt_of_cell? _ _ (hHeld))).trans (hHeld)
            clear hg_ hnew_
            (first | rw [← Ny164.out] at ho45 | (simp only [Int.reduceToNat] at ho45; rw [← Ny164.out] at ho45))
            have n0_ := Aside0.mk (Kd.S_elder' (zS_ HO_5.out) (Kd.R_base ho45) hb)
            have n1_ := Aside0.mk (Kd.R_elder' (zR_ HL163_0.out) (Kd.R_base ho45) hb)
            have n2_ := Aside0.mk (Kd.R_lower (Kd.R_new' ho45 (Kd.R_lt (zR_ HL163_0.out))) (keep_size (w := w) (g := g) (row := none) (zK_ HK.out)))
            have n3_ := Aside0.mk (IsS69.below (IsS69.g HI0.out) hb)
            have n4_ := Aside0.mk (Kd.C_below (by repeat (first | (with_reducible exact HR163_0.out) | (with_reducible refine Kd.C_alloc ?_ _) | (with_reducible refine Kd.C_drewN ?_ _) | (with_reducible refine Kd.C_drew ?_) | exact HR163_0.out)) hb)
            have n5_ := Aside0.mk (pw_cell_below hb HX163_0.out)
            have n6_ := Aside0.mk (KeepBut.trans (zK_ HK.out) (KeepBut.of_below hb g none) (.inl rfl))
            have n7_ := Aside0.mk (below_step (zb_ HB.out) hb)
            clear HO_5
            clear HL163_0
            clear HI0
            clear HR163_0
            clear HX163_0
            clear HK
            clear HB
            have HO_5 := n0_
            have HL163_0 := n1_
            have HO166 := n2_
            have HI0 := n3_
            have HR163_0 := n4_
            have HX163_0 := n5_
            have HK := n6_
            have HB := n7_
            clear n0_ n1_ n2_ n3_ n4_ n5_ n6_ n7_
            clear hb ho45
            obtain ⟨Ao46, co46, eo46⟩ := Kd.R_slice HO166.out
            (first | subst eo46 | (injection eo46 with f1_ f2_ f3_; have f4_ := f1_.symm; have f5_ := f3_.symm; clear f1_ f2_ f3_; subst f4_; subst f5_))
            refine hK.out _ _ (HS0_) (fun hHeld => ?_)
            clear hK K
            refine norm_ (a' := ?_) ?_ ?_
            rotate_left
            ·show Act.put _ (some 62) _ = _
             simp only [Act.put, List.setIfInBounds_toArray, List.set_cons_zero, List.set_cons_succ, i64_w, i32_w]
             rfl
            refine one_ (i := 6) (N := some 63) #[true, true, true, true, true, true, true, false, false, false, false] rfl rfl (one_of HT_.out (by kernel_rfl)) (by decide) (fun K hK => ?_)
            refine goes_ Try.func90 (by kernel_rfl) rfl #[.pointer (some ⟨g, 0, none⟩), .slice Ao46 y164.length co46] (by rfl) rfl rfl (by simp only [zA_, zB_, zD_] <;> rfl) ?_
            with_reducible refine (spec_l1Cur_among.calls g s0_0 t161 t162 _ _ y164 t167 t168 t169 w0 _ ?side1 ?side2 ?side3 ?side4 ?side5 A38.out).mono ?_
            (case side1 => exact IsS69.g HI0.out)
            (case side2 => exact zb_ HB.out)
            (case side3 => exact zC_ (Kd.R_reads' HO166.out).2.2)
            (case side4 => exact (Kd.R_reads' HO166.out).2.1)
            (case side5 => exact far_slice (IsS69.own_ne HI0.out HO166.out (by decide)))
            rintro e w47 ⟨rfl, hi, hb, hk⟩
            have HS0_ := keep_cell hk (hHeld) (by first | (rw [add_block]; exact Kd.own_blk (IsS69.own_neS HI0.out HO_5.out (by decide))) | (show (Addr.add _ _).block ≠ _; rw [add_block]; exact Kd.own_blk (IsS69.own_neS HI0.out HO_5.out (by decide))) | exact Kd.own_blk (IsS69.own_neS HI0.out HO_5.out (by decide)))
            refine ⟨_, rfl, ?_⟩
            have n0_ := Aside0.mk (Kd.S_mono (Kd.S_keep (IsS69.apartS (show IsS69 w0 _ g s0_0 t161 t162 from IsS69.g HI0.out) (zS_ HO_5.out) (by decide)) hk (fun _ h => h.2)) (fun _ h => h.1))
            have n1_ := Aside0.mk (Kd.R_mono (Kd.R_keep (IsS69.apart (show IsS69 w0 _ g s0_0 t161 t162 from IsS69.g HI0.out) (zR_ HL163_0.out) (by decide)) hk (fun _ h => h.2)) (fun _ h => h.1))
            have n2_ := Aside0.mk (keep_cell hk HX163_0.out (by first | (rw [add_block]; exact Kd.own_blk (IsS69.own_neS HI0.out HO_5.out (by decide))) | (show (Addr.add _ _).block ≠ _; rw [add_block]; exact Kd.own_blk (IsS69.own_neS HI0.out HO_5.out (by decide))) | exact Kd.own_blk (IsS69.own_neS HI0.out HO_5.out (by decide)) | (dsimp only; exact Kd.own_blk (IsS69.own_neS HI0.out HO_5.out (by decide)))))
            have n3_ := Aside0.mk (Kd.R_mono (Kd.R_keep (IsS69.apart (show IsS69 w0 _ g s0_0 t161 t162 from IsS69.g HI0.out) (zR_ HO166.out) (by decide)) hk (fun _ h => h.2)) (fun _ h => h.1))
            have n4_ := Aside0.mk (KeepBut.trans (zK_ HK.out) hk (.inl rfl))
            have n5_ := Aside0.mk (hb)
            have n6_ := Aside0.mk (hi)
            clear HO_5
            clear HL163_0
            clear HX163_0
            clear HO166
            clear HK
            clear HB
            clear HI0
            have HO_5 := n0_
            have HL163_0 := n1_
            have HX163_0 := n2_
            have HO166 := n3_
            have HK := n4_
            have HB := n5_
            have HI0 := n6_
            clear n0_ n1_ n2_ n3_ n4_ n5_ n6_
            (try clear hb)
            (try clear hb2)
            (try clear hk)
            (try clear hi)
            have n_ := Aside0.mk (Kd.S_mono (ok' := (fun k_ => some k_ ≠ (.slice Ao46 y164.length co46 : Value).ownBlock)) HO_5.out (fun k_ hk => hk.2))
            clear HO_5
            have HO_5 := n_
            clear n_
            obtain ⟨go48, co48, eo48, gb48, gl48, cl48, HG48⟩ := Kd.S_form HO_5.out (by have h_ : (0 : Int) < ((x5_3.length : Int) : Int) := of_decide_eq_true (by assumption); have h2_ : 0 ≤ (0 : Int) := (by omega); omega)
            (first | cases eo48 | (injection eo48 with ea_ en_ ec_; (first | subst ea_ | (injection ea_ with ea_; subst ea_)); subst ec_; clear en_))
            have GB48 := Aside0.mk gb48
            have GG48 := Aside0.mk HG48
            clear gb48 gl48 HG48
            (first | simp only [add_plain] at hx163_0 | skip)
            obtain ⟨oki48, ce48, hcl48, hM48, hcc48, _, _, hH48⟩ := Kd.S_elem HO_5.out [] (0 : Int) (by omega) (by have h_ : (0 : Int) < ((x5_3.length : Int) : Int) := of_decide_eq_true (by assumption); first | exact h_ | (have e_ := (Kd.S_reads' HO_5.out).1; omega) | simpa using h_)
            obtain ⟨ve48_0, rfl, ge48_0⟩ := hM48
            have hv48 := hcc48 0 _ rfl
            have hX48 := HX163_0.out
            (try simp only [add_plain] at hX48)
            (try simp only [Nat.add_zero] at hv48)
            (try rw [show ((Kd.slice 3 (Kd.int .i64))).sz = 1 from rfl, Nat.mul_one] at hv48)
            replace hv48 := Option.some.inj (hv48.symm.trans hX48)
            subst hv48
            clear hX48 hcc48 hcl48
            have UU48 := Aside0.mk (show Kd.R (Kd.int .i64) 3 _ w.heap.size oki48 (.slice A163_0 (rd_L2 x5_3 0).length c163_0) (rd_L2 x5_3 0) from ge48_0)
            have HH48 := Aside0.mk hH48
            have HN48 := Aside0.mk (Kd.S_reads' HO_5.out).1
            clear hH48 ge48_0
            refine hK.out _ _ (HS0_) (fun hHeld => ?_)
            clear hK K
            refine norm_ (a' := ?_) ?_ ?_
            rotate_left
            ·show Act.put _ (some 63) _ = _
             simp only [Act.put, List.setIfInBounds_toArray, List.set_cons_zero, List.set_cons_succ, i64_w, i32_w]
             rfl
            refine one_ (i := 7) (N := some 64) #[true, true, true, true, true, true, true, true, false, false, false] rfl rfl (one_of HT_.out (by kernel_rfl)) (by decide) (fun K hK => ?_)
            refine value_ (w1 := ?_) (v := ?_) (by rfl) rfl ?_ ?_
            rotate_left 2
            ·go_simp
             constructor
             ·rfl
             ·rfl
            refine hK.out _ _ ((World.cell?_alloc_lt _ _ _ (World.block_lt_of_cell? _ _ (hHeld))).trans (hHeld)) (fun hHeld => ?_)
            clear hK K
            refine norm_ (a' := ?_) ?_ ?_
            rotate_left
            ·show Act.put _ (some 64) _ = _
             simp only [Act.put, List.setIfInBounds_toArray, List.set_cons_zero, List.set_cons_succ, i64_w, i32_w]
             rfl
            refine one_ (i := 8) (N := some 65) #[true, true, true, true, true, true, true, true, true, false, false] rfl rfl (one_of HT_.out (by kernel_rfl)) (by decide) (fun K hK => ?_)
            refine Kd.R_append_step (Kd.int .i64) w.heap.size (by rfl) (.tmp 60) (.tmp 64) 24 3 (.int .i64 0) 8 rfl Try.underlying24 info3 rfl (by decide) (by omega) (.slice A163_0 (rd_L2 x5_3 0).length c163_0) (rd_L2 x5_3 0) t167 [.int .i64 t167] (fun k_ => oki48 k_ ∨ ((fun k_ => some k_ ≠ (.slice Ao46 y164.length co46 : Value).ownBlock)) k_ ∧ w47.heap.size ≤ k_) (fun _ => False) rfl rfl ?aP (fun _ hk => hk.elim) ?aF ?aO (Below.refl _ _) ?aS ?aL ?_
            (case aP => exact rfl)
            (case aF => exact (fun k_ hk => .inr ⟨Kd.fresh' (Kd.R_lt (zR_ HO166.out)) k_ hk, hk⟩))
            (case aO => exact (by (with_reducible repeat (first | apply Kd.R_alloc | apply Kd.R_drewN | apply Kd.R_drew)); exact Kd.R_mono UU48.out (fun _ hk => .inl hk)))
            (case aS => exact (keep_size (w := w) (g := g) (row := none) (zK_ HK.out)))
            (case aL => have := LMc39.out; omega)
            intro v171 w49 ho hb hg hat
            (first | have HS0_ := cell_grown hg (hHeld) (by first | (rw [add_block]; exact (fun e_ => ((HL163_0.out.1 _ e_.symm).1.2) rfl)) | (show some (Addr.add _ _).block ≠ _; rw [add_block]; exact (fun e_ => ((HL163_0.out.1 _ e_.symm).1.2) rfl)) | exact (fun e_ => ((HL163_0.out.1 _ e_.symm).1.2) rfl)) | have HS0_ := cell_grown hg (cell_unalloc (hHeld) (by first | (rw [add_block]; exact Kd.S_lt HO_5.out _ rfl) | (show (Addr.add _ _).block < _; rw [add_block]; exact Kd.S_lt HO_5.out _ rfl) | exact Kd.S_lt HO_5.out _ rfl)) (by first | (rw [add_block]; exact (fun e_ => ((HL163_0.out.1 _ e_.symm).1.2) rfl)) | (show some (Addr.add _ _).block ≠ _; rw [add_block]; exact (fun e_ => ((HL163_0.out.1 _ e_.symm).1.2) rfl)) | exact (fun e_ => ((HL163_0.out.1 _ e_.symm).1.2) rfl)))
            rw [← Ny170.out] at ho
            have n0_ := Aside0.mk (IsS69.grown (IsS69.g HI0.out) hg (IsS69.own_ne HI0.out HL163_0.out (by decide)))
            have n1_ := Aside0.mk (Kd.R_grown2 (zR_ HO166.out) rfl hg (fun k_ e_ => (HL163_0.out.1 k_ e_).2))
            have n2_ := Aside0.mk (below_weaken (zb_ HB.out) HL.out hb)
            have n3_ := Aside0.mk (KeepBut.trans (zK_ HK.out) (KeepBut.of_grown hg g) (Kd.R_base2 HL163_0.out))
            have n4_ := Aside0.mk (Kd.H_grown (Kd.H_widen (by repeat (first | exact HH48.out | refine Kd.H_alloc ?_ _ | refine Kd.H_drewN ?_ _ | refine Kd.H_drew ?_))) hg (fun k_ e_ => .inl (UU48.out.1 k_ e_)))
            have n5_ := Aside0.mk (ho)
            clear HI0
            clear HO166
            clear HB
            clear HK
            clear HH48
            clear HO_5
            clear UU48
            clear HL163_0
            have HI0 := n0_
            have HO166 := n1_
            have HB := n2_
            have HK := n3_
            have HH48 := n4_
            have HO172 := n5_
            clear n0_ n1_ n2_ n3_ n4_ n5_
            clear ho hb hg hat
            have p40 : 0 ≤ (0 : Int) := (by omega)
            have q40 : (0 : Int) < ((x5_3.length : Int) : Int) := of_decide_eq_true (by assumption)
            replace p40 := eq_true p40
            replace q40 := eq_true q40
            obtain ⟨Ao52, co52, eo52⟩ := Kd.R_slice HO172.out
            (first | subst eo52 | (injection eo52 with f1_ f2_ f3_; have f4_ := f1_.symm; have f5_ := f3_.symm; clear f1_ f2_ f3_; subst f4_; subst f5_))
            obtain ⟨_, _, hraw50, _, _, hcc50, _⟩ := Kd.H_raw HH48.out (by omega) (by have h_ : (0 : Int) < ((x5_3.length : Int) : Int) := of_decide_eq_true (by assumption); first | exact h_ | (have e_ := (HN48.out); omega) | simpa using h_)
            obtain ⟨_, hfr50⟩ := Kd.H_at HH48.out (by omega) (by have h_ : (0 : Int) < ((x5_3.length : Int) : Int) := of_decide_eq_true (by assumption); first | exact h_ | (have e_ := (HN48.out); omega) | simpa using h_)
            have hx50_0 := hcc50 0 _ rfl
            have hf50_0 := hfr50 0
            (try simp only [Nat.add_zero] at hx50_0 hf50_0)
            (try rw [show ((Kd.slice 3 (Kd.int .i64))).sz = 1 from rfl, Nat.mul_one] at hx50_0)
            (try rw [show ((Kd.slice 3 (Kd.int .i64))).sz = 1 from rfl, Nat.mul_one] at hf50_0)
            (try rw [show ((0 : Int)).toNat = 0 from rfl] at hx50_0)
            (try simp only [Nat.reduceMul, Nat.zero_mul, Nat.zero_add, Nat.reduceAdd] at hx50_0)
            (try rw [show ((0 : Int)).toNat = 0 from rfl] at hf50_0)
            (try simp only [Nat.reduceMul, Nat.zero_mul, Nat.zero_add, Nat.reduceAdd] at hf50_0)
            have HP50 := Kd.S_seg0 HH48.out (by omega) (by have h_ : (0 : Int) < ((x5_3.length : Int) : Int) := of_decide_eq_true (by assumption); first | exact h_ | (have e_ := (HN48.out); omega) | simpa using h_) (seg := [.slice Ao52 y170.length co52]) (j := 0) (show 1 ≤ 1 from by decide) (x' := y170) (Kd.M_row HO172.out) (fun _ hk => hk)
            (try simp only [show ((Kd.slice 3 (Kd.int .i64))).sz = 1 from rfl, Nat.mul_one, Nat.add_zero] at HP50)
            clear hcc50 hfr50
            have HN0_go48 := Aside0.mk (show g ≠ go48 from by have h_ := IsS69.own_ne HI0.out hraw50 (by decide); intro e_; exact h_ (by rw [e_]; rfl))
            have HS50 := HP50.1
            rw [← Ny173.out] at HS50
            have HQ50 := Aside0.mk HS50
            obtain ⟨_, hgg50⟩ := Kd.R_typed hraw50 go48 rfl
            have GG50_ := Aside0.mk hgg50
            clear HP50 HS50 hgg50
            refine hK.out _ _ (HS0_) (fun hHeld => ?_)
            clear hK K
            refine norm_ (a' := ?_) ?_ ?_
            rotate_left
            ·show Act.put _ (some 65) _ = _
             simp only [Act.put, List.setIfInBounds_toArray, List.set_cons_zero, List.set_cons_succ, i64_w, i32_w]
             rfl
            refine pure_ (i := 9) (N := some 66) (v := ?_) (a' := ?_) #[true, true, true, true, true, true, true, true, true, true, false] rfl rfl (any_of HT_.out (by kernel_rfl)) (fun _ _ _ h => h) (Or.inl ⟨by rfl, ?_⟩) ?_ ?_
            rotate_left
            ·intro w'
             go_simp
             with_reducible rfl
            rotate_left
            ·simp only [Act.put, List.setIfInBounds_toArray, List.set_cons_zero, List.set_cons_succ, i64_w, i32_w]
             rfl
            refine last_ (i := 10) (N := none) #[true, true, true, true, true, true, true, true, true, true, true] rfl rfl (one_of HT_.out (by kernel_rfl)) (by decide) (fun K hK => ?_)
            refine skip_ (w1 := ?_) (by rfl) rfl ?_ ?_
            rotate_left
            ·go_simp
             rfl
            refine hK.out _ _ ?_
            clear hK K
            refine done_ (done_of HT_.out (by kernel_rfl)) ?_
            try go_wp2
            go_ret2
            exact ⟨_, by first | rfl | (simp [errW_none, errW_some] <;> rfl) | (simp [*, errW_none, errW_some] <;> rfl), by (with_reducible repeat (first | apply Kd.S_alloc | apply Kd.S_drewN | apply Kd.S_drew)); exact Kd.S_mono HQ50.out (fun _ hk => trivial), by repeat (first | (with_reducible first | exact HI0.out | apply IsS69.alloc | apply IsS69.drewN | apply IsS69.drew | apply IsS69.set_1 | apply IsS69.set_2 | refine IsS69.far ?_ HN0_go48.out _) | exact HI0.out), by repeat (first | (with_reducible first | exact HB.out | apply below_alloc | apply pw_below_drewN | apply below_drew1 | refine below_set ?_ (Nat.le_trans HL.out GB48.out) | refine below_set ?_ (IsS69.ge HI0.out)) | exact HB.out), by repeat (first | (with_reducible first | exact HK.out | apply KeepBut.set_ | apply keep_drewN | apply keep_drew | apply keep_alloc | refine keep_far ?_ GB48.out _) | exact HK.out)⟩
           ·rw [if_neg c39] at H
            exact absurd H (by simp)
          ·rw [if_neg c37] at H
           exact absurd H (by simp)
         ·replace c36 := Bool.eq_false_iff.mpr c36
          subst c36
          have H1 : (some (x4_3, x5_3, t161, t162)) = some (r1, r2, r3, r4) := by rw [if_neg (show ¬ (false = true) by decide)] at H; exact H
          clear H
          have H := H1
          clear H1
          simp only [Option.some.injEq, Prod.mk.injEq] at H
          obtain ⟨rfl, rfl, rfl, rfl⟩ := H
          obtain ⟨Ao53, co53, eo53⟩ := Kd.S_slice HO_5.out
          subst eo53
          go_wp2_with (first | (go_at_call 56; (with_reducible refine (spec_l1Cur_one.calls g s0_0 x1001_3 x1002_3 30 false t161 t162 w0 _ ?side1 ?side2 A35.out).mono ?_); (case side1 => exact IsS69.g HI0.out); (case side2 => exact zb_ HB.out); rintro e w54 ⟨rfl, hi, hb, hk⟩; have n0_ := Aside0.mk (Kd.S_mono (Kd.S_keep (IsS69.apartS (show IsS69 w0 _ g s0_0 x1001_3 x1002_3 from IsS69.g HI0.out) (zS_ HO_5.out) (by decide)) hk (fun _ h => h.2)) (fun _ h => h.1)); have n1_ := Aside0.mk (KeepBut.trans (zK_ HK.out) hk (.inl rfl)); have n2_ := Aside0.mk (hb); have n3_ := Aside0.mk (hi); clear HO_5; clear HK; clear HB; clear HI0; have HO_5 := n0_; have HK := n1_; have HB := n2_; have HI0 := n3_; clear n0_ n1_ n2_ n3_; (try clear hb); (try clear hb2); (try clear hk); (try clear hi)))
          go_ret2
          exact ⟨_, by first | rfl | (simp [errW_none, errW_some] <;> rfl) | (simp [*, errW_none, errW_some] <;> rfl), zS_ HO_5.out, IsS69.g HI0.out, zb_ HB.out, zK_ HK.out⟩
        ·rw [if_neg c34] at H
         have c34b0 : decide (0 < (x5_3.length : Int)) = false := decide_eq_false c34
         have c34b1 : decide (0 < x5_3.length) = false := decide_eq_false (by omega)
         clear c34
         simp only [Option.some.injEq, Prod.mk.injEq] at H
         obtain ⟨rfl, rfl, rfl, rfl⟩ := H
         obtain ⟨Ao55, co55, eo55⟩ := Kd.S_slice HO_5.out
         subst eo55
         go_wp2
         go_ret2
         exact ⟨_, by first | rfl | (simp [errW_none, errW_some] <;> rfl) | (simp [*, errW_none, errW_some] <;> rfl), zS_ HO_5.out, IsS69.g HI0.out, zb_ HB.out, zK_ HK.out⟩
end Go.Proofs.Ytpkbjgmeejlchab.PFnFollows
-- squeezed
