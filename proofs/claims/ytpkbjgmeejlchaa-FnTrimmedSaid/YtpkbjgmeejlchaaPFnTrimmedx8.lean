-- Made by a program of this session (wip/tools), which leans on the kit's print: checked by Lean alone.
import Derived.Test.YtpkbjgmeejlchaaPFnTrimmedx0
import Derived.Test.YtpkbjgmeejlchaaPFnTrimmedx4
import Derived.Test.YtpkbjgmeejlchaaPFnTrimmedx5
import Derived.Test.YtpkbjgmeejlchaaPFnTrimmedx6
import Derived.Test.YtpkbjgmeejlchaaPFnTrimmedx7
namespace Go.Proofs.Ytpkbjgmeejlchaa.PFnTrimmed
open Go.RowKit Go.Proofs.YtpkbjgmeejlchaaW.PrintWords Go.Proofs.YtpkbjgmeejlchaaW.PrintLast Go.Proofs.YtpkbjgmeejlchaaW.PrintMore
attribute [local go_sem] max2_int min2_int max_two min_two max_three min_three max_four min_four   -- for this text's walks alone
set_option linter.unusedVariables false
set_option linter.unusedSimpArgs false
mutual
def spec_l1Cur_hard.j0 : Nat → Int → List (List Int) → Bool → List Int → Int → Int → Option (Int × (List (List Int)) × Int × Int)
 | 0, _, _, _, _, _, _ => none
 | k + 1, x4, x5, x23, x1000, x1001, x1002 => if x23 = true then (some (x4, x5, x1001, x1002)) else ((spec_l1Cur_pick.f x1000 x1001 x1002 10).bind fun bt277 => (spec_l1Cur_hard.l0 k x4 x5 (wrap64 (12 + bt277.1)) x1000 bt277.2.1 bt277.2.2))
def spec_l1Cur_hard.l0 : Nat → Int → List (List Int) → Int → List Int → Int → Int → Option (Int × (List (List Int)) × Int × Int)
 | 0, _, _, _, _, _, _ => none
 | k + 1, x4, x5, x6, x1000, x1001, x1002 => if x6 > 0 then ((spec_l1Cur_lit.f x1000 x1001 x1002 x4).bind fun bt280 => ((spec_l1Cur_lit.f x1000 bt280.2.1 bt280.2.2 x4).bind fun bt283 => ((spec_CleanClause.f k (([bt280.1, bt283.1] : List Int))).bind fun bt289 => (if bt289.2 = true then (if (x5.length : Int) < 60 then (if x5.length < 5864062014805 then (spec_l1Cur_hard.l0 k x4 (x5 ++ [bt289.1]) (wrap64 (x6 - 1)) x1000 bt283.2.1 bt283.2.2) else (none)) else (spec_l1Cur_hard.l0 k x4 x5 (wrap64 (x6 - 1)) x1000 bt283.2.1 bt283.2.2)) else (spec_l1Cur_hard.l0 k x4 x5 (wrap64 (x6 - 1)) x1000 bt283.2.1 bt283.2.2))))) else (some (x4, x5, x1001, x1002))
end
def spec_l1Cur_hard.f (k : Nat) (s0_0 : List Int) (s0_1 : Int) (s0_2 : Int) : Option (Int × (List (List Int)) × Int × Int) := (spec_l1Cur_clauses.f k s0_0 s0_1 s0_2).bind fun bt268 => (if bt268.1 < 2 then (spec_l1Cur_hard.j0 k bt268.1 bt268.2.1 true s0_0 bt268.2.2.1 bt268.2.2.2) else (if bt268.1 > 6 then (spec_l1Cur_hard.j0 k bt268.1 bt268.2.1 true s0_0 bt268.2.2.1 bt268.2.2.2) else ((spec_l1Cur_one.f s0_0 bt268.2.2.1 bt268.2.2.2 3).bind fun bt274 => (spec_l1Cur_hard.j0 k bt268.1 bt268.2.1 bt274.1 s0_0 bt274.2.1 bt274.2.2))))
theorem spec_l1Cur_hard.mono_l : ∀ k, (∀ y0 y1 y2 y3 y4 y5, LeO (spec_l1Cur_hard.j0 k y0 y1 y2 y3 y4 y5) (spec_l1Cur_hard.j0 (k + 1) y0 y1 y2 y3 y4 y5)) ∧ (∀ y0 y1 y2 y3 y4 y5, LeO (spec_l1Cur_hard.l0 k y0 y1 y2 y3 y4 y5) (spec_l1Cur_hard.l0 (k + 1) y0 y1 y2 y3 y4 y5))
 | 0 => ⟨fun _ _ _ _ _ _ r h => by simp [spec_l1Cur_hard.j0] at h, fun _ _ _ _ _ _ r h => by simp [spec_l1Cur_hard.l0] at h⟩
 | k + 1 => by
  obtain ⟨ih0, ih1⟩ := spec_l1Cur_hard.mono_l k
  refine ⟨?_, ?_⟩
  ·intro y0 y1 y2 y3 y4 y5
   unfold spec_l1Cur_hard.j0
   repeat' first
   | (with_reducible exact ih0 _ _ _ _ _ _)
   | (with_reducible exact ih1 _ _ _ _ _ _)
   | (with_reducible exact spec_CleanClause.mono _ _)
   | (with_reducible exact spec_l1Cur_clauses.mono _ _ _ _)
   | (with_reducible exact LeO.refl _)
   | (with_reducible exact LeO.none _)
   | (with_reducible refine LeO.ite ?_ ?_)
   | (with_reducible refine LeO.bind ?_ (fun _ => ?_))
   | exact ih0 _ _ _ _ _ _
   | exact ih1 _ _ _ _ _ _
   | exact spec_CleanClause.mono _ _
   | exact spec_l1Cur_clauses.mono _ _ _ _
   | exact LeO.none _
   | refine LeO.ite ?_ ?_
   | refine LeO.bind ?_ (fun _ => ?_)
  ·intro y0 y1 y2 y3 y4 y5
   unfold spec_l1Cur_hard.l0
   repeat' first
   | (with_reducible exact ih0 _ _ _ _ _ _)
   | (with_reducible exact ih1 _ _ _ _ _ _)
   | (with_reducible exact spec_CleanClause.mono _ _)
   | (with_reducible exact spec_l1Cur_clauses.mono _ _ _ _)
   | (with_reducible exact LeO.refl _)
   | (with_reducible exact LeO.none _)
   | (with_reducible refine LeO.ite ?_ ?_)
   | (with_reducible refine LeO.bind ?_ (fun _ => ?_))
   | exact ih0 _ _ _ _ _ _
   | exact ih1 _ _ _ _ _ _
   | exact spec_CleanClause.mono _ _
   | exact spec_l1Cur_clauses.mono _ _ _ _
   | exact LeO.none _
   | refine LeO.ite ?_ ?_
   | refine LeO.bind ?_ (fun _ => ?_)
theorem spec_l1Cur_hard.mono : ∀ a0 a1 a2 k, LeO (spec_l1Cur_hard.f k a0 a1 a2) (spec_l1Cur_hard.f (k + 1) a0 a1 a2) := by
 intro a0 a1 a2 k
 obtain ⟨ih0, ih1⟩ := spec_l1Cur_hard.mono_l k
 unfold spec_l1Cur_hard.f
 repeat' first
   | (with_reducible exact ih0 _ _ _ _ _ _)
   | (with_reducible exact ih1 _ _ _ _ _ _)
   | (with_reducible exact spec_CleanClause.mono _ _)
   | (with_reducible exact spec_l1Cur_clauses.mono _ _ _ _)
   | (with_reducible exact LeO.refl _)
   | (with_reducible exact LeO.none _)
   | (with_reducible refine LeO.ite ?_ ?_)
   | (with_reducible refine LeO.bind ?_ (fun _ => ?_))
   | exact ih0 _ _ _ _ _ _
   | exact ih1 _ _ _ _ _ _
   | exact spec_CleanClause.mono _ _
   | exact spec_l1Cur_clauses.mono _ _ _ _
   | exact LeO.none _
   | refine LeO.ite ?_ ?_
   | refine LeO.bind ?_ (fun _ => ?_)
set_option maxHeartbeats 8000000 in
set_option maxRecDepth 100000 in
theorem spec_l1Cur_hard.calls (k : Nat) (g : Nat) (s0_0 : List Int) (s0_1 : Int) (s0_2 : Int) (r1 : Int) (r2 : List (List Int)) (r3 : Int) (r4 : Int) (w0 w : World) (hI : IsS72 w0 w g s0_0 s0_1 s0_2) (hB : Below w0.heap.size w0 w) (h : spec_l1Cur_hard.f k s0_0 s0_1 s0_2 = some (r1, r2, r3, r4)) :
  Calls Try.prog 118 #[.pointer (some ⟨g, 0, none⟩)] w fun e w' => ∃ v1_ : Value, e = .returned (.tuple #[.int .i64 r1, v1_]) ∧ Kd.S (Kd.slice 3 (Kd.int .i64)) 42 w' w.heap.size (fun _ => True) v1_ r2 ∧ IsS72 w0 w' g s0_0 r3 r4 ∧ Below w0.heap.size w0 w' ∧ KeepBut w w' g none := by
 have HI0 := Aside0.mk hI
 have HK := Aside0.mk (KeepBut.refl w g none)
 have HL := Aside0.mk hB.size
 clear hI
 have HW0 := Aside0.mk hB.size
 have HB := Aside0.mk hB
 clear hB
 have H : ((spec_l1Cur_clauses.f k s0_0 s0_1 s0_2).bind fun bt268 => (if bt268.1 < 2 then (spec_l1Cur_hard.j0 k bt268.1 bt268.2.1 true s0_0 bt268.2.2.1 bt268.2.2.2) else (if bt268.1 > 6 then (spec_l1Cur_hard.j0 k bt268.1 bt268.2.1 true s0_0 bt268.2.2.1 bt268.2.2.2) else ((spec_l1Cur_one.f s0_0 bt268.2.2.1 bt268.2.2.2 3).bind fun bt274 => (spec_l1Cur_hard.j0 k bt268.1 bt268.2.1 bt274.1 s0_0 bt274.2.1 bt274.2.2))))) = some (r1, r2, r3, r4) := h
 clear h
 replace H := Option.bind_eq_some_iff.mp H
 obtain ⟨⟨t268, t269, t272, t273⟩, A20, H⟩ := H
 (try dsimp only at H)
 have A2 := Aside0.mk A20
 clear A20
 have HC3 := Aside0.mk H
 clear H
 go_enter Try.func118, Try.ntmps118
 go_upto_region 2 with (first | ((with_reducible refine gate_callee (f := 141) rfl ?_); refine goesL_ (some 11) rfl rfl Try.func141 (by kernel_rfl) rfl #[.pointer (some ⟨g, 0, none⟩)] rfl (by simp only [zA_, zB_, zD_] <;> rfl) ?_; (with_reducible refine (spec_l1Cur_clauses.calls k g s0_0 s0_1 s0_2 t268 t269 t272 t273 w0 _ ?side1 ?side2 A2.out).mono ?_); (case side1 => exact IsS72.g HI0.out); (case side2 => exact zb_ HB.out); rintro e w4 ⟨v270, rfl, ho0, hi, hb, hk⟩; refine ⟨_, rfl, ?_⟩; have n0_ := Aside0.mk (Kd.S_lower ho0 (keep_size (w := w) (g := g) (row := none) (zK_ HK.out))); have n1_ := Aside0.mk (KeepBut.trans (zK_ HK.out) hk (.inl rfl)); have n2_ := Aside0.mk (hb); have n3_ := Aside0.mk (hi); clear HK; clear HB; clear HI0; have HO271 := n0_; have HK := n1_; have HB := n2_; have HI0 := n3_; clear n0_ n1_ n2_ n3_; (try clear hb); (try clear hb2); (try clear hk); (try clear hi); (try clear ho0)))
 (try simp only [Act.put, List.setIfInBounds_toArray, List.set_cons_zero, List.set_cons_succ])
 go_cut [23] (fun v23 wc => ∃ (kq : Nat) (x23_2 : Bool) (x1001_2 : Int) (x1002_2 : Int), v23 = .bool x23_2 ∧ Aside0 (spec_l1Cur_hard.j0 kq t268 t269 x23_2 s0_0 x1001_2 x1002_2 = some (r1, r2, r3, r4)) ∧ Aside0 (kq ≤ k) ∧ Aside0 (Kd.S (Kd.slice 3 (Kd.int .i64)) 42 wc w.heap.size (fun _ => True) v270 t269) ∧ Aside0 (IsS72 w0 wc g s0_0 x1001_2 x1002_2) ∧ Aside0 (KeepBut w wc g none) ∧ Aside0 (Below w0.heap.size w0 wc))
 case first =>
  have H := HC3.out
  clear HC3
  by_cases c5 : t268 < 2
  ·rw [if_pos c5] at H
   have c5b0 : decide (t268 < 2) = true := decide_eq_true c5
   clear c5
   (first | rw [c5b0] | (simp only [i64_w, i32_w]; rw [c5b0]) | skip)
   have H' := Aside0.mk H
   clear H
   go_wp2
   go_meet
   case rel => exact ⟨_, (true), (t272), (t273), (by first | rfl | (simp; done) | (simp [*]; done)), H', ⟨by first | omega | exact Nat.le_refl _⟩, ⟨zS_ HO271.out⟩, ⟨IsS72.g HI0.out⟩, ⟨zK_ HK.out⟩, ⟨zb_ HB.out⟩⟩
  ·rw [if_neg c5] at H
   have c5b0 : decide (t268 < 2) = false := decide_eq_false c5
   clear c5
   (first | rw [c5b0] | (simp only [i64_w, i32_w]; rw [c5b0]) | skip)
   by_cases c6 : t268 > 6
   ·rw [if_pos c6] at H
    have c6b0 : decide (6 < t268) = true := decide_eq_true c6
    clear c6
    have H' := Aside0.mk H
    clear H
    go_wp2
    go_meet
    case rel => exact ⟨_, (true), (t272), (t273), (by first | rfl | (simp; done) | (simp [*]; done)), H', ⟨by first | omega | exact Nat.le_refl _⟩, ⟨zS_ HO271.out⟩, ⟨IsS72.g HI0.out⟩, ⟨zK_ HK.out⟩, ⟨zb_ HB.out⟩⟩
   ·rw [if_neg c6] at H
    have c6b0 : decide (6 < t268) = false := decide_eq_false c6
    clear c6
    replace H := Option.bind_eq_some_iff.mp H
    obtain ⟨⟨t274, t275, t276⟩, A70, H⟩ := H
    (try dsimp only at H)
    have A7 := Aside0.mk A70
    clear A70
    have H' := Aside0.mk H
    clear H
    go_wp2_with (first | (go_at_call 85; (with_reducible refine (spec_l1Cur_one.calls g s0_0 t272 t273 3 t274 t275 t276 w0 _ ?side1 ?side2 A7.out).mono ?_); (case side1 => exact IsS72.g HI0.out); (case side2 => exact zb_ HB.out); rintro e w8 ⟨rfl, hi, hb, hk⟩; have n0_ := Aside0.mk (Kd.S_mono (Kd.S_keep (IsS72.apartS (show IsS72 w0 _ g s0_0 t272 t273 from IsS72.g HI0.out) (zS_ HO271.out) (by decide)) hk (fun _ h => h.2)) (fun _ h => h.1)); have n1_ := Aside0.mk (KeepBut.trans (zK_ HK.out) hk (.inl rfl)); have n2_ := Aside0.mk (hb); have n3_ := Aside0.mk (hi); clear HO271; clear HK; clear HB; clear HI0; have HO271 := n0_; have HK := n1_; have HB := n2_; have HI0 := n3_; clear n0_ n1_ n2_ n3_; (try clear hb); (try clear hb2); (try clear hk); (try clear hi)))
    go_meet
    case rel => exact ⟨_, (t274), (t275), (t276), (by first | rfl | (simp; done) | (simp [*]; done)), H', ⟨by first | omega | exact Nat.le_refl _⟩, ⟨zS_ HO271.out⟩, ⟨IsS72.g HI0.out⟩, ⟨zK_ HK.out⟩, ⟨zb_ HB.out⟩⟩
 case rest =>
  clear HC3
  try clear c1
  try clear p2
  try clear c5
  try clear c5b0
  try clear c6
  try clear c6b0
  obtain ⟨kq, x23_2, x1001_2, x1002_2, rfl, HA, HJ2, HO_5, HI0, HK, HB⟩ := hcut
  cases kq with
  | zero => exact absurd HA.out (by simp [spec_l1Cur_hard.j0])
  | succ kj2 =>
   have H := HA.out
   clear HA
   simp only [spec_l1Cur_hard.j0] at H
   by_cases c9 : x23_2 = true
   ·subst c9
    have H1 : (some (t268, t269, x1001_2, x1002_2)) = some (r1, r2, r3, r4) := by rw [if_pos rfl] at H; exact H
    clear H
    have H := H1
    clear H1
    simp only [Option.some.injEq, Prod.mk.injEq] at H
    obtain ⟨rfl, rfl, rfl, rfl⟩ := H
    go_wp2
    go_ret2
    exact ⟨_, by first | rfl | (simp [errW_none, errW_some] <;> rfl) | (simp [*, errW_none, errW_some] <;> rfl), zS_ HO_5.out, IsS72.g HI0.out, zb_ HB.out, zK_ HK.out⟩
   ·replace c9 := Bool.eq_false_iff.mpr c9
    subst c9
    have H1 : ((spec_l1Cur_pick.f s0_0 x1001_2 x1002_2 10).bind fun bt277 => (spec_l1Cur_hard.l0 kj2 t268 t269 (wrap64 (12 + bt277.1)) s0_0 bt277.2.1 bt277.2.2)) = some (r1, r2, r3, r4) := by rw [if_neg (show ¬ (false = true) by decide)] at H; exact H
    clear H
    have H := H1
    clear H1
    replace H := Option.bind_eq_some_iff.mp H
    obtain ⟨⟨t277, t278, t279⟩, A100, H⟩ := H
    (try dsimp only at H)
    have A10 := Aside0.mk A100
    clear A100
    have H' := Aside0.mk H
    clear H
    go_wp2_with (first | ((with_reducible refine gate_callee (f := 69) rfl ?_); refine goesL_ (some 27) rfl rfl Try.func69 (by kernel_rfl) rfl #[.pointer (some ⟨g, 0, none⟩), .int .i64 10] rfl (by simp only [zA_, zB_, zD_] <;> rfl) ?_; (with_reducible refine (spec_l1Cur_pick.calls g s0_0 x1001_2 x1002_2 10 t277 t278 t279 w0 _ ?side1 ?side2 A10.out).mono ?_); (case side1 => exact IsS72.g HI0.out); (case side2 => exact zb_ HB.out); rintro e w11 ⟨rfl, hi, hb, hk⟩; refine ⟨_, rfl, ?_⟩; have n0_ := Aside0.mk (Kd.S_mono (Kd.S_keep (IsS72.apartS (show IsS72 w0 _ g s0_0 x1001_2 x1002_2 from IsS72.g HI0.out) (zS_ HO_5.out) (by decide)) hk (fun _ h => h.2)) (fun _ h => h.1)); have n1_ := Aside0.mk (KeepBut.trans (zK_ HK.out) hk (.inl rfl)); have n2_ := Aside0.mk (hb); have n3_ := Aside0.mk (hi); clear HO_5; clear HK; clear HB; clear HI0; have HO_5 := n0_; have HK := n1_; have HB := n2_; have HI0 := n3_; clear n0_ n1_ n2_ n3_; (try clear hb); (try clear hb2); (try clear hk); (try clear hi)))
    go_loopg [5, 6] kj2 (fun kq v5 v6 w' => ∃ (x5_2 : List (List Int)) (x6_2 : Int) (x1001_2 : Int) (x1002_2 : Int), v6 = .int .i64 x6_2 ∧ Aside0 (spec_l1Cur_hard.l0 kq t268 x5_2 x6_2 s0_0 x1001_2 x1002_2 = some (r1, r2, r3, r4)) ∧ Aside0 (kq ≤ kj2) ∧ Aside0 (Kd.S (Kd.slice 3 (Kd.int .i64)) 42 w' w.heap.size (fun _ => True) v5 x5_2) ∧ Aside0 (IsS72 w0 w' g s0_0 x1001_2 x1002_2) ∧ Aside0 (KeepBut w w' g none) ∧ Aside0 (Below w0.heap.size w0 w'))
    case atStart => exact ⟨(t269), (wrap64 (12 + t277)), (t278), (t279), (by first | rfl | (simp; done) | (simp [*]; done)), H', ⟨Nat.le_refl _⟩, ⟨zS_ HO_5.out⟩, ⟨IsS72.g HI0.out⟩, ⟨zK_ HK.out⟩, ⟨zb_ HB.out⟩⟩
    case round =>
     clear H'
     try clear c1
     try clear p2
     try clear c5
     try clear c5b0
     try clear c6
     try clear c6b0
     try clear p6
     try clear c9
     try clear c11
     try clear p2
     obtain ⟨x5_2, x6_2, x1001_2, x1002_2, rfl, HA, HK2, HO_5, HI0, HK, HB⟩ := hrel
     cases gk with
     | zero => exact absurd HA.out (by simp [spec_l1Cur_hard.l0])
     | succ k2 =>
      have H := HA.out
      clear HA
      simp only [spec_l1Cur_hard.l0] at H
      by_cases c12 : x6_2 > 0
      ·rw [if_pos c12] at H
       have c12b0 : decide (0 < x6_2) = true := decide_eq_true c12
       clear c12
       replace H := Option.bind_eq_some_iff.mp H
       obtain ⟨⟨t280, t281, t282⟩, A130, H⟩ := H
       (try dsimp only at H)
       have A13 := Aside0.mk A130
       clear A130
       replace H := Option.bind_eq_some_iff.mp H
       obtain ⟨⟨t283, t284, t285⟩, A140, H⟩ := H
       (try dsimp only at H)
       have A14 := Aside0.mk A140
       clear A140
       obtain ⟨y286, hy286⟩ : ∃ y_ : List Int, y_ = (([t280, t283] : List Int)) := ⟨_, rfl⟩
       replace H : ((spec_CleanClause.f k2 y286).bind fun bt289 => (if bt289.2 = true then (if (x5_2.length : Int) < 60 then (if x5_2.length < 5864062014805 then (spec_l1Cur_hard.l0 k2 t268 (x5_2 ++ [bt289.1]) (wrap64 (x6_2 - 1)) s0_0 t284 t285) else (none)) else (spec_l1Cur_hard.l0 k2 t268 x5_2 (wrap64 (x6_2 - 1)) s0_0 t284 t285)) else (spec_l1Cur_hard.l0 k2 t268 x5_2 (wrap64 (x6_2 - 1)) s0_0 t284 t285))) = some (r1, r2, r3, r4) := by first | (rw [hy286]; with_reducible exact H) | (have H2_ := (Option.bind_some _ _).symm.trans H; rw [hy286]; with_reducible exact H2_) | (have H2_ := (Option.bind_some _ _).symm.trans H; with_reducible exact H2_) | with_reducible exact H | (rw [hy286]; exact H) | exact H
       have Ny286 := Aside0.mk hy286
       clear hy286
       replace H := Option.bind_eq_some_iff.mp H
       obtain ⟨⟨t289, t290⟩, A150, H⟩ := H
       (try dsimp only at H)
       have A15 := Aside0.mk A150
       clear A150
       by_cases c16 : t290 = true
       ·subst c16
        have H1 : (if (x5_2.length : Int) < 60 then (if x5_2.length < 5864062014805 then (spec_l1Cur_hard.l0 k2 t268 (x5_2 ++ [t289]) (wrap64 (x6_2 - 1)) s0_0 t284 t285) else (none)) else (spec_l1Cur_hard.l0 k2 t268 x5_2 (wrap64 (x6_2 - 1)) s0_0 t284 t285)) = some (r1, r2, r3, r4) := by rw [if_pos rfl] at H; exact H
        clear H
        have H := H1
        clear H1
        by_cases c17 : (x5_2.length : Int) < 60
        ·rw [if_pos c17] at H
         have c17b0 : decide ((x5_2.length : Int) < 60) = true := decide_eq_true c17
         have c17b1 : decide (x5_2.length < 60) = true := decide_eq_true (by omega)
         clear c17
         by_cases c18 : x5_2.length < 5864062014805
         ·rw [if_pos c18] at H
          have LMc18 := Aside0.mk c18
          clear c18
          obtain ⟨y293, hy293⟩ : ∃ y_ : List (List Int), y_ = (x5_2 ++ [t289]) := ⟨_, rfl⟩
          replace H : (spec_l1Cur_hard.l0 k2 t268 y293 (wrap64 (x6_2 - 1)) s0_0 t284 t285) = some (r1, r2, r3, r4) := by first | (rw [hy293]; with_reducible exact H) | (have H2_ := (Option.bind_some _ _).symm.trans H; rw [hy293]; with_reducible exact H2_) | (have H2_ := (Option.bind_some _ _).symm.trans H; with_reducible exact H2_) | with_reducible exact H | (rw [hy293]; exact H) | exact H
          have Ny293 := Aside0.mk hy293
          clear hy293
          have H' := Aside0.mk H
          clear H
          go_wp2_with (first | ((with_reducible refine gate_callee (f := 143) rfl ?_); refine goesL_ (some 36) rfl rfl Try.func143 (by kernel_rfl) rfl #[.pointer (some ⟨g, 0, none⟩), .int .i64 t268] rfl (by simp only [zA_, zB_, zD_] <;> rfl) ?_; (with_reducible refine (spec_l1Cur_lit.calls g s0_0 x1001_2 x1002_2 t268 t280 t281 t282 w0 _ ?side1 ?side2 A13.out).mono ?_); (case side1 => exact IsS72.g HI0.out); (case side2 => exact zb_ HB.out); rintro e w19 ⟨rfl, hi, hb, hk⟩; refine ⟨_, rfl, ?_⟩; have n0_ := Aside0.mk (Kd.S_mono (Kd.S_keep (IsS72.apartS (show IsS72 w0 _ g s0_0 x1001_2 x1002_2 from IsS72.g HI0.out) (zS_ HO_5.out) (by decide)) hk (fun _ h => h.2)) (fun _ h => h.1)); have n1_ := Aside0.mk (KeepBut.trans (zK_ HK.out) hk (.inl rfl)); have n2_ := Aside0.mk (hb); have n3_ := Aside0.mk (hi); clear HO_5; clear HK; clear HB; clear HI0; have HO_5 := n0_; have HK := n1_; have HB := n2_; have HI0 := n3_; clear n0_ n1_ n2_ n3_; (try clear hb); (try clear hb2); (try clear hk); (try clear hi)) | ((with_reducible refine gate_callee (f := 143) rfl ?_); refine goesL_ (some 39) rfl rfl Try.func143 (by kernel_rfl) rfl #[.pointer (some ⟨g, 0, none⟩), .int .i64 t268] rfl (by simp only [zA_, zB_, zD_] <;> rfl) ?_; (with_reducible refine (spec_l1Cur_lit.calls g s0_0 t281 t282 t268 t283 t284 t285 w0 _ ?side1 ?side2 A14.out).mono ?_); (case side1 => exact IsS72.g HI0.out); (case side2 => exact zb_ HB.out); rintro e w20 ⟨rfl, hi, hb, hk⟩; refine ⟨_, rfl, ?_⟩; have n0_ := Aside0.mk (Kd.S_mono (Kd.S_keep (IsS72.apartS (show IsS72 w0 _ g s0_0 t281 t282 from IsS72.g HI0.out) (zS_ HO_5.out) (by decide)) hk (fun _ h => h.2)) (fun _ h => h.1)); have n1_ := Aside0.mk (KeepBut.trans (zK_ HK.out) hk (.inl rfl)); have n2_ := Aside0.mk (hb); have n3_ := Aside0.mk (hi); clear HO_5; clear HK; clear HB; clear HI0; have HO_5 := n0_; have HK := n1_; have HB := n2_; have HI0 := n3_; clear n0_ n1_ n2_ n3_; (try clear hb); (try clear hb2); (try clear hk); (try clear hi)) | ((with_reducible refine gate_dst (N := 40) rfl ?_); (try (refine gate_guard (by rfl) ?_; dsimp only)); refine Kd.R_lit (Kd.int .i64) _ 3 ?hg (N := 40) ?hd (xs := ([t280, t283] : List Int)) (inner := [.int .i64 t280, .int .i64 t283]) (ok := fun _ => True) (okp := fun _ => True) ?hr ?hp (fun _ hk => hk) trivial (Below.refl _ _) (Nat.le_refl _) (by simp) ?_; (case hd => rfl); (case hg => rfl); (case hr => first | (go_simp; done) | (go_simp; rfl)); (case hp => exact (Reps.one (show Kd.M (Kd.int .i64) _ _ _ t280 [.int .i64 t280] from rfl) (Reps.one (show Kd.M (Kd.int .i64) _ _ _ t283 [.int .i64 t283] from rfl) (Reps.none _ _)))); intro v287 w21 ho22 hb hg_ hnew_; clear hg_ hnew_; (first | rw [← Ny286.out] at ho22 | (simp only [Int.reduceToNat] at ho22; rw [← Ny286.out] at ho22)); have n0_ := Aside0.mk (Kd.S_elder' (zS_ HO_5.out) (Kd.R_base ho22) hb); have n1_ := Aside0.mk (Kd.R_lower ho22 (keep_size (w := w) (g := g) (row := none) (zK_ HK.out))); have n2_ := Aside0.mk (IsS72.below (IsS72.g HI0.out) hb); have n3_ := Aside0.mk (KeepBut.trans (zK_ HK.out) (KeepBut.of_below hb g none) (.inl rfl)); have n4_ := Aside0.mk (below_step (zb_ HB.out) hb); clear HO_5; clear HI0; clear HK; clear HB; have HO_5 := n0_; have HO288 := n1_; have HI0 := n2_; have HK := n3_; have HB := n4_; clear n0_ n1_ n2_ n3_ n4_; clear hb ho22; obtain ⟨Ao23, co23, eo23⟩ := Kd.R_slice HO288.out; subst eo23) | ((with_reducible refine gate_callee (f := 142) rfl ?_); refine goesL_ (some 41) rfl rfl Try.func142 (by kernel_rfl) rfl #[.slice Ao23 y286.length co23] rfl (by simp only [zA_, zB_, zD_] <;> rfl) ?_; (with_reducible refine (spec_CleanClause.calls k2 _ _ y286 t289 true _ ?side1 ?side2 A15.out).mono ?_); (case side1 => exact zC_ (Kd.R_reads' HO288.out).2.2); (case side2 => exact (Kd.R_reads' HO288.out).2.1); rintro e w24 ⟨v291, rfl, ho0, hb⟩; refine ⟨_, rfl, ?_⟩; have n0_ := Aside0.mk (Kd.S_elder' (zS_ HO_5.out) (Kd.R_base ho0) hb); have n1_ := Aside0.mk (Kd.R_elder' (zR_ HO288.out) (Kd.R_base ho0) hb); have n2_ := Aside0.mk (Kd.R_lower (Kd.R_new' ho0 (Kd.R_lt (zR_ HO288.out))) (keep_size (w := w) (g := g) (row := none) (zK_ HK.out))); have n3_ := Aside0.mk (IsS72.below (IsS72.g HI0.out) hb); have n4_ := Aside0.mk (KeepBut.trans (zK_ HK.out) (KeepBut.of_below hb g none) (.inl rfl)); have n5_ := Aside0.mk (below_step (zb_ HB.out) hb); clear HO_5; clear HO288; clear HI0; clear HK; clear HB; have HO_5 := n0_; have HO288 := n1_; have HO292 := n2_; have HI0 := n3_; have HK := n4_; have HB := n5_; clear n0_ n1_ n2_ n3_ n4_ n5_; (try clear hb); (try clear hb2); (try clear hk); (try clear hi); (try clear ho0); obtain ⟨Ao25, co25, eo25⟩ := Kd.S_slice HO_5.out; subst eo25; obtain ⟨Ao27, co27, eo27⟩ := Kd.R_slice HO292.out; subst eo27) | ((with_reducible refine gate_builtin (b := .append) (xs := #[.tmp 50, .tmp 52]) rfl ?_); (try (refine gate_guard (by rfl) ?_; dsimp only)); at_builtin; refine Kd.S_append (Kd.slice 3 (Kd.int .i64)) w.heap.size rfl (.tmp 50) (.tmp 52) 50 42 (.slice none 0 0) 24 rfl Try.underlying50 info42 rfl (by decide) (by omega) (.slice Ao25 x5_2.length co25) x5_2 t289 [.slice Ao27 t289.length co27] (fun k_ => some k_ ≠ (.slice Ao23 y286.length co23 : Value).ownBlock) (fun k_ => some k_ = (.slice Ao27 t289.length co27 : Value).ownBlock) rfl rfl ?aP (fun k_ hk_ => ((Kd.R_mono (ok' := fun k_ => ((fun k_ => some k_ ≠ (.slice Ao23 y286.length co23 : Value).ownBlock)) k_ ∧ some k_ ≠ (.slice Ao25 x5_2.length co25 : Value).ownBlock) (Kd.R_apart' (HO292.out) (Kd.S_typed HO_5.out) (by decide)) (fun k_ hk => ⟨hk.1.2, hk.2⟩))).1 k_ hk_.symm) ?aF ?aO (Below.refl _ _) ?aS ?aL ?_; (case aP => exact Kd.M_row (Kd.R_mono (Kd.R_tight rfl (Kd.R_mono (ok' := fun k_ => ((fun k_ => some k_ ≠ (.slice Ao23 y286.length co23 : Value).ownBlock)) k_ ∧ some k_ ≠ (.slice Ao25 x5_2.length co25 : Value).ownBlock) (Kd.R_apart' (HO292.out) (Kd.S_typed HO_5.out) (by decide)) (fun k_ hk => ⟨hk.1.2, hk.2⟩))) (fun _ h_ => h_))); (case aF => exact (fun k_ hk => Kd.fresh' (Kd.R_lt (zR_ HO288.out)) k_ hk)); (case aO => exact (by (with_reducible repeat (first | apply Kd.S_alloc | apply Kd.S_drewN | apply Kd.S_drew)); exact Kd.S_mono HO_5.out (fun k_ hk => ⟨hk.1.2, fun e_ => hk.2 e_⟩))); (case aS => exact (keep_size (w := w) (g := g) (row := none) (zK_ HK.out))); (case aL => have := LMc18.out; omega); intro v294 w26 ho hb hg hat; rw [← Ny293.out] at ho; have n0_ := Aside0.mk (IsS72.grown (IsS72.g HI0.out) hg (IsS72.own_neS HI0.out HO_5.out (by decide))); have n1_ := Aside0.mk (Kd.R_over' (zR_ HO288.out) (Kd.S_typed (zS_ HO_5.out)) (by decide) hg); have n2_ := Aside0.mk (below_weaken (zb_ HB.out) HL.out hb); have n3_ := Aside0.mk (KeepBut.trans (zK_ HK.out) (KeepBut.of_grown hg g) (Kd.S_base2 HO_5.out)); have n4_ := Aside0.mk (ho); clear HI0; clear HO288; clear HB; clear HK; clear HO_5; clear HO292; have HI0 := n0_; have HO288 := n1_; have HB := n2_; have HK := n3_; have HO295 := n4_; clear n0_ n1_ n2_ n3_ n4_; clear ho hb hg hat))
          go_roundg k2
          case measure => have := HJ2.out; have := HK2.out; omega
          case rel => exact ⟨(y293), (wrap64 (x6_2 - 1)), (t284), (t285), (by first | rfl | (simp; done) | (simp [*]; done)), H', ⟨by have := HJ2.out; have := HK2.out; omega⟩, ⟨by (with_reducible repeat (first | apply Kd.S_alloc | apply Kd.S_drewN | apply Kd.S_drew)); exact Kd.S_mono HO295.out (fun _ hk => trivial)⟩, ⟨IsS72.g HI0.out⟩, ⟨zK_ HK.out⟩, ⟨zb_ HB.out⟩⟩
         ·rw [if_neg c18] at H
          exact absurd H (by simp)
        ·rw [if_neg c17] at H
         have c17b0 : decide ((x5_2.length : Int) < 60) = false := decide_eq_false c17
         have c17b1 : decide (x5_2.length < 60) = false := decide_eq_false (by omega)
         clear c17
         have H' := Aside0.mk H
         clear H
         go_wp2_with (first | ((with_reducible refine gate_callee (f := 143) rfl ?_); refine goesL_ (some 36) rfl rfl Try.func143 (by kernel_rfl) rfl #[.pointer (some ⟨g, 0, none⟩), .int .i64 t268] rfl (by simp only [zA_, zB_, zD_] <;> rfl) ?_; (with_reducible refine (spec_l1Cur_lit.calls g s0_0 x1001_2 x1002_2 t268 t280 t281 t282 w0 _ ?side1 ?side2 A13.out).mono ?_); (case side1 => exact IsS72.g HI0.out); (case side2 => exact zb_ HB.out); rintro e w28 ⟨rfl, hi, hb, hk⟩; refine ⟨_, rfl, ?_⟩; have n0_ := Aside0.mk (Kd.S_mono (Kd.S_keep (IsS72.apartS (show IsS72 w0 _ g s0_0 x1001_2 x1002_2 from IsS72.g HI0.out) (zS_ HO_5.out) (by decide)) hk (fun _ h => h.2)) (fun _ h => h.1)); have n1_ := Aside0.mk (KeepBut.trans (zK_ HK.out) hk (.inl rfl)); have n2_ := Aside0.mk (hb); have n3_ := Aside0.mk (hi); clear HO_5; clear HK; clear HB; clear HI0; have HO_5 := n0_; have HK := n1_; have HB := n2_; have HI0 := n3_; clear n0_ n1_ n2_ n3_; (try clear hb); (try clear hb2); (try clear hk); (try clear hi)) | ((with_reducible refine gate_callee (f := 143) rfl ?_); refine goesL_ (some 39) rfl rfl Try.func143 (by kernel_rfl) rfl #[.pointer (some ⟨g, 0, none⟩), .int .i64 t268] rfl (by simp only [zA_, zB_, zD_] <;> rfl) ?_; (with_reducible refine (spec_l1Cur_lit.calls g s0_0 t281 t282 t268 t283 t284 t285 w0 _ ?side1 ?side2 A14.out).mono ?_); (case side1 => exact IsS72.g HI0.out); (case side2 => exact zb_ HB.out); rintro e w29 ⟨rfl, hi, hb, hk⟩; refine ⟨_, rfl, ?_⟩; have n0_ := Aside0.mk (Kd.S_mono (Kd.S_keep (IsS72.apartS (show IsS72 w0 _ g s0_0 t281 t282 from IsS72.g HI0.out) (zS_ HO_5.out) (by decide)) hk (fun _ h => h.2)) (fun _ h => h.1)); have n1_ := Aside0.mk (KeepBut.trans (zK_ HK.out) hk (.inl rfl)); have n2_ := Aside0.mk (hb); have n3_ := Aside0.mk (hi); clear HO_5; clear HK; clear HB; clear HI0; have HO_5 := n0_; have HK := n1_; have HB := n2_; have HI0 := n3_; clear n0_ n1_ n2_ n3_; (try clear hb); (try clear hb2); (try clear hk); (try clear hi)) | ((with_reducible refine gate_dst (N := 40) rfl ?_); (try (refine gate_guard (by rfl) ?_; dsimp only)); refine Kd.R_lit (Kd.int .i64) _ 3 ?hg (N := 40) ?hd (xs := ([t280, t283] : List Int)) (inner := [.int .i64 t280, .int .i64 t283]) (ok := fun _ => True) (okp := fun _ => True) ?hr ?hp (fun _ hk => hk) trivial (Below.refl _ _) (Nat.le_refl _) (by simp) ?_; (case hd => rfl); (case hg => rfl); (case hr => first | (go_simp; done) | (go_simp; rfl)); (case hp => exact (Reps.one (show Kd.M (Kd.int .i64) _ _ _ t280 [.int .i64 t280] from rfl) (Reps.one (show Kd.M (Kd.int .i64) _ _ _ t283 [.int .i64 t283] from rfl) (Reps.none _ _)))); intro v287 w30 ho31 hb hg_ hnew_; clear hg_ hnew_; (first | rw [← Ny286.out] at ho31 | (simp only [Int.reduceToNat] at ho31; rw [← Ny286.out] at ho31)); have n0_ := Aside0.mk (Kd.S_elder' (zS_ HO_5.out) (Kd.R_base ho31) hb); have n1_ := Aside0.mk (Kd.R_lower ho31 (keep_size (w := w) (g := g) (row := none) (zK_ HK.out))); have n2_ := Aside0.mk (IsS72.below (IsS72.g HI0.out) hb); have n3_ := Aside0.mk (KeepBut.trans (zK_ HK.out) (KeepBut.of_below hb g none) (.inl rfl)); have n4_ := Aside0.mk (below_step (zb_ HB.out) hb); clear HO_5; clear HI0; clear HK; clear HB; have HO_5 := n0_; have HO288 := n1_; have HI0 := n2_; have HK := n3_; have HB := n4_; clear n0_ n1_ n2_ n3_ n4_; clear hb ho31; obtain ⟨Ao32, co32, eo32⟩ := Kd.R_slice HO288.out; subst eo32) | ((with_reducible refine gate_callee (f := 142) rfl ?_); refine goesL_ (some 41) rfl rfl Try.func142 (by kernel_rfl) rfl #[.slice Ao32 y286.length co32] rfl (by simp only [zA_, zB_, zD_] <;> rfl) ?_; (with_reducible refine (spec_CleanClause.calls k2 _ _ y286 t289 true _ ?side1 ?side2 A15.out).mono ?_); (case side1 => exact zC_ (Kd.R_reads' HO288.out).2.2); (case side2 => exact (Kd.R_reads' HO288.out).2.1); rintro e w33 ⟨v291, rfl, ho0, hb⟩; refine ⟨_, rfl, ?_⟩; have n0_ := Aside0.mk (Kd.S_elder' (zS_ HO_5.out) (Kd.R_base ho0) hb); have n1_ := Aside0.mk (Kd.R_elder' (zR_ HO288.out) (Kd.R_base ho0) hb); have n2_ := Aside0.mk (Kd.R_lower (Kd.R_new' ho0 (Kd.R_lt (zR_ HO288.out))) (keep_size (w := w) (g := g) (row := none) (zK_ HK.out))); have n3_ := Aside0.mk (IsS72.below (IsS72.g HI0.out) hb); have n4_ := Aside0.mk (KeepBut.trans (zK_ HK.out) (KeepBut.of_below hb g none) (.inl rfl)); have n5_ := Aside0.mk (below_step (zb_ HB.out) hb); clear HO_5; clear HO288; clear HI0; clear HK; clear HB; have HO_5 := n0_; have HO288 := n1_; have HO292 := n2_; have HI0 := n3_; have HK := n4_; have HB := n5_; clear n0_ n1_ n2_ n3_ n4_ n5_; (try clear hb); (try clear hb2); (try clear hk); (try clear hi); (try clear ho0); obtain ⟨Ao34, co34, eo34⟩ := Kd.S_slice HO_5.out; subst eo34))
         go_roundg k2
         case measure => have := HJ2.out; have := HK2.out; omega
         case rel => exact ⟨(x5_2), (wrap64 (x6_2 - 1)), (t284), (t285), (by first | rfl | (simp; done) | (simp [*]; done)), H', ⟨by have := HJ2.out; have := HK2.out; omega⟩, ⟨by (with_reducible repeat (first | apply Kd.S_alloc | apply Kd.S_drewN | apply Kd.S_drew)); exact Kd.S_mono HO_5.out (fun _ hk => trivial)⟩, ⟨IsS72.g HI0.out⟩, ⟨zK_ HK.out⟩, ⟨zb_ HB.out⟩⟩
       ·replace c16 := Bool.eq_false_iff.mpr c16
        subst c16
        have H1 : (spec_l1Cur_hard.l0 k2 t268 x5_2 (wrap64 (x6_2 - 1)) s0_0 t284 t285) = some (r1, r2, r3, r4) := by rw [if_neg (show ¬ (false = true) by decide)] at H; exact H
        clear H
        have H := H1
        clear H1
        have H' := Aside0.mk H
        clear H
        go_wp2_with (first | ((with_reducible refine gate_callee (f := 143) rfl ?_); refine goesL_ (some 36) rfl rfl Try.func143 (by kernel_rfl) rfl #[.pointer (some ⟨g, 0, none⟩), .int .i64 t268] rfl (by simp only [zA_, zB_, zD_] <;> rfl) ?_; (with_reducible refine (spec_l1Cur_lit.calls g s0_0 x1001_2 x1002_2 t268 t280 t281 t282 w0 _ ?side1 ?side2 A13.out).mono ?_); (case side1 => exact IsS72.g HI0.out); (case side2 => exact zb_ HB.out); rintro e w35 ⟨rfl, hi, hb, hk⟩; refine ⟨_, rfl, ?_⟩; have n0_ := Aside0.mk (Kd.S_mono (Kd.S_keep (IsS72.apartS (show IsS72 w0 _ g s0_0 x1001_2 x1002_2 from IsS72.g HI0.out) (zS_ HO_5.out) (by decide)) hk (fun _ h => h.2)) (fun _ h => h.1)); have n1_ := Aside0.mk (KeepBut.trans (zK_ HK.out) hk (.inl rfl)); have n2_ := Aside0.mk (hb); have n3_ := Aside0.mk (hi); clear HO_5; clear HK; clear HB; clear HI0; have HO_5 := n0_; have HK := n1_; have HB := n2_; have HI0 := n3_; clear n0_ n1_ n2_ n3_; (try clear hb); (try clear hb2); (try clear hk); (try clear hi)) | ((with_reducible refine gate_callee (f := 143) rfl ?_); refine goesL_ (some 39) rfl rfl Try.func143 (by kernel_rfl) rfl #[.pointer (some ⟨g, 0, none⟩), .int .i64 t268] rfl (by simp only [zA_, zB_, zD_] <;> rfl) ?_; (with_reducible refine (spec_l1Cur_lit.calls g s0_0 t281 t282 t268 t283 t284 t285 w0 _ ?side1 ?side2 A14.out).mono ?_); (case side1 => exact IsS72.g HI0.out); (case side2 => exact zb_ HB.out); rintro e w36 ⟨rfl, hi, hb, hk⟩; refine ⟨_, rfl, ?_⟩; have n0_ := Aside0.mk (Kd.S_mono (Kd.S_keep (IsS72.apartS (show IsS72 w0 _ g s0_0 t281 t282 from IsS72.g HI0.out) (zS_ HO_5.out) (by decide)) hk (fun _ h => h.2)) (fun _ h => h.1)); have n1_ := Aside0.mk (KeepBut.trans (zK_ HK.out) hk (.inl rfl)); have n2_ := Aside0.mk (hb); have n3_ := Aside0.mk (hi); clear HO_5; clear HK; clear HB; clear HI0; have HO_5 := n0_; have HK := n1_; have HB := n2_; have HI0 := n3_; clear n0_ n1_ n2_ n3_; (try clear hb); (try clear hb2); (try clear hk); (try clear hi)) | ((with_reducible refine gate_dst (N := 40) rfl ?_); (try (refine gate_guard (by rfl) ?_; dsimp only)); refine Kd.R_lit (Kd.int .i64) _ 3 ?hg (N := 40) ?hd (xs := ([t280, t283] : List Int)) (inner := [.int .i64 t280, .int .i64 t283]) (ok := fun _ => True) (okp := fun _ => True) ?hr ?hp (fun _ hk => hk) trivial (Below.refl _ _) (Nat.le_refl _) (by simp) ?_; (case hd => rfl); (case hg => rfl); (case hr => first | (go_simp; done) | (go_simp; rfl)); (case hp => exact (Reps.one (show Kd.M (Kd.int .i64) _ _ _ t280 [.int .i64 t280] from rfl) (Reps.one (show Kd.M (Kd.int .i64) _ _ _ t283 [.int .i64 t283] from rfl) (Reps.none _ _)))); intro v287 w37 ho38 hb hg_ hnew_; clear hg_ hnew_; (first | rw [← Ny286.out] at ho38 | (simp only [Int.reduceToNat] at ho38; rw [← Ny286.out] at ho38)); have n0_ := Aside0.mk (Kd.S_elder' (zS_ HO_5.out) (Kd.R_base ho38) hb); have n1_ := Aside0.mk (Kd.R_lower ho38 (keep_size (w := w) (g := g) (row := none) (zK_ HK.out))); have n2_ := Aside0.mk (IsS72.below (IsS72.g HI0.out) hb); have n3_ := Aside0.mk (KeepBut.trans (zK_ HK.out) (KeepBut.of_below hb g none) (.inl rfl)); have n4_ := Aside0.mk (below_step (zb_ HB.out) hb); clear HO_5; clear HI0; clear HK; clear HB; have HO_5 := n0_; have HO288 := n1_; have HI0 := n2_; have HK := n3_; have HB := n4_; clear n0_ n1_ n2_ n3_ n4_; clear hb ho38; obtain ⟨Ao39, co39, eo39⟩ := Kd.R_slice HO288.out; subst eo39) | ((with_reducible refine gate_callee (f := 142) rfl ?_); refine goesL_ (some 41) rfl rfl Try.func142 (by kernel_rfl) rfl #[.slice Ao39 y286.length co39] rfl (by simp only [zA_, zB_, zD_] <;> rfl) ?_; (with_reducible refine (spec_CleanClause.calls k2 _ _ y286 t289 false _ ?side1 ?side2 A15.out).mono ?_); (case side1 => exact zC_ (Kd.R_reads' HO288.out).2.2); (case side2 => exact (Kd.R_reads' HO288.out).2.1); rintro e w40 ⟨v291, rfl, ho0, hb⟩; refine ⟨_, rfl, ?_⟩; have n0_ := Aside0.mk (Kd.S_elder' (zS_ HO_5.out) (Kd.R_base ho0) hb); have n1_ := Aside0.mk (Kd.R_elder' (zR_ HO288.out) (Kd.R_base ho0) hb); have n2_ := Aside0.mk (Kd.R_lower (Kd.R_new' ho0 (Kd.R_lt (zR_ HO288.out))) (keep_size (w := w) (g := g) (row := none) (zK_ HK.out))); have n3_ := Aside0.mk (IsS72.below (IsS72.g HI0.out) hb); have n4_ := Aside0.mk (KeepBut.trans (zK_ HK.out) (KeepBut.of_below hb g none) (.inl rfl)); have n5_ := Aside0.mk (below_step (zb_ HB.out) hb); clear HO_5; clear HO288; clear HI0; clear HK; clear HB; have HO_5 := n0_; have HO288 := n1_; have HO292 := n2_; have HI0 := n3_; have HK := n4_; have HB := n5_; clear n0_ n1_ n2_ n3_ n4_ n5_; (try clear hb); (try clear hb2); (try clear hk); (try clear hi); (try clear ho0)))
        go_roundg k2
        case measure => have := HJ2.out; have := HK2.out; omega
        case rel => exact ⟨(x5_2), (wrap64 (x6_2 - 1)), (t284), (t285), (by first | rfl | (simp; done) | (simp [*]; done)), H', ⟨by have := HJ2.out; have := HK2.out; omega⟩, ⟨by (with_reducible repeat (first | apply Kd.S_alloc | apply Kd.S_drewN | apply Kd.S_drew)); exact Kd.S_mono HO_5.out (fun _ hk => trivial)⟩, ⟨IsS72.g HI0.out⟩, ⟨zK_ HK.out⟩, ⟨zb_ HB.out⟩⟩
      ·rw [if_neg c12] at H
       have c12b0 : decide (0 < x6_2) = false := decide_eq_false c12
       clear c12
       simp only [Option.some.injEq, Prod.mk.injEq] at H
       obtain ⟨rfl, rfl, rfl, rfl⟩ := H
       go_wp2
       go_ret2
       exact ⟨_, by first | rfl | (simp [errW_none, errW_some] <;> rfl) | (simp [*, errW_none, errW_some] <;> rfl), zS_ HO_5.out, IsS72.g HI0.out, zb_ HB.out, zK_ HK.out⟩
def spec_l1Cur_proofOf.j0 : Nat → Int → List (List Int) → List (List Int) → Bool → List Int → Int → Int → Option (Int × (List (List Int)) × (List (List Int)) × Int × Int)
 | 0, _, _, _, _, _, _, _ => none
 | k + 1, x5, x6, x7, x35, x1000, x1001, x1002 => if x35 = true then ((spec_l1Cur_pick.f x1000 x1001 x1002 (x7.length : Int)).bind fun bt318 => (if 0 ≤ bt318.1 then (if bt318.1 ≤ (x7.length : Int) then ((spec_l5Copy.f k (x7.take (bt318.1 : Int).toNat)).bind fun t326 => (if 0 ≤ (wrap64 (bt318.1 + 1)) then (if (wrap64 (bt318.1 + 1)) ≤ (x7.length : Int) then ((some (x7.drop ((wrap64 (bt318.1 + 1)) : Int).toNat : List (List Int))).bind fun y329 => (if t326.length + y329.length < 5864062014805 then (some (x5, x6, (t326 ++ y329), bt318.2.1, bt318.2.2)) else (none))) else (none)) else (none))) else (none)) else (none))) else (some (x5, x6, x7, x1001, x1002))
def spec_l1Cur_proofOf.f (k : Nat) (s0_0 : List Int) (s0_1 : Int) (s0_2 : Int) : Option (Int × (List (List Int)) × (List (List Int)) × Int × Int) := (spec_l1Cur_hard.f k s0_0 s0_1 s0_2).bind fun bt296 => ((spec_ProofOf.f k bt296.1 bt296.2.1).bind fun bt302 => (if bt302.2 = true then (if (bt302.1.length : Int) > 1 then ((spec_l1Cur_one.f s0_0 bt296.2.2.1 bt296.2.2.2 3).bind fun bt315 => (spec_l1Cur_proofOf.j0 k bt296.1 bt296.2.1 bt302.1 bt315.1 s0_0 bt315.2.1 bt315.2.2)) else (spec_l1Cur_proofOf.j0 k bt296.1 bt296.2.1 bt302.1 false s0_0 bt296.2.2.1 bt296.2.2.2)) else (some (bt296.1, bt296.2.1, (([(([1] : List Int)), (([] : List Int))] : List (List Int))), bt296.2.2.1, bt296.2.2.2))))
theorem spec_l1Cur_proofOf.mono_l : ∀ k, (∀ y0 y1 y2 y3 y4 y5 y6, LeO (spec_l1Cur_proofOf.j0 k y0 y1 y2 y3 y4 y5 y6) (spec_l1Cur_proofOf.j0 (k + 1) y0 y1 y2 y3 y4 y5 y6))
 | 0 => fun _ _ _ _ _ _ _ r h => by simp [spec_l1Cur_proofOf.j0] at h
 | k + 1 => by
  have ih0 := spec_l1Cur_proofOf.mono_l k
  ·intro y0 y1 y2 y3 y4 y5 y6
   unfold spec_l1Cur_proofOf.j0
   repeat' first
   | (with_reducible exact ih0 _ _ _ _ _ _ _)
   | (with_reducible exact spec_ProofOf.mono _ _ _)
   | (with_reducible exact spec_l1Cur_hard.mono _ _ _ _)
   | (with_reducible exact spec_l5Copy.mono _ _)
   | (with_reducible exact LeO.refl _)
   | (with_reducible exact LeO.none _)
   | (with_reducible refine LeO.ite ?_ ?_)
   | (with_reducible refine LeO.bind ?_ (fun _ => ?_))
   | exact ih0 _ _ _ _ _ _ _
   | exact spec_ProofOf.mono _ _ _
   | exact spec_l1Cur_hard.mono _ _ _ _
   | exact spec_l5Copy.mono _ _
   | exact LeO.none _
   | refine LeO.ite ?_ ?_
   | refine LeO.bind ?_ (fun _ => ?_)
theorem spec_l1Cur_proofOf.mono : ∀ a0 a1 a2 k, LeO (spec_l1Cur_proofOf.f k a0 a1 a2) (spec_l1Cur_proofOf.f (k + 1) a0 a1 a2) := by
 intro a0 a1 a2 k
 have ih0 := spec_l1Cur_proofOf.mono_l k
 unfold spec_l1Cur_proofOf.f
 repeat' first
   | (with_reducible exact ih0 _ _ _ _ _ _ _)
   | (with_reducible exact spec_ProofOf.mono _ _ _)
   | (with_reducible exact spec_l1Cur_hard.mono _ _ _ _)
   | (with_reducible exact spec_l5Copy.mono _ _)
   | (with_reducible exact LeO.refl _)
   | (with_reducible exact LeO.none _)
   | (with_reducible refine LeO.ite ?_ ?_)
   | (with_reducible refine LeO.bind ?_ (fun _ => ?_))
   | exact ih0 _ _ _ _ _ _ _
   | exact spec_ProofOf.mono _ _ _
   | exact spec_l1Cur_hard.mono _ _ _ _
   | exact spec_l5Copy.mono _ _
   | exact LeO.none _
   | refine LeO.ite ?_ ?_
   | refine LeO.bind ?_ (fun _ => ?_)
def spec_l1Cur_proofOf.T8 : Bool × List (List Nat × List Nat) := (true, [([], []), ([], []), ([0, 1], [0, 1]), ([2], [2]), ([], []), ([], []), ([5], [5]), ([4, 6], [4, 6]), ([3, 7, 3], [3, 7]), ([8, 8, 0, 1, 2, 3, 4, 5, 6, 7, 8], [0, 4, 8])])
def spec_l1Cur_proofOf.B8 : List Nat := [0, 0, 3, 7, 0, 0, 32, 112, 255, 511]
theorem spec_l1Cur_proofOf.tab8 : rtab .any (opsOf Try.f88 8) = spec_l1Cur_proofOf.T8 := by kernel_rfl
theorem spec_l1Cur_proofOf.bits8 : waitsOk spec_l1Cur_proofOf.T8.2 spec_l1Cur_proofOf.B8 = true := by kernel_rfl
set_option maxHeartbeats 8000000 in
set_option maxRecDepth 100000 in
theorem spec_l1Cur_proofOf.calls (k : Nat) (g : Nat) (s0_0 : List Int) (s0_1 : Int) (s0_2 : Int) (r1 : Int) (r2 : List (List Int)) (r3 : List (List Int)) (r4 : Int) (r5 : Int) (w0 w : World) (hI : IsS72 w0 w g s0_0 s0_1 s0_2) (hB : Below w0.heap.size w0 w) (h : spec_l1Cur_proofOf.f k s0_0 s0_1 s0_2 = some (r1, r2, r3, r4, r5)) :
  Calls Try.prog 88 #[.pointer (some ⟨g, 0, none⟩)] w fun e w' => ∃ v1_ v2_ : Value, e = .returned (.tuple #[.int .i64 r1, v1_, v2_]) ∧ Kd.N (Kd.slice 3 (Kd.int .i64)) 42 w' w.heap.size (fun k_ => (w.heap.size ≤ k_) ∧ some k_ ≠ (v2_ : Value).ownBlock) v1_ r2 ∧ Kd.N (Kd.slice 3 (Kd.int .i64)) 42 w' w.heap.size (fun k_ => (w.heap.size ≤ k_) ∧ some k_ ≠ (v1_ : Value).ownBlock) v2_ r3 ∧ IsS72 w0 w' g s0_0 r4 r5 ∧ Below w0.heap.size w0 w' ∧ KeepBut w w' g none := by
 have HI0 := Aside0.mk hI
 have HK := Aside0.mk (KeepBut.refl w g none)
 have HL := Aside0.mk hB.size
 clear hI
 have HW0 := Aside0.mk hB.size
 have HB := Aside0.mk hB
 clear hB
 have H : ((spec_l1Cur_hard.f k s0_0 s0_1 s0_2).bind fun bt296 => ((spec_ProofOf.f k bt296.1 bt296.2.1).bind fun bt302 => (if bt302.2 = true then (if (bt302.1.length : Int) > 1 then ((spec_l1Cur_one.f s0_0 bt296.2.2.1 bt296.2.2.2 3).bind fun bt315 => (spec_l1Cur_proofOf.j0 k bt296.1 bt296.2.1 bt302.1 bt315.1 s0_0 bt315.2.1 bt315.2.2)) else (spec_l1Cur_proofOf.j0 k bt296.1 bt296.2.1 bt302.1 false s0_0 bt296.2.2.1 bt296.2.2.2)) else (some (bt296.1, bt296.2.1, (([(([1] : List Int)), (([] : List Int))] : List (List Int))), bt296.2.2.1, bt296.2.2.2))))) = some (r1, r2, r3, r4, r5) := h
 clear h
 replace H := Option.bind_eq_some_iff.mp H
 obtain ⟨⟨t296, t297, t300, t301⟩, A20, H⟩ := H
 (try dsimp only at H)
 have A2 := Aside0.mk A20
 clear A20
 replace H := Option.bind_eq_some_iff.mp H
 obtain ⟨⟨t302, t303⟩, A30, H⟩ := H
 (try dsimp only at H)
 have A3 := Aside0.mk A30
 clear A30
 by_cases c4 : t303 = true
 ·subst c4
  have H1 : (if (t302.length : Int) > 1 then ((spec_l1Cur_one.f s0_0 t300 t301 3).bind fun bt315 => (spec_l1Cur_proofOf.j0 k t296 t297 t302 bt315.1 s0_0 bt315.2.1 bt315.2.2)) else (spec_l1Cur_proofOf.j0 k t296 t297 t302 false s0_0 t300 t301)) = some (r1, r2, r3, r4, r5) := by rw [if_pos rfl] at H; exact H
  clear H
  have H := H1
  clear H1
  have HC5 := Aside0.mk H
  clear H
  go_enter Try.func88, Try.ntmps88
  go_upto_region 6 with (first | ((with_reducible refine gate_callee (f := 118) rfl ?_); refine goesL_ (some 12) rfl rfl Try.func118 (by kernel_rfl) rfl #[.pointer (some ⟨g, 0, none⟩)] rfl (by simp only [zA_, zB_, zD_] <;> rfl) ?_; (with_reducible refine (spec_l1Cur_hard.calls k g s0_0 s0_1 s0_2 t296 t297 t300 t301 w0 _ ?side1 ?side2 A2.out).mono ?_); (case side1 => exact IsS72.g HI0.out); (case side2 => exact zb_ HB.out); rintro e w6 ⟨v298, rfl, ho0, hi, hb, hk⟩; refine ⟨_, rfl, ?_⟩; have n0_ := Aside0.mk (Kd.N_lower (Kd.N_mono (ok' := fun k_ => (w.heap.size ≤ k_) ∧ k_ ≠ g) (Kd.S_N (Kd.S_bound ho0)) (fun k_ hk_ => ⟨(Nat.le_trans (keep_size (w := w) (g := g) (row := none) (zK_ HK.out)) hk_.2.1), (IsS72.fresh (IsS72.g HI0.out) k_ hk_.2.1)⟩)) (keep_size (w := w) (g := g) (row := none) (zK_ HK.out))); have n1_ := Aside0.mk (KeepBut.trans (zK_ HK.out) hk (.inl rfl)); have n2_ := Aside0.mk (hb); have n3_ := Aside0.mk (hi); clear HK; clear HB; clear HI0; have HO299 := n0_; have HK := n1_; have HB := n2_; have HI0 := n3_; clear n0_ n1_ n2_ n3_; (try clear hb); (try clear hb2); (try clear hk); (try clear hi); (try clear ho0); obtain ⟨Ao7, co7, eo7⟩ := Kd.N_slice HO299.out; subst eo7) | ((with_reducible refine gate_callee (f := 47) rfl ?_); refine goesL_ (some 18) rfl rfl Try.func47 (by kernel_rfl) rfl #[.int .i64 t296, .slice Ao7 t297.length co7] rfl (by simp only [zA_, zB_, zD_] <;> rfl) ?_; (with_reducible refine (spec_ProofOf.calls k t296 _ _ t297 t302 true _ ?side1 ?side2 A3.out).mono ?_); (case side1 => exact zC_ (Kd.N_reads' HO299.out).2.2); (case side2 => exact (Kd.N_reads' HO299.out).2.1); rintro e w8 ⟨v304, rfl, ho0, hb⟩; refine ⟨_, rfl, ?_⟩; have n0_ := Aside0.mk (Kd.N_elder' (zN_ HO299.out) (by first | exact Kd.N_base ho0 | exact Kd.S_base ho0) hb); have n1_ := Aside0.mk (Kd.N_lower (Kd.N_mono (ok' := fun k_ => (w.heap.size ≤ k_) ∧ some k_ ≠ (.slice Ao7 t297.length co7 : Value).ownBlock ∧ k_ ≠ g) (Kd.S_N (Kd.S_bound ho0)) (fun k_ hk_ => ⟨(Nat.le_trans (keep_size (w := w) (g := g) (row := none) (zK_ HK.out)) hk_.2.1), (Kd.fresh' (Kd.N_lt (zN_ HO299.out)) k_ hk_.2.1), (IsS72.fresh (IsS72.g HI0.out) k_ hk_.2.1)⟩)) (keep_size (w := w) (g := g) (row := none) (zK_ HK.out))); have n2_ := Aside0.mk (IsS72.below (IsS72.g HI0.out) hb); have n3_ := Aside0.mk (KeepBut.trans (zK_ HK.out) (KeepBut.of_below hb g none) (.inl rfl)); have n4_ := Aside0.mk (below_step (zb_ HB.out) hb); clear HO299; clear HI0; clear HK; clear HB; have HO299 := n0_; have HO305 := n1_; have HI0 := n2_; have HK := n3_; have HB := n4_; clear n0_ n1_ n2_ n3_ n4_; (try clear hb); (try clear hb2); (try clear hk); (try clear hi); (try clear ho0)))
  (try simp only [Act.put, List.setIfInBounds_toArray, List.set_cons_zero, List.set_cons_succ])
  go_cut [35] (fun v35 wc => ∃ (kq : Nat) (x35_4 : Bool) (x1001_4 : Int) (x1002_4 : Int), v35 = .bool x35_4 ∧ Aside0 (spec_l1Cur_proofOf.j0 kq t296 t297 t302 x35_4 s0_0 x1001_4 x1002_4 = some (r1, r2, r3, r4, r5)) ∧ Aside0 (kq ≤ k) ∧ Aside0 (Kd.N (Kd.slice 3 (Kd.int .i64)) 42 wc w.heap.size (fun k_ => (w.heap.size ≤ k_) ∧ some k_ ≠ (v304 : Value).ownBlock ∧ k_ ≠ g) (.slice Ao7 t297.length co7) t297) ∧ Aside0 (Kd.N (Kd.slice 3 (Kd.int .i64)) 42 wc w.heap.size (fun k_ => (w.heap.size ≤ k_) ∧ some k_ ≠ ((.slice Ao7 t297.length co7) : Value).ownBlock ∧ k_ ≠ g) v304 t302) ∧ Aside0 (IsS72 w0 wc g s0_0 x1001_4 x1002_4) ∧ Aside0 (KeepBut w wc g none) ∧ Aside0 (Below w0.heap.size w0 wc))
  case first =>
   have H := HC5.out
   clear HC5
   by_cases c9 : (t302.length : Int) > 1
   ·rw [if_pos c9] at H
    have c9b0 : decide (1 < (t302.length : Int)) = true := decide_eq_true c9
    have c9b1 : decide (1 < t302.length) = true := decide_eq_true (by omega)
    clear c9
    (first | rw [c9b0] | (simp only [i64_w, i32_w]; rw [c9b0]) | skip)
    replace H := Option.bind_eq_some_iff.mp H
    obtain ⟨⟨t315, t316, t317⟩, A100, H⟩ := H
    (try dsimp only at H)
    have A10 := Aside0.mk A100
    clear A100
    have H' := Aside0.mk H
    clear H
    obtain ⟨Ao11, co11, eo11⟩ := Kd.N_slice HO305.out
    subst eo11
    go_wp2_with (first | (go_at_call 85; (with_reducible refine (spec_l1Cur_one.calls g s0_0 t300 t301 3 t315 t316 t317 w0 _ ?side1 ?side2 A10.out).mono ?_); (case side1 => exact IsS72.g HI0.out); (case side2 => exact zb_ HB.out); rintro e w12 ⟨rfl, hi, hb, hk⟩; have n0_ := Aside0.mk (Kd.N_mono (Kd.N_keep (Kd.N_mono (ok := fun k_ => ((((w.heap.size ≤ k_)) ∧ k_ ≠ g) ∧ some k_ ≠ (.slice Ao11 t302.length co11 : Value).ownBlock)) (zN_ HO299.out) (fun k_ hk_ => (⟨hk_, hk_.1.2⟩ : _ ∧ k_ ≠ g))) hk (fun _ h => h.2)) (fun _ h => h.1)); have n1_ := Aside0.mk (Kd.N_mono (Kd.N_keep (Kd.N_mono (ok := fun k_ => (((w.heap.size ≤ k_)) ∧ (some k_ ≠ (.slice Ao7 t297.length co7 : Value).ownBlock ∧ k_ ≠ g))) (zN_ HO305.out) (fun k_ hk_ => (⟨hk_, hk_.2.2⟩ : _ ∧ k_ ≠ g))) hk (fun _ h => h.2)) (fun _ h => h.1)); have n2_ := Aside0.mk (KeepBut.trans (zK_ HK.out) hk (.inl rfl)); have n3_ := Aside0.mk (hb); have n4_ := Aside0.mk (hi); clear HO299; clear HO305; clear HK; clear HB; clear HI0; have HO299 := n0_; have HO305 := n1_; have HK := n2_; have HB := n3_; have HI0 := n4_; clear n0_ n1_ n2_ n3_ n4_; (try clear hb); (try clear hb2); (try clear hk); (try clear hi)))
    go_meet
    case rel => exact ⟨_, (t315), (t316), (t317), (by first | rfl | (simp; done) | (simp [*]; done)), H', ⟨by first | omega | exact Nat.le_refl _⟩, ⟨by (with_reducible repeat (first | apply Kd.N_alloc | apply Kd.N_drewN | apply Kd.N_drew)); exact Kd.N_mono HO299.out (fun _ hk => ⟨hk.1.1, ⟨hk.2, hk.1.2⟩⟩)⟩, ⟨zN_ HO305.out⟩, ⟨IsS72.g HI0.out⟩, ⟨zK_ HK.out⟩, ⟨zb_ HB.out⟩⟩
   ·rw [if_neg c9] at H
    have c9b0 : decide (1 < (t302.length : Int)) = false := decide_eq_false c9
    have c9b1 : decide (1 < t302.length) = false := decide_eq_false (by omega)
    clear c9
    (first | rw [c9b0] | (simp only [i64_w, i32_w]; rw [c9b0]) | skip)
    have H' := Aside0.mk H
    clear H
    obtain ⟨Ao13, co13, eo13⟩ := Kd.N_slice HO305.out
    subst eo13
    go_wp2
    go_meet
    case rel => exact ⟨_, (false), (t300), (t301), (by first | rfl | (simp; done) | (simp [*]; done)), H', ⟨by first | omega | exact Nat.le_refl _⟩, ⟨by (with_reducible repeat (first | apply Kd.N_alloc | apply Kd.N_drewN | apply Kd.N_drew)); exact Kd.N_mono HO299.out (fun _ hk => ⟨hk.1.1, ⟨hk.2, hk.1.2⟩⟩)⟩, ⟨zN_ HO305.out⟩, ⟨IsS72.g HI0.out⟩, ⟨zK_ HK.out⟩, ⟨zb_ HB.out⟩⟩
  case rest =>
   clear HC5
   try clear c1
   try clear p2
   try clear c4
   try clear c8
   try clear c9
   try clear c9b0
   try clear c9b1
   try clear c11
   obtain ⟨kq, x35_4, x1001_4, x1002_4, rfl, HA, HJ4, HO_6, HO_7, HI0, HK, HB⟩ := hcut
   cases kq with
   | zero => exact absurd HA.out (by simp [spec_l1Cur_proofOf.j0])
   | succ kj4 =>
    have H := HA.out
    clear HA
    simp only [spec_l1Cur_proofOf.j0] at H
    by_cases c14 : x35_4 = true
    ·subst c14
     have H1 : ((spec_l1Cur_pick.f s0_0 x1001_4 x1002_4 (t302.length : Int)).bind fun bt318 => (if 0 ≤ bt318.1 then (if bt318.1 ≤ (t302.length : Int) then ((spec_l5Copy.f kj4 (t302.take (bt318.1 : Int).toNat)).bind fun t326 => (if 0 ≤ (wrap64 (bt318.1 + 1)) then (if (wrap64 (bt318.1 + 1)) ≤ (t302.length : Int) then ((some (t302.drop ((wrap64 (bt318.1 + 1)) : Int).toNat : List (List Int))).bind fun y329 => (if t326.length + y329.length < 5864062014805 then (some (t296, t297, (t326 ++ y329), bt318.2.1, bt318.2.2)) else (none))) else (none)) else (none))) else (none)) else (none))) = some (r1, r2, r3, r4, r5) := by rw [if_pos rfl] at H; exact H
     clear H
     have H := H1
     clear H1
     replace H := Option.bind_eq_some_iff.mp H
     obtain ⟨⟨t318, t319, t320⟩, A150, H⟩ := H
     (try dsimp only at H)
     have A15 := Aside0.mk A150
     clear A150
     by_cases c16 : 0 ≤ t318
     ·rw [if_pos c16] at H
      have c16b0 := eq_true c16
      have c16b1 : decide (0 ≤ t318) = true := decide_eq_true c16
      clear c16
      by_cases c17 : t318 ≤ (t302.length : Int)
      ·rw [if_pos c17] at H
       have c17b0 := eq_true c17
       have c17b1 : decide (t318 ≤ (t302.length : Int)) = true := decide_eq_true c17
       clear c17
       obtain ⟨y321, hy321⟩ : ∃ y_ : List (List Int), y_ = (t302.take (t318 : Int).toNat) := ⟨_, rfl⟩
       replace H : ((spec_l5Copy.f kj4 y321).bind fun t326 => (if 0 ≤ (wrap64 (t318 + 1)) then (if (wrap64 (t318 + 1)) ≤ (t302.length : Int) then ((some (t302.drop ((wrap64 (t318 + 1)) : Int).toNat : List (List Int))).bind fun y329 => (if t326.length + y329.length < 5864062014805 then (some (t296, t297, (t326 ++ y329), t319, t320)) else (none))) else (none)) else (none))) = some (r1, r2, r3, r4, r5) := by first | (rw [hy321]; with_reducible exact H) | (have H2_ := (Option.bind_some _ _).symm.trans H; rw [hy321]; with_reducible exact H2_) | (have H2_ := (Option.bind_some _ _).symm.trans H; with_reducible exact H2_) | with_reducible exact H | (rw [hy321]; exact H) | exact H
       have Ny321 := Aside0.mk hy321
       clear hy321
       replace H := Option.bind_eq_some_iff.mp H
       obtain ⟨t326, A180, H⟩ := H
       (try dsimp only at H)
       have A18 := Aside0.mk A180
       clear A180
       obtain ⟨ji19, hji19⟩ : ∃ j_ : Int, (wrap64 (t318 + 1)) = j_ := ⟨_, rfl⟩
       replace H : (if 0 ≤ (ji19) then (if (ji19) ≤ (t302.length : Int) then ((some (t302.drop ((ji19) : Int).toNat : List (List Int))).bind fun y329 => (if t326.length + y329.length < 5864062014805 then (some (t296, t297, (t326 ++ y329), t319, t320)) else (none))) else (none)) else (none)) = some (r1, r2, r3, r4, r5) := by first | (rw [hji19] at H; exact H) | (simp only [hji19] at H ⊢; exact H)
       (try rw [hji19] at A15)
       (try rw [hji19] at A18)
       have hji19w : (IntKind.i64.wrap (t318 + 1)) = ji19 := (i64_w _).trans hji19
       by_cases c20 : 0 ≤ (ji19)
       ·rw [if_pos c20] at H
        have c20b0 := eq_true c20
        have c20b1 : decide (0 ≤ (ji19)) = true := decide_eq_true c20
        clear c20
        by_cases c21 : (ji19) ≤ (t302.length : Int)
        ·rw [if_pos c21] at H
         have c21b0 := eq_true c21
         have c21b1 : decide ((ji19) ≤ (t302.length : Int)) = true := decide_eq_true c21
         clear c21
         obtain ⟨y329, hy329⟩ : ∃ y_ : List (List Int), y_ = (t302.drop ((ji19) : Int).toNat) := ⟨_, rfl⟩
         replace H : (if t326.length + y329.length < 5864062014805 then (some (t296, t297, (t326 ++ y329), t319, t320)) else (none)) = some (r1, r2, r3, r4, r5) := by first | (rw [hy329]; with_reducible exact H) | (have H2_ := (Option.bind_some _ _).symm.trans H; rw [hy329]; with_reducible exact H2_) | (have H2_ := (Option.bind_some _ _).symm.trans H; with_reducible exact H2_) | with_reducible exact H | (rw [hy329]; exact H) | exact H
         have Ny329 := Aside0.mk hy329
         clear hy329
         by_cases c22 : t326.length + y329.length < 5864062014805
         ·rw [if_pos c22] at H
          have LMc22 := Aside0.mk c22
          clear c22
          obtain ⟨y334, hy334⟩ : ∃ y_ : List (List Int), y_ = (t326 ++ y329) := ⟨_, rfl⟩
          replace H : (some (t296, t297, y334, t319, t320)) = some (r1, r2, r3, r4, r5) := by first | (rw [hy334]; with_reducible exact H) | (have H2_ := (Option.bind_some _ _).symm.trans H; rw [hy334]; with_reducible exact H2_) | (have H2_ := (Option.bind_some _ _).symm.trans H; with_reducible exact H2_) | with_reducible exact H | (rw [hy334]; exact H) | exact H
          have Ny334 := Aside0.mk hy334
          clear hy334
          simp only [Option.some.injEq, Prod.mk.injEq] at H
          obtain ⟨rfl, rfl, rfl, rfl, rfl⟩ := H
          obtain ⟨Ao23, co23, eo23⟩ := Kd.N_slice HO_7.out
          subst eo23
          try go_wp2_with (first | ((with_reducible refine gate_callee (f := 69) rfl ?_); refine goesL_ (some 39) rfl rfl Try.func69 (by kernel_rfl) rfl #[.pointer (some ⟨g, 0, none⟩), .int .i64 (t302.length : Int)] rfl (by simp only [zA_, zB_, zD_] <;> rfl) ?_; (with_reducible refine (spec_l1Cur_pick.calls g s0_0 x1001_4 x1002_4 (t302.length : Int) t318 t319 t320 w0 _ ?side1 ?side2 A15.out).mono ?_); (case side1 => exact IsS72.g HI0.out); (case side2 => exact zb_ HB.out); rintro e w24 ⟨rfl, hi, hb, hk⟩; refine ⟨_, rfl, ?_⟩; have n0_ := Aside0.mk (Kd.N_mono (Kd.N_keep (Kd.N_mono (ok := fun k_ => (((w.heap.size ≤ k_)) ∧ (some k_ ≠ (.slice Ao23 t302.length co23 : Value).ownBlock ∧ k_ ≠ g))) (zN_ HO_6.out) (fun k_ hk_ => (⟨hk_, hk_.2.2⟩ : _ ∧ k_ ≠ g))) hk (fun _ h => h.2)) (fun _ h => h.1)); have n1_ := Aside0.mk (Kd.N_mono (Kd.N_keep (Kd.N_mono (ok := fun k_ => (((w.heap.size ≤ k_)) ∧ (some k_ ≠ (.slice Ao7 t297.length co7 : Value).ownBlock ∧ k_ ≠ g))) (zN_ HO_7.out) (fun k_ hk_ => (⟨hk_, hk_.2.2⟩ : _ ∧ k_ ≠ g))) hk (fun _ h => h.2)) (fun _ h => h.1)); have n2_ := Aside0.mk (KeepBut.trans (zK_ HK.out) hk (.inl rfl)); have n3_ := Aside0.mk (hb); have n4_ := Aside0.mk (hi); clear HO_6; clear HO_7; clear HK; clear HB; clear HI0; have HO_6 := n0_; have HO_7 := n1_; have HK := n2_; have HB := n3_; have HI0 := n4_; clear n0_ n1_ n2_ n3_ n4_; (try clear hb); (try clear hb2); (try clear hk); (try clear hi)))
          have n0_ := Aside0.mk (Kd.N_drew HO_6.out)
          have n1_ := Aside0.mk (Kd.N_drew HO_7.out)
          have n2_ := Aside0.mk (IsS72.drew HI0.out)
          have n3_ := Aside0.mk (keep_drew HK.out)
          have n4_ := Aside0.mk (below_drew1 HB.out)
          clear HO_6
          clear HO_7
          clear HI0
          clear HK
          clear HB
          have HO_6 := n0_
          have HO_7 := n1_
          have HI0 := n2_
          have HK := n3_
          have HB := n4_
          clear n0_ n1_ n2_ n3_ n4_
          have q26 : (t318 : Int) ≤ ((t302.length : Int) : Int) := of_decide_eq_true (by assumption)
          obtain ⟨i026, hi026, _, hsz26, _⟩ := info_parts info42
          have hroom26 : t302.length ≤ co23 := (Kd.N_reads' HO_7.out).2.1
          have hC26 : Kd.F (Kd.slice 3 (Kd.int .i64)) _ _ Ao23 t302.length t302 := (Kd.V_at (base := w.heap.size) (Kd.N_V HO_7.out)).2.2
          have hcut26 := cut_to (P := Try.prog) 50 42 .i64 Try.underlying50 hi026 Ao23 t302.length co23 t318 (of_decide_eq_true (by assumption)) q26 hroom26
          have hr26 := Kd.F_take (m := (t318 : Int).toNat) hC26 (by omega)
          have hy26 : y321.length = (t318 : Int).toNat := (by rw [Ny321.out, List.length_take]; omega)
          rw [← Ny321.out] at hr26
          rw [← hy26] at hcut26
          have HO325 := Aside0.mk (show Kd.V (Kd.slice 3 (Kd.int .i64)) 42 _ w.heap.size _ (.slice Ao23 y321.length co23) y321 from Kd.V_mk (by omega) hr26)
          have HC325 := Aside0.mk (show y321.length ≤ co23 from by omega)
          clear hr26 hC26 hroom26 hi026 hsz26
          have KY26 := Aside0.mk hy26
          clear hy26
          replace q26 := eq_true q26
          have q27 : ((ji19) : Int) ≤ ((t302.length : Int) : Int) := of_decide_eq_true (by assumption)
          obtain ⟨i027, hi027, _, hsz27, _⟩ := info_parts info42
          have hroom27 : t302.length ≤ co23 := (Kd.N_reads' HO_7.out).2.1
          have hC27 : Kd.F (Kd.slice 3 (Kd.int .i64)) _ _ Ao23 t302.length t302 := (Kd.V_at (base := w.heap.size) (Kd.N_V HO_7.out)).2.2
          have q027 : (0 : Int) ≤ ((ji19) : Int) := of_decide_eq_true (by assumption)
          have hcut27 := cut_from (P := Try.prog) 50 42 .i64 Try.underlying50 hi027 1 hsz27 Ao23 t302.length co23 (ji19) q027 q27
          have hr27 := Kd.F_cut (m := ((ji19) : Int).toNat) (c := co23) hC27 (by omega) hroom27
          obtain ⟨A27, hA27⟩ : ∃ A1, A1 = (if co23 = ((ji19) : Int).toNat then Ao23 else (Ao23 : Option Addr).map (·.add (((ji19) : Int).toNat * 1))) := ⟨_, rfl⟩
          obtain ⟨c27, hc27⟩ : ∃ c1, c1 = co23 - ((ji19) : Int).toNat := ⟨_, rfl⟩
          have hy27 : y329.length = t302.length - ((ji19) : Int).toNat := (by rw [Ny329.out, List.length_drop] <;> omega)
          rw [show (t302).drop ((ji19) : Int).toNat = y329 from Ny329.out.symm] at hr27
          replace hr27 : Kd.F (Kd.slice 3 (Kd.int .i64)) _ _ A27 y329.length y329 := (by rw [hA27]; exact hr27)
          rw [← hy27, ← hA27, ← hc27] at hcut27
          have HO333 := Aside0.mk (show Kd.V (Kd.slice 3 (Kd.int .i64)) 42 _ w.heap.size _ (.slice A27 y329.length c27) y329 from Kd.V_mk (by rw [hy27, hc27]; exact Nat.sub_le_sub_right hroom27 _) hr27)
          have HC333 := Aside0.mk (show y329.length ≤ c27 from by rw [hy27, hc27]; exact Nat.sub_le_sub_right hroom27 _)
          clear hr27 hC27 hroom27 hi027 hsz27 hc27
          have KY27 := Aside0.mk hy27
          have KA27 := Aside0.mk hA27
          clear hy27 hA27
          replace q27 := eq_true q27
          refine start_ (n := 10) (S := fun w' => True) (ds := []) #[false, false, false, false, false, false, false, false, false, false] (by kernel_rfl) rfl rfl trivial (fun hHeld => ?_); refine with_tabW spec_l1Cur_proofOf.tab8 spec_l1Cur_proofOf.bits8 (fun HT_ HW_ => ?_)
          generalize w24.drew = w25 at HO_6 HO_7 HI0 HK HB HO325 HO333 hHeld ⊢
          refine pure_ (i := 0) (N := some 40) (v := ?_) (a' := ?_) #[true, false, false, false, false, false, false, false, false, false] rfl rfl (any_of HT_.out (by kernel_rfl)) (fun _ _ _ h => h) (Or.inl ⟨by rfl, ?_⟩) ?_ ?_
          rotate_left
          ·intro w'
           go_simp
           with_reducible rfl
          rotate_left
          ·simp only [Act.put, List.setIfInBounds_toArray, List.set_cons_zero, List.set_cons_succ, i64_w, i32_w]
           rfl
          refine pure_ (i := 1) (N := some 41) (v := ?_) (a' := ?_) #[true, true, false, false, false, false, false, false, false, false] rfl rfl (any_of HT_.out (by kernel_rfl)) (fun _ _ _ h => h) (Or.inl ⟨by rfl, ?_⟩) ?_ ?_
          rotate_left
          ·intro w'
           go_simp
           with_reducible rfl
          rotate_left
          ·simp only [Act.put, List.setIfInBounds_toArray, List.set_cons_zero, List.set_cons_succ, i64_w, i32_w]
           rfl
          refine pure_ (i := 2) (N := some 42) (v := ?_) (a' := ?_) #[true, true, true, false, false, false, false, false, false, false] rfl rfl (any_of HT_.out (by kernel_rfl)) (fun _ _ _ h => h) (Or.inl ⟨by rfl, ?_⟩) ?_ ?_
          rotate_left
          ·intro w'
           go_simp
           with_reducible rfl
          rotate_left
          ·simp only [Act.put, List.setIfInBounds_toArray, List.set_cons_zero, List.set_cons_succ, i64_w, i32_w]
           rfl
          refine pure_ (i := 4) (N := some 44) (v := ?_) (a' := ?_) #[true, true, true, false, true, false, false, false, false, false] rfl rfl (any_of HT_.out (by kernel_rfl)) (fun _ _ _ h => h) (Or.inl ⟨by rfl, ?_⟩) ?_ ?_
          rotate_left
          ·intro w'
           go_simp
           with_reducible rfl
          rotate_left
          ·simp only [Act.put, List.setIfInBounds_toArray, List.set_cons_zero, List.set_cons_succ, i64_w, i32_w]
           rfl
          refine pure_ (i := 5) (N := some 45) (v := ?_) (a' := ?_) #[true, true, true, false, true, true, false, false, false, false] rfl rfl (any_of HT_.out (by kernel_rfl)) (fun _ _ _ h => h) (Or.inl ⟨by rfl, ?_⟩) ?_ ?_
          rotate_left
          ·intro w'
           go_simp
           with_reducible rfl
          rotate_left
          ·simp only [Act.put, List.setIfInBounds_toArray, List.set_cons_zero, List.set_cons_succ, i64_w, i32_w]
           rfl
          refine pure_ (i := 6) (N := some 46) (v := ?_) (a' := ?_) #[true, true, true, false, true, true, true, false, false, false] rfl rfl (any_of HT_.out (by kernel_rfl)) (fun _ _ _ h => h) (Or.inl ⟨by rfl, ?_⟩) ?_ ?_
          rotate_left
          ·intro w'
           go_simp
           with_reducible rfl
          rotate_left
          ·simp only [Act.put, List.setIfInBounds_toArray, List.set_cons_zero, List.set_cons_succ, i64_w, i32_w]
           rfl
          refine pure_ (i := 7) (N := some 47) (v := ?_) (a' := ?_) #[true, true, true, false, true, true, true, true, false, false] rfl rfl (any_of HT_.out (by kernel_rfl)) (fun _ _ _ h => h) (Or.inl ⟨by rfl, ?_⟩) ?_ ?_
          rotate_left
          ·intro w'
           go_simp
           with_reducible rfl
          rotate_left
          ·simp only [Act.put, List.setIfInBounds_toArray, List.set_cons_zero, List.set_cons_succ, i64_w, i32_w]
           rfl
          refine one_ (i := 3) (N := some 43) #[true, true, true, true, true, true, true, true, false, false] rfl rfl (one_of HT_.out (by kernel_rfl)) (by decide) (fun K hK => ?_)
          refine goes_ Try.func119 (by kernel_rfl) rfl #[.slice Ao23 y321.length co23] (by rfl) rfl rfl (by simp only [zA_, zB_, zD_] <;> rfl) ?_
          with_reducible refine (spec_l5Copy.calls kj4 _ _ y321 t326 _ ?side1 ?side2 A18.out).mono ?_
          (case side1 => exact zC_ (Kd.V_reads' HO325.out).2.2)
          (case side2 => exact (Kd.V_reads' HO325.out).2.1)
          rintro e w28 ⟨v327, rfl, ho0, hb⟩
          refine ⟨_, rfl, ?_⟩
          have n0_ := Aside0.mk (Kd.N_elder' (zN_ HO_6.out) (by first | exact Kd.N_base ho0 | exact Kd.S_base ho0) hb)
          have n1_ := Aside0.mk (Kd.N_elder' (zN_ HO_7.out) (by first | exact Kd.N_base ho0 | exact Kd.S_base ho0) hb)
          have n2_ := Aside0.mk (Kd.V_elder' (by (with_reducible repeat (first | apply Kd.V_alloc | apply Kd.V_drewN | apply Kd.V_drew)); exact HO325.out) (by first | exact Kd.N_base ho0 | exact Kd.S_base ho0) hb)
          have n3_ := Aside0.mk (Kd.V_elder' (by (with_reducible repeat (first | apply Kd.V_alloc | apply Kd.V_drewN | apply Kd.V_drew)); exact HO333.out) (by first | exact Kd.N_base ho0 | exact Kd.S_base ho0) hb)
          have n4_ := Aside0.mk (Kd.N_lower (Kd.N_mono (ok' := fun k_ => (w.heap.size ≤ k_) ∧ some k_ ≠ (.slice Ao7 t297.length co7 : Value).ownBlock ∧ some k_ ≠ (.slice Ao23 t302.length co23 : Value).ownBlock ∧ k_ ≠ g) (Kd.S_N (Kd.S_bound ho0)) (fun k_ hk_ => ⟨(Nat.le_trans (keep_size (w := w) (g := g) (row := none) (zK_ HK.out)) hk_.2.1), (Kd.fresh' (Kd.N_lt (zN_ HO_6.out)) k_ hk_.2.1), (Kd.fresh' (Kd.N_lt (zN_ HO_7.out)) k_ hk_.2.1), (IsS72.fresh (IsS72.g HI0.out) k_ hk_.2.1)⟩)) (keep_size (w := w) (g := g) (row := none) (zK_ HK.out)))
          have n5_ := Aside0.mk (IsS72.below (IsS72.g HI0.out) hb)
          have n6_ := Aside0.mk (KeepBut.trans (zK_ HK.out) (KeepBut.of_below hb g none) (.inl rfl))
          have n7_ := Aside0.mk (below_step (zb_ HB.out) hb)
          clear HO_6
          clear HO_7
          clear HO325
          clear HO333
          clear HI0
          clear HK
          clear HB
          have HO_6 := n0_
          have HO_7 := n1_
          have HO325 := n2_
          have HO333 := n3_
          have HO328 := n4_
          have HI0 := n5_
          have HK := n6_
          have HB := n7_
          clear n0_ n1_ n2_ n3_ n4_ n5_ n6_ n7_
          (try clear hb)
          (try clear hb2)
          (try clear hk)
          (try clear hi)
          (try clear ho0)
          refine hK.out _ _ trivial (fun hHeld => ?_)
          clear hK K
          refine norm_ (a' := ?_) ?_ ?_
          rotate_left
          ·show Act.put _ (some 43) _ = _
           simp only [Act.put, List.setIfInBounds_toArray, List.set_cons_zero, List.set_cons_succ, i64_w, i32_w]
           rfl
          refine one_ (i := 8) (N := some 48) #[true, true, true, true, true, true, true, true, true, false] rfl rfl (one_of HT_.out (by kernel_rfl)) (by decide) (fun K hK => ?_)
          refine Kd.N_append_rows_step (Kd.slice 3 (Kd.int .i64)) w.heap.size (by rfl) (.tmp 43) (.tmp 47) 50 42 (.slice none 0 0) 24 rfl Try.underlying50 info42 rfl (by decide) (by omega) v327 t326 y329 _ _ _ (fun k_ => (w.heap.size ≤ k_) ∧ some k_ ≠ (.slice Ao7 t297.length co7 : Value).ownBlock ∧ k_ ≠ g) (fun k_ => ((fun k_ => (w.heap.size ≤ k_) ∧ some k_ ≠ (.slice Ao7 t297.length co7 : Value).ownBlock ∧ k_ ≠ g)) k_ ∧ some k_ ≠ (v327 : Value).ownBlock) rfl rfl ?aO ?aR (fun _ hk => hk) ?aF (Below.refl _ _) ?aS ?aL ?_
          (case aR => exact (by skip; exact Kd.V_F (Kd.V_mono (ok' := (fun k_ => ((fun k_ => (w.heap.size ≤ k_) ∧ some k_ ≠ (.slice Ao7 t297.length co7 : Value).ownBlock ∧ k_ ≠ g)) k_ ∧ some k_ ≠ (v327 : Value).ownBlock)) (HO333.out) (fun k_ hk => ⟨⟨hk.1.1, ⟨hk.1.2.1, hk.1.2.2⟩⟩, hk.2⟩))))
          (case aF => exact (fun k_ hk => ⟨(Nat.le_trans (keep_size (w := w) (g := g) (row := none) (zK_ HK.out)) hk), Kd.fresh' (Kd.N_lt (zN_ HO_6.out)) k_ hk, IsS72.fresh (IsS72.g HI0.out) k_ hk⟩))
          (case aO => exact (by (with_reducible repeat (first | apply Kd.N_alloc | apply Kd.N_drewN | apply Kd.N_drew)); exact Kd.N_mono HO328.out (fun _ hk => ⟨hk.1, ⟨hk.2.1, hk.2.2.2⟩⟩)))
          (case aS => exact (keep_size (w := w) (g := g) (row := none) (zK_ HK.out)))
          (case aL => have := LMc22.out; omega)
          intro v335 w29 ho hb hg hat
          rw [← Ny334.out] at ho
          have n0_ := Aside0.mk (Kd.N_afterv (ok := (fun k_ => (w.heap.size ≤ k_) ∧ some k_ ≠ (.slice Ao23 t302.length co23 : Value).ownBlock ∧ k_ ≠ g)) (zN_ HO_6.out) hg hat)
          have n1_ := Aside0.mk (Kd.N_afterv (ok := (fun k_ => (w.heap.size ≤ k_) ∧ some k_ ≠ (.slice Ao7 t297.length co7 : Value).ownBlock ∧ k_ ≠ g)) (zN_ HO_7.out) hg hat)
          have n2_ := Aside0.mk (IsS72.grown (IsS72.g HI0.out) hg (IsS72.own_neN HI0.out HO328.out (by decide)))
          have n3_ := Aside0.mk (Kd.V_afterv (ok := (fun k_ => (w.heap.size ≤ k_) ∧ some k_ ≠ (.slice Ao7 t297.length co7 : Value).ownBlock ∧ k_ ≠ g)) (by (with_reducible repeat (first | apply Kd.V_alloc | apply Kd.V_drewN | apply Kd.V_drew)); exact HO325.out) hg hat)
          have n4_ := Aside0.mk (Kd.V_afterv (ok := (fun k_ => (w.heap.size ≤ k_) ∧ some k_ ≠ (.slice Ao7 t297.length co7 : Value).ownBlock ∧ k_ ≠ g)) (by (with_reducible repeat (first | apply Kd.V_alloc | apply Kd.V_drewN | apply Kd.V_drew)); exact HO333.out) hg hat)
          have n5_ := Aside0.mk (below_weaken (zb_ HB.out) HL.out hb)
          have n6_ := Aside0.mk (KeepBut.trans (zK_ HK.out) (KeepBut.of_grown hg g) (Kd.N_base2 HO328.out))
          have n7_ := Aside0.mk (ho)
          clear HO_6
          clear HO_7
          clear HI0
          clear HO325
          clear HO333
          clear HB
          clear HK
          clear HO328
          have HO_6 := n0_
          have HO_7 := n1_
          have HI0 := n2_
          have HO325 := n3_
          have HO333 := n4_
          have HB := n5_
          have HK := n6_
          have HO336 := n7_
          clear n0_ n1_ n2_ n3_ n4_ n5_ n6_ n7_
          clear ho hb hg hat
          refine hK.out _ _ trivial (fun hHeld => ?_)
          clear hK K
          refine norm_ (a' := ?_) ?_ ?_
          rotate_left
          ·show Act.put _ (some 48) _ = _
           simp only [Act.put, List.setIfInBounds_toArray, List.set_cons_zero, List.set_cons_succ, i64_w, i32_w]
           rfl
          refine pure_ (i := 9) (N := some 7) (v := ?_) (a' := ?_) #[true, true, true, true, true, true, true, true, true, true] rfl rfl (any_of HT_.out (by kernel_rfl)) (fun _ _ _ h => h) (Or.inl ⟨by rfl, ?_⟩) ?_ ?_
          rotate_left
          ·intro w'
           go_simp
           with_reducible rfl
          rotate_left
          ·simp only [Act.put, List.setIfInBounds_toArray, List.set_cons_zero, List.set_cons_succ, i64_w, i32_w]
           rfl
          refine done_ (done_of HT_.out (by kernel_rfl)) ?_
          try go_wp2
          go_ret3
          exact ⟨_, _, by first | rfl | (simp [errW_none, errW_some] <;> rfl) | (simp only [← hji19]; first | rfl | (simp [errW_none, errW_some] <;> rfl)) | (simp [*, errW_none, errW_some] <;> rfl), by (with_reducible repeat (first | apply Kd.N_alloc | apply Kd.N_drewN | apply Kd.N_drew)); exact Kd.N_mono HO_6.out (fun _ hk => ⟨hk.1.1, hk.2⟩), by (with_reducible repeat (first | apply Kd.N_alloc | apply Kd.N_drewN | apply Kd.N_drew)); exact Kd.N_mono HO336.out (fun _ hk => ⟨hk.1, hk.2.1⟩), IsS72.g HI0.out, zb_ HB.out, zK_ HK.out⟩
         ·rw [if_neg c22] at H
          exact absurd H (by simp)
        ·rw [if_neg c21] at H
         exact absurd H (by simp)
       ·rw [if_neg c20] at H
        exact absurd H (by simp)
      ·rw [if_neg c17] at H
       exact absurd H (by simp)
     ·rw [if_neg c16] at H
      exact absurd H (by simp)
    ·replace c14 := Bool.eq_false_iff.mpr c14
     subst c14
     have H1 : (some (t296, t297, t302, x1001_4, x1002_4)) = some (r1, r2, r3, r4, r5) := by rw [if_neg (show ¬ (false = true) by decide)] at H; exact H
     clear H
     have H := H1
     clear H1
     simp only [Option.some.injEq, Prod.mk.injEq] at H
     obtain ⟨rfl, rfl, rfl, rfl, rfl⟩ := H
     go_wp2
     go_ret3
     exact ⟨_, _, by first | rfl | (simp [errW_none, errW_some] <;> rfl) | (simp [*, errW_none, errW_some] <;> rfl), by (with_reducible repeat (first | apply Kd.N_alloc | apply Kd.N_drewN | apply Kd.N_drew)); exact Kd.N_mono HO_6.out (fun _ hk => ⟨hk.1, hk.2.1⟩), by (with_reducible repeat (first | apply Kd.N_alloc | apply Kd.N_drewN | apply Kd.N_drew)); exact Kd.N_mono HO_7.out (fun _ hk => ⟨hk.1, hk.2.1⟩), IsS72.g HI0.out, zb_ HB.out, zK_ HK.out⟩
 ·replace c4 := Bool.eq_false_iff.mpr c4
  subst c4
  have H1 : (some (t296, t297, (([(([1] : List Int)), (([] : List Int))] : List (List Int))), t300, t301)) = some (r1, r2, r3, r4, r5) := by rw [if_neg (show ¬ (false = true) by decide)] at H; exact H
  clear H
  have H := H1
  clear H1
  obtain ⟨y306, hy306⟩ : ∃ y_ : List Int, y_ = (([1] : List Int)) := ⟨_, rfl⟩
  replace H : (some (t296, t297, (([y306, (([] : List Int))] : List (List Int))), t300, t301)) = some (r1, r2, r3, r4, r5) := by first | (rw [hy306]; with_reducible exact H) | (have H2_ := (Option.bind_some _ _).symm.trans H; rw [hy306]; with_reducible exact H2_) | (have H2_ := (Option.bind_some _ _).symm.trans H; with_reducible exact H2_) | with_reducible exact H | (rw [hy306]; exact H) | exact H
  have Ny306 := Aside0.mk hy306
  clear hy306
  obtain ⟨y309, hy309⟩ : ∃ y_ : List Int, y_ = (([] : List Int)) := ⟨_, rfl⟩
  replace H : (some (t296, t297, (([y306, y309] : List (List Int))), t300, t301)) = some (r1, r2, r3, r4, r5) := by first | (rw [hy309]; with_reducible exact H) | (have H2_ := (Option.bind_some _ _).symm.trans H; rw [hy309]; with_reducible exact H2_) | (have H2_ := (Option.bind_some _ _).symm.trans H; with_reducible exact H2_) | with_reducible exact H | (rw [hy309]; exact H) | exact H
  have Ny309 := Aside0.mk hy309
  clear hy309
  obtain ⟨y312, hy312⟩ : ∃ y_ : List (List Int), y_ = (([y306, y309] : List (List Int))) := ⟨_, rfl⟩
  replace H : (some (t296, t297, y312, t300, t301)) = some (r1, r2, r3, r4, r5) := by first | (rw [hy312]; with_reducible exact H) | (have H2_ := (Option.bind_some _ _).symm.trans H; rw [hy312]; with_reducible exact H2_) | (have H2_ := (Option.bind_some _ _).symm.trans H; with_reducible exact H2_) | with_reducible exact H | (rw [hy312]; exact H) | exact H
  have Ny312 := Aside0.mk hy312
  clear hy312
  simp only [Option.some.injEq, Prod.mk.injEq] at H
  obtain ⟨rfl, rfl, rfl, rfl, rfl⟩ := H
  go_enter Try.func88, Try.ntmps88
  go_wp2_with (first | ((with_reducible refine gate_callee (f := 118) rfl ?_); refine goesL_ (some 12) rfl rfl Try.func118 (by kernel_rfl) rfl #[.pointer (some ⟨g, 0, none⟩)] rfl (by simp only [zA_, zB_, zD_] <;> rfl) ?_; (with_reducible refine (spec_l1Cur_hard.calls k g s0_0 s0_1 s0_2 t296 t297 t300 t301 w0 _ ?side1 ?side2 A2.out).mono ?_); (case side1 => exact IsS72.g HI0.out); (case side2 => exact zb_ HB.out); rintro e w30 ⟨v298, rfl, ho0, hi, hb, hk⟩; refine ⟨_, rfl, ?_⟩; have n0_ := Aside0.mk (Kd.N_lower (Kd.N_mono (ok' := fun k_ => (w.heap.size ≤ k_) ∧ k_ ≠ g) (Kd.S_N (Kd.S_bound ho0)) (fun k_ hk_ => ⟨(Nat.le_trans (keep_size (w := w) (g := g) (row := none) (zK_ HK.out)) hk_.2.1), (IsS72.fresh (IsS72.g HI0.out) k_ hk_.2.1)⟩)) (keep_size (w := w) (g := g) (row := none) (zK_ HK.out))); have n1_ := Aside0.mk (KeepBut.trans (zK_ HK.out) hk (.inl rfl)); have n2_ := Aside0.mk (hb); have n3_ := Aside0.mk (hi); clear HK; clear HB; clear HI0; have HO299 := n0_; have HK := n1_; have HB := n2_; have HI0 := n3_; clear n0_ n1_ n2_ n3_; (try clear hb); (try clear hb2); (try clear hk); (try clear hi); (try clear ho0); obtain ⟨Ao31, co31, eo31⟩ := Kd.N_slice HO299.out; subst eo31) | ((with_reducible refine gate_callee (f := 47) rfl ?_); refine goesL_ (some 18) rfl rfl Try.func47 (by kernel_rfl) rfl #[.int .i64 t296, .slice Ao31 t297.length co31] rfl (by simp only [zA_, zB_, zD_] <;> rfl) ?_; (with_reducible refine (spec_ProofOf.calls k t296 _ _ t297 t302 false _ ?side1 ?side2 A3.out).mono ?_); (case side1 => exact zC_ (Kd.N_reads' HO299.out).2.2); (case side2 => exact (Kd.N_reads' HO299.out).2.1); rintro e w32 ⟨v304, rfl, ho0, hb⟩; refine ⟨_, rfl, ?_⟩; have n0_ := Aside0.mk (Kd.N_elder' (zN_ HO299.out) (by first | exact Kd.N_base ho0 | exact Kd.S_base ho0) hb); have n1_ := Aside0.mk (Kd.N_lower (Kd.N_mono (ok' := fun k_ => (w.heap.size ≤ k_) ∧ some k_ ≠ (.slice Ao31 t297.length co31 : Value).ownBlock ∧ k_ ≠ g) (Kd.S_N (Kd.S_bound ho0)) (fun k_ hk_ => ⟨(Nat.le_trans (keep_size (w := w) (g := g) (row := none) (zK_ HK.out)) hk_.2.1), (Kd.fresh' (Kd.N_lt (zN_ HO299.out)) k_ hk_.2.1), (IsS72.fresh (IsS72.g HI0.out) k_ hk_.2.1)⟩)) (keep_size (w := w) (g := g) (row := none) (zK_ HK.out))); have n2_ := Aside0.mk (IsS72.below (IsS72.g HI0.out) hb); have n3_ := Aside0.mk (KeepBut.trans (zK_ HK.out) (KeepBut.of_below hb g none) (.inl rfl)); have n4_ := Aside0.mk (below_step (zb_ HB.out) hb); clear HO299; clear HI0; clear HK; clear HB; have HO299 := n0_; have HO305 := n1_; have HI0 := n2_; have HK := n3_; have HB := n4_; clear n0_ n1_ n2_ n3_ n4_; (try clear hb); (try clear hb2); (try clear hk); (try clear hi); (try clear ho0)) | ((with_reducible refine gate_dst (N := 23) rfl ?_); refine Kd.R_lit (Kd.int .i64) _ 3 ?hg (N := 23) ?hd (xs := ([1] : List Int)) (inner := [.int .i64 1]) (ok := fun _ => True) (okp := fun _ => True) ?hr ?hp (fun _ hk => hk) trivial (Below.refl _ _) (Nat.le_refl _) (by simp) ?_; (case hd => rfl); (case hg => rfl); (case hr => first | (go_simp; done) | (go_simp; rfl)); (case hp => exact (Reps.one (show Kd.M (Kd.int .i64) _ _ _ 1 [.int .i64 1] from rfl) (Reps.none _ _))); intro v307 w33 ho34 hb hg_ hnew_; clear hg_ hnew_; (first | rw [← Ny306.out] at ho34 | (simp only [Int.reduceToNat] at ho34; rw [← Ny306.out] at ho34)); have n0_ := Aside0.mk (Kd.N_elder' (zN_ HO299.out) (Kd.R_base ho34) hb); have n1_ := Aside0.mk (Kd.N_elder' (zN_ HO305.out) (Kd.R_base ho34) hb); have n2_ := Aside0.mk (Kd.R_lower (Kd.R_newM (M := fun k_ => (w.heap.size ≤ k_)) ho34 (keep_size (w := w) (g := g) (row := none) (zK_ HK.out)) (fun k_ h_ => h_)) (keep_size (w := w) (g := g) (row := none) (zK_ HK.out))); have n3_ := Aside0.mk (IsS72.below (IsS72.g HI0.out) hb); have n4_ := Aside0.mk (KeepBut.trans (zK_ HK.out) (KeepBut.of_below hb g none) (.inl rfl)); have n5_ := Aside0.mk (below_step (zb_ HB.out) hb); clear HO299; clear HO305; clear HI0; clear HK; clear HB; have HO299 := n0_; have HO305 := n1_; have HO308 := n2_; have HI0 := n3_; have HK := n4_; have HB := n5_; clear n0_ n1_ n2_ n3_ n4_ n5_; clear hb ho34) | ((with_reducible refine gate_dst (N := 24) rfl ?_); refine Kd.R_lit (Kd.int .i64) _ 3 ?hg (N := 24) ?hd (xs := ([] : List Int)) (inner := []) (ok := fun _ => True) (okp := fun _ => True) ?hr ?hp (fun _ hk => hk) trivial (Below.refl _ _) (Nat.le_refl _) (by simp) ?_; (case hd => rfl); (case hg => rfl); (case hr => first | (go_simp; done) | (go_simp; rfl)); (case hp => exact (Reps.none _ _)); intro v310 w35 ho36 hb hg_ hnew_; clear hg_ hnew_; (first | rw [← Ny309.out] at ho36 | (simp only [Int.reduceToNat] at ho36; rw [← Ny309.out] at ho36)); have n0_ := Aside0.mk (Kd.N_elder' (zN_ HO299.out) (Kd.R_base ho36) hb); have n1_ := Aside0.mk (Kd.N_elder' (zN_ HO305.out) (Kd.R_base ho36) hb); have n2_ := Aside0.mk (Kd.R_elder' (zR_ HO308.out) (Kd.R_base ho36) hb); have n3_ := Aside0.mk (Kd.R_lower (Kd.R_new' (Kd.R_newM (M := fun k_ => (w.heap.size ≤ k_)) ho36 (keep_size (w := w) (g := g) (row := none) (zK_ HK.out)) (fun k_ h_ => h_)) (Kd.R_lt (zR_ HO308.out))) (keep_size (w := w) (g := g) (row := none) (zK_ HK.out))); have n4_ := Aside0.mk (IsS72.below (IsS72.g HI0.out) hb); have n5_ := Aside0.mk (KeepBut.trans (zK_ HK.out) (KeepBut.of_below hb g none) (.inl rfl)); have n6_ := Aside0.mk (below_step (zb_ HB.out) hb); clear HO299; clear HO305; clear HO308; clear HI0; clear HK; clear HB; have HO299 := n0_; have HO305 := n1_; have HO308 := n2_; have HO311 := n3_; have HI0 := n4_; have HK := n5_; have HB := n6_; clear n0_ n1_ n2_ n3_ n4_ n5_ n6_; clear hb ho36; obtain ⟨Ao37, co37, eo37⟩ := Kd.R_slice HO308.out; subst eo37; obtain ⟨Ao38, co38, eo38⟩ := Kd.R_slice HO311.out; subst eo38) | ((with_reducible refine gate_dst (N := 25) rfl ?_); refine Kd.N_lit (Kd.slice 3 (Kd.int .i64)) _ 42 ?hg (N' := 25) ?hd (xs := ([y306, y309] : List (List Int))) (inner := [.slice Ao37 y306.length co37, .slice Ao38 y309.length co38]) (ok := (fun k_ => (w.heap.size ≤ k_) ∧ some k_ ≠ (.slice Ao31 t297.length co31 : Value).ownBlock ∧ some k_ ≠ (v304 : Value).ownBlock ∧ k_ ≠ g)) (okp := (fun k_ => (w.heap.size ≤ k_) ∧ some k_ ≠ (.slice Ao31 t297.length co31 : Value).ownBlock ∧ some k_ ≠ (v304 : Value).ownBlock ∧ k_ ≠ g)) ?hr ?hp (fun _ hk => hk) ((show ∀ k_, w35.heap.size ≤ k_ → (fun k_ => (w.heap.size ≤ k_) ∧ some k_ ≠ (.slice Ao31 t297.length co31 : Value).ownBlock ∧ some k_ ≠ (v304 : Value).ownBlock ∧ k_ ≠ g) k_ from fun k_ hk => ⟨(Nat.le_trans (keep_size (w := w) (g := g) (row := none) (zK_ HK.out)) hk), Kd.fresh' (Kd.N_lt (zN_ HO299.out)) k_ hk, Kd.fresh' (Kd.N_lt (zN_ HO305.out)) k_ hk, IsS72.fresh (IsS72.g HI0.out) k_ hk⟩) _ (Nat.le_refl _)) (Below.refl _ _) (Nat.le_refl _) (by simp) ?_; (case hd => rfl); (case hg => rfl); (case hr => first | (go_simp; done) | (go_simp; rfl)); (case hp => exact (Reps.one (show Kd.FK (Kd.slice 3 (Kd.int .i64)) _ _ y306 [.slice Ao37 y306.length co37] from (Kd.FK_slice_mk (Kd.R_reads' (Kd.R_mono (ok' := (fun k_ => (w.heap.size ≤ k_) ∧ some k_ ≠ (.slice Ao31 t297.length co31 : Value).ownBlock ∧ some k_ ≠ (v304 : Value).ownBlock ∧ k_ ≠ g)) (IsS72.apart HI0.out (Kd.R_apart' (Kd.R_apart' (HO308.out) (Kd.N_typed HO299.out) (by decide)) (Kd.N_typed HO305.out) (by decide)) (by decide)) (fun k_ hk => ⟨hk.1.1.1.1.1, ⟨hk.1.1.2, ⟨hk.1.2, hk.2⟩⟩⟩))).2.1 (Kd.R_F (Kd.R_mono (ok' := (fun k_ => (w.heap.size ≤ k_) ∧ some k_ ≠ (.slice Ao31 t297.length co31 : Value).ownBlock ∧ some k_ ≠ (v304 : Value).ownBlock ∧ k_ ≠ g)) (IsS72.apart HI0.out (Kd.R_apart' (Kd.R_apart' (HO308.out) (Kd.N_typed HO299.out) (by decide)) (Kd.N_typed HO305.out) (by decide)) (by decide)) (fun k_ hk => ⟨hk.1.1.1.1.1, ⟨hk.1.1.2, ⟨hk.1.2, hk.2⟩⟩⟩))))) (Reps.one (show Kd.FK (Kd.slice 3 (Kd.int .i64)) _ _ y309 [.slice Ao38 y309.length co38] from (Kd.FK_slice_mk (Kd.R_reads' (Kd.R_mono (ok' := (fun k_ => (w.heap.size ≤ k_) ∧ some k_ ≠ (.slice Ao31 t297.length co31 : Value).ownBlock ∧ some k_ ≠ (v304 : Value).ownBlock ∧ k_ ≠ g)) (IsS72.apart HI0.out (Kd.R_apart' (Kd.R_apart' (HO311.out) (Kd.N_typed HO299.out) (by decide)) (Kd.N_typed HO305.out) (by decide)) (by decide)) (fun k_ hk => ⟨hk.1.1.1.1.1, ⟨hk.1.1.2, ⟨hk.1.2, hk.2⟩⟩⟩))).2.1 (Kd.R_F (Kd.R_mono (ok' := (fun k_ => (w.heap.size ≤ k_) ∧ some k_ ≠ (.slice Ao31 t297.length co31 : Value).ownBlock ∧ some k_ ≠ (v304 : Value).ownBlock ∧ k_ ≠ g)) (IsS72.apart HI0.out (Kd.R_apart' (Kd.R_apart' (HO311.out) (Kd.N_typed HO299.out) (by decide)) (Kd.N_typed HO305.out) (by decide)) (by decide)) (fun k_ hk => ⟨hk.1.1.1.1.1, ⟨hk.1.1.2, ⟨hk.1.2, hk.2⟩⟩⟩))))) (Reps.none _ _)))); intro v313 w39 ho40 hb hg_ hnew_; clear hg_ hnew_; (first | rw [← Ny312.out] at ho40 | (simp only [Int.reduceToNat] at ho40; rw [← Ny312.out] at ho40)); have n0_ := Aside0.mk (Kd.N_elder' (zN_ HO299.out) (by first | exact Kd.N_base ho40 | exact Kd.S_base ho40) hb); have n1_ := Aside0.mk (Kd.N_elder' (zN_ HO305.out) (by first | exact Kd.N_base ho40 | exact Kd.S_base ho40) hb); have n2_ := Aside0.mk (Kd.N_lower ho40 (keep_size (w := w) (g := g) (row := none) (zK_ HK.out))); have n3_ := Aside0.mk (IsS72.below (IsS72.g HI0.out) hb); have n4_ := Aside0.mk (KeepBut.trans (zK_ HK.out) (KeepBut.of_below hb g none) (.inl rfl)); have n5_ := Aside0.mk (below_step (zb_ HB.out) hb); clear HO299; clear HO305; clear HI0; clear HK; clear HB; clear HO308; clear HO311; have HO299 := n0_; have HO305 := n1_; have HO314 := n2_; have HI0 := n3_; have HK := n4_; have HB := n5_; clear n0_ n1_ n2_ n3_ n4_ n5_; clear hb ho40))
  go_ret3
  exact ⟨_, _, by first | rfl | (simp [errW_none, errW_some] <;> rfl) | (simp [*, errW_none, errW_some] <;> rfl), by (with_reducible repeat (first | apply Kd.N_alloc | apply Kd.N_drewN | apply Kd.N_drew)); exact Kd.N_mono HO299.out (fun _ hk => ⟨hk.1.1.1.1.1, hk.2⟩), by (with_reducible repeat (first | apply Kd.N_alloc | apply Kd.N_drewN | apply Kd.N_drew)); exact Kd.N_mono HO314.out (fun _ hk => ⟨hk.1, hk.2.1⟩), IsS72.g HI0.out, zb_ HB.out, zK_ HK.out⟩
def spec_DrawCheckProof.f (k : Nat) (l0 : List Int) : Option (Int × (List (List Int)) × (List (List Int))) := (spec_l1Cur_proofOf.f k l0 0 0).bind fun bt338 => (some (bt338.1, bt338.2.1, bt338.2.2.1))
theorem spec_DrawCheckProof.mono : ∀ a0 k, LeO (spec_DrawCheckProof.f k a0) (spec_DrawCheckProof.f (k + 1) a0) := by
 intro a0 k
 unfold spec_DrawCheckProof.f
 repeat' first
   | (with_reducible exact spec_l1Cur_proofOf.mono _ _ _ _)
   | (with_reducible exact LeO.refl _)
   | (with_reducible exact LeO.none _)
   | (with_reducible refine LeO.ite ?_ ?_)
   | (with_reducible refine LeO.bind ?_ (fun _ => ?_))
   | exact spec_l1Cur_proofOf.mono _ _ _ _
   | exact LeO.none _
   | refine LeO.ite ?_ ?_
   | refine LeO.bind ?_ (fun _ => ?_)
set_option maxHeartbeats 8000000 in
set_option maxRecDepth 100000 in
theorem spec_DrawCheckProof.calls (k : Nat) (A0 : Option Addr) (c0 : Nat) (l0 : List Int) (r1 : Int) (r2 : List (List Int)) (r3 : List (List Int)) (w : World) (hr0 : Kd.C (Kd.int .u8) w A0 l0.length l0) (hc0 : l0.length ≤ c0) (h : spec_DrawCheckProof.f k l0 = some (r1, r2, r3)) :
  Calls Try.prog 39 #[.slice A0 l0.length c0] w fun e w' => ∃ v1_ v2_ : Value, e = .returned (.tuple #[.int .i64 r1, v1_, v2_]) ∧ Kd.N (Kd.slice 3 (Kd.int .i64)) 42 w' w.heap.size (fun k_ => (w.heap.size ≤ k_)) v1_ r2 ∧ Kd.N (Kd.slice 3 (Kd.int .i64)) 42 w' w.heap.size (fun k_ => (w.heap.size ≤ k_)) v2_ r3 ∧ Below w.heap.size w w' := by
 have hu72 := Try.underlying72
 have HR0 := Aside0.mk hr0
 have HC0 := Aside0.mk hc0
 clear hr0 hc0
 have HB := Aside0.mk (Below.refl w.heap.size w)
 have H : ((spec_l1Cur_proofOf.f k l0 0 0).bind fun bt338 => (some (bt338.1, bt338.2.1, bt338.2.2.1))) = some (r1, r2, r3) := h
 clear h
 replace H := Option.bind_eq_some_iff.mp H
 obtain ⟨⟨t338, t339, t342, t345, t346⟩, A20, H⟩ := H
 (try dsimp only at H)
 have A2 := Aside0.mk A20
 clear A20
 simp only [Option.some.injEq, Prod.mk.injEq] at H
 obtain ⟨rfl, rfl, rfl⟩ := H
 go_enter Try.func39, Try.ntmps39
 go_wp2_with (first | ((with_reducible refine gate_dst (N := 8) rfl ?_); refine box_event ?hg (N := 8) ?hd (cs := #[.slice A0 l0.length c0, .int .i64 0, .int .u64 0]) (t := 72) ?hr ?_; (case hd => rfl); (case hg => rfl); (case hr => first | (go_simp; done) | (go_simp; rfl)); intro gb337 hg w3 hbox hb; have n0_ := Aside0.mk (below_step (zb_ HB.out) hb); have n1_ := Aside0.mk ((show IsS72 w w3 gb337 l0 0 0 from ⟨_, _,  hbox, (by rw [hg]; exact (below_size (zb_ HB.out)) : w.heap.size ≤ gb337), HR0.out⟩)); clear HB; have HB := n0_; have HI337 := n1_; clear n0_ n1_; clear hb hbox hg) | ((with_reducible refine gate_callee (f := 88) rfl ?_); refine goesL_ (some 10) rfl rfl Try.func88 (by kernel_rfl) rfl #[.pointer (some ⟨gb337, 0, none⟩)] rfl (by simp only [zA_, zB_, zD_] <;> rfl) ?_; (with_reducible refine (spec_l1Cur_proofOf.calls k gb337 l0 0 0 t338 t339 t342 t345 t346 w _ ?side1 ?side2 A2.out).mono ?_); (case side1 => exact IsS72.g HI337.out); (case side2 => exact zb_ HB.out); rintro e w4 ⟨v340, v343, rfl, ho0, ho1, hi, hb, hk⟩; refine ⟨_, rfl, ?_⟩; have n0_ := Aside0.mk (Kd.N_lower (Kd.N_mono (ok' := fun k_ => (w.heap.size ≤ k_) ∧ some k_ ≠ (v343 : Value).ownBlock ∧ k_ ≠ gb337) ho0 (fun k_ hk_ => ⟨(Nat.le_trans (below_size (zb_ HB.out)) hk_.1), hk_.2, (IsS72.fresh (IsS72.g HI337.out) k_ hk_.1)⟩)) (below_size (zb_ HB.out))); have n1_ := Aside0.mk (Kd.N_lower (Kd.N_mono (ok' := fun k_ => (w.heap.size ≤ k_) ∧ some k_ ≠ (v340 : Value).ownBlock ∧ k_ ≠ gb337) ho1 (fun k_ hk_ => ⟨(Nat.le_trans (below_size (zb_ HB.out)) hk_.1), hk_.2, (IsS72.fresh (IsS72.g HI337.out) k_ hk_.1)⟩)) (below_size (zb_ HB.out))); have n2_ := Aside0.mk (hb); have n3_ := Aside0.mk (hi); clear HB; clear HI337; have HO341 := n0_; have HO344 := n1_; have HB := n2_; have HI337 := n3_; clear n0_ n1_ n2_ n3_; (try clear hb); (try clear hb2); (try clear hk); (try clear hi); (try clear ho0); (try clear ho1)))
 go_ret3
 exact ⟨_, _, by first | rfl | (simp [errW_none, errW_some] <;> rfl) | (simp [*, errW_none, errW_some] <;> rfl), by (with_reducible repeat (first | apply Kd.N_alloc | apply Kd.N_drewN | apply Kd.N_drew)); exact Kd.N_mono HO341.out (fun _ hk => hk.1), by (with_reducible repeat (first | apply Kd.N_alloc | apply Kd.N_drewN | apply Kd.N_drew)); exact Kd.N_mono HO344.out (fun _ hk => hk.1), zb_ HB.out⟩
def spec_DrawTrimProof.f (k : Nat) (l0 : List Int) : Option (Int × (List (List Int)) × (List (List Int))) := (spec_DrawCheckProof.f k l0).bind fun bt347 => (some (bt347.1, bt347.2.1, bt347.2.2))
theorem spec_DrawTrimProof.mono : ∀ a0 k, LeO (spec_DrawTrimProof.f k a0) (spec_DrawTrimProof.f (k + 1) a0) := by
 intro a0 k
 unfold spec_DrawTrimProof.f
 repeat' first
   | (with_reducible exact spec_DrawCheckProof.mono _ _)
   | (with_reducible exact LeO.refl _)
   | (with_reducible exact LeO.none _)
   | (with_reducible refine LeO.ite ?_ ?_)
   | (with_reducible refine LeO.bind ?_ (fun _ => ?_))
   | exact spec_DrawCheckProof.mono _ _
   | exact LeO.none _
   | refine LeO.ite ?_ ?_
   | refine LeO.bind ?_ (fun _ => ?_)
set_option maxHeartbeats 8000000 in
set_option maxRecDepth 100000 in
theorem spec_DrawTrimProof.calls (k : Nat) (A0 : Option Addr) (c0 : Nat) (l0 : List Int) (r1 : Int) (r2 : List (List Int)) (r3 : List (List Int)) (w : World) (hr0 : Kd.C (Kd.int .u8) w A0 l0.length l0) (hc0 : l0.length ≤ c0) (h : spec_DrawTrimProof.f k l0 = some (r1, r2, r3)) :
  Calls Try.prog 51 #[.slice A0 l0.length c0] w fun e w' => ∃ v1_ v2_ : Value, e = .returned (.tuple #[.int .i64 r1, v1_, v2_]) ∧ Kd.N (Kd.slice 3 (Kd.int .i64)) 42 w' w.heap.size (fun k_ => (w.heap.size ≤ k_)) v1_ r2 ∧ Kd.N (Kd.slice 3 (Kd.int .i64)) 42 w' w.heap.size (fun k_ => (w.heap.size ≤ k_)) v2_ r3 ∧ Below w.heap.size w w' := by
 have HR0 := Aside0.mk hr0
 have HC0 := Aside0.mk hc0
 clear hr0 hc0
 have HB := Aside0.mk (Below.refl w.heap.size w)
 have H : ((spec_DrawCheckProof.f k l0).bind fun bt347 => (some (bt347.1, bt347.2.1, bt347.2.2))) = some (r1, r2, r3) := h
 clear h
 replace H := Option.bind_eq_some_iff.mp H
 obtain ⟨⟨t347, t348, t351⟩, A20, H⟩ := H
 (try dsimp only at H)
 have A2 := Aside0.mk A20
 clear A20
 simp only [Option.some.injEq, Prod.mk.injEq] at H
 obtain ⟨rfl, rfl, rfl⟩ := H
 go_enter Try.func51, Try.ntmps51
 go_wp2_with (first | ((with_reducible refine gate_callee (f := 39) rfl ?_); refine goesL_ (some 6) rfl rfl Try.func39 (by kernel_rfl) rfl #[.slice A0 l0.length c0] rfl (by simp only [zA_, zB_, zD_] <;> rfl) ?_; (with_reducible refine (spec_DrawCheckProof.calls k _ _ l0 t347 t348 t351 _ ?side1 ?side2 A2.out).mono ?_); (case side1 => exact zC_ HR0.out); (case side2 => exact HC0.out); rintro e w3 ⟨v349, v352, rfl, ho0, ho1, hb⟩; refine ⟨_, rfl, ?_⟩; have n0_ := Aside0.mk (Kd.N_lower (Kd.N_mono (ok' := fun k_ => (w.heap.size ≤ k_)) ho0 (fun k_ hk_ => (Nat.le_trans (below_size (zb_ HB.out)) hk_))) (below_size (zb_ HB.out))); have n1_ := Aside0.mk (Kd.N_lower (Kd.N_mono (ok' := fun k_ => (w.heap.size ≤ k_)) ho1 (fun k_ hk_ => (Nat.le_trans (below_size (zb_ HB.out)) hk_))) (below_size (zb_ HB.out))); have n2_ := Aside0.mk (below_step (zb_ HB.out) hb); clear HB; have HO350 := n0_; have HO353 := n1_; have HB := n2_; clear n0_ n1_ n2_; (try clear hb); (try clear hb2); (try clear hk); (try clear hi); (try clear ho0); (try clear ho1)))
 go_ret3
 exact ⟨_, _, by first | rfl | (simp [errW_none, errW_some] <;> rfl) | (simp [*, errW_none, errW_some] <;> rfl), zN_ HO350.out, zN_ HO353.out, zb_ HB.out⟩
end Go.Proofs.Ytpkbjgmeejlchaa.PFnTrimmed
-- squeezed
