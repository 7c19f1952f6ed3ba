-- Made by a program of this session (wip/tools), which leans on the kit's print: checked by Lean alone.
import Derived.Test.YtpkbjgmeejlchaaPFnTrimmedx0
import Derived.Test.YtpkbjgmeejlchaaPFnTrimmedx1
import Derived.Test.YtpkbjgmeejlchaaPFnTrimmedx13
namespace Go.Proofs.Ytpkbjgmeejlchaa.PFnTrimmed
open Go.RowKit Go.Proofs.YtpkbjgmeejlchaaW.PrintWords Go.Proofs.YtpkbjgmeejlchaaW.PrintLast Go.Proofs.YtpkbjgmeejlchaaW.PrintMore
attribute [local go_sem] max2_int min2_int max_two min_two max_three min_three max_four min_four   -- for this text's walks alone
set_option linter.unusedVariables false
set_option linter.unusedSimpArgs false
def impl_SolveWith.f (k : Nat) (a0 : Int) (l1 : List (List Int)) (l2 : List Int) : Option (Bool × List Bool × List (List Int) × Bool) := (impl_units.f k l2).bind fun u => if l1.length + u.length < 4398046511104 then ((impl_GoodClauses.f a0 l1).bind fun t1 => if t1 = true then ((impl_isClause.f l2 a0).bind fun t2 => if t2 = true then (if (l1 ++ u).length > 60 then some (false, [], [], false) else impl_solve.f k a0 (l1 ++ u)) else some (false, [], [], false)) else some (false, [], [], false)) else none
theorem impl_SolveWith.mono : ∀ a0 a1 a2 k, LeO (impl_SolveWith.f k a0 a1 a2) (impl_SolveWith.f (k + 1) a0 a1 a2) := by
 intro a0 a1 a2 k
 unfold impl_SolveWith.f
 repeat' first
 | (with_reducible exact impl_units.mono _ _)
 | (with_reducible exact impl_solve.mono _ _ _)
 | (with_reducible exact LeO.refl _)
 | (with_reducible exact LeO.none _)
 | (with_reducible refine LeO.ite ?_ ?_)
 | (with_reducible refine LeO.bind ?_ (fun _ => ?_))
set_option maxHeartbeats 1000000 in
set_option maxRecDepth 100000 in
theorem impl_SolveWith.calls (k : Nat) (a0 : Int) (A1 : Option Addr) (c1 : Nat) (l1 : List (List Int)) (A2 : Option Addr) (c2 : Nat) (l2 : List Int) (r1 : Bool) (r2 : List Bool) (r3 : List (List Int)) (r4 : Bool) (w : World) (hr1 : Kd.C (Kd.slice 3 (Kd.int .i64)) w A1 l1.length l1) (hc1 : l1.length ≤ c1) (hr2 : Kd.C (Kd.int .i64) w A2 l2.length l2) (hc2 : l2.length ≤ c2) (h : impl_SolveWith.f k a0 l1 l2 = some (r1, r2, r3, r4)) :
  Calls Try.prog 107 #[.int .i64 a0, .slice A1 l1.length c1, .slice A2 l2.length c2] w fun e w' => ∃ v1_ v2_ : Value, e = .returned (.tuple #[.bool r1, v1_, v2_, .bool r4]) ∧ Kd.R Kd.bool 4 w' w.heap.size (fun _ => True) v1_ r2 ∧ Kd.S (Kd.slice 3 (Kd.int .i64)) 42 w' w.heap.size (fun _ => True) v2_ r3 ∧ Below w.heap.size w w' := by
 have HR1 := Aside0.mk hr1
 have HC1 := Aside0.mk hc1
 have HR2 := Aside0.mk hr2
 have HC2 := Aside0.mk hc2
 clear hr1 hc1 hr2 hc2
 have HB := Aside0.mk (Below.refl w.heap.size w)
 unfold impl_SolveWith.f at h
 replace h := Option.bind_eq_some_iff.mp h
 obtain ⟨u, A0', h⟩ := h
 have G0 := Aside0.mk A0'
 clear A0'
 by_cases c0 : l1.length + u.length < 4398046511104
 ·rw [if_pos c0] at h
  obtain ⟨y, hy⟩ : ∃ y, y = l1 ++ u := ⟨_, rfl⟩
  have HY := Aside0.mk (show slices_Concat_rows [l1, u] = some y by unfold slices_Concat_rows; rw [if_pos (by simpa using c0), hy]; simp)
  rw [← hy] at h
  clear c0 hy
  replace h := Option.bind_eq_some_iff.mp h
  obtain ⟨t1, A1', h⟩ := h
  have G1 := Aside0.mk A1'
  clear A1'
  cases t1 with
  | false =>
   obtain ⟨rfl, rfl, rfl, rfl⟩ : false = r1 ∧ [] = r2 ∧ [] = r3 ∧ false = r4 := by simpa using h
   clear h
   go_enter Try.func107, Try.ntmps107
   go_wp2_with (first | (go_at_call 139; (with_reducible refine (impl_units.calls k _ _ l2 u _ ?side1 ?side2 G0.out).mono ?_); (case side1 => exact zC_ HR2.out); (case side2 => exact HC2.out); rintro e w4 ⟨v4, rfl, ho, hb⟩; obtain ⟨A4, c4, e4⟩ := Kd.S_slice ho; subst e4; have HR4 := Aside0.mk (Kd.S_reads' ho).2.2; have HC4 := Aside0.mk (Kd.S_reads' ho).2.1; have n0_ := Aside0.mk (below_step (zb_ HB.out) hb); clear HB; have HB := n0_; clear n0_ ho hb) | (go_at_call 138; (with_reducible refine (slices_Concat_two_calls _ _ l1 u y _ ?side1 ?side2 HY.out).mono ?_); (case side1 => exact C_two_ _ _ _ _ _ _ _ _ (Kd.C_below HR1.out HB.out) HC1.out HR4.out HC4.out); (case side2 => exact Nat.le_refl _); rintro e w5 ⟨v5, rfl, ho, hb⟩; obtain ⟨A5, c5, e5, hl5, hr5⟩ := R_came_ ho hb; subst e5; have HR5 := Aside0.mk hr5; have HC5 := Aside0.mk hl5; have n0_ := Aside0.mk (below_step (zb_ HB.out) hb); clear HB hr5 hl5 ho hb; have HB := n0_; clear n0_) | (go_at_call 93; (with_reducible refine (impl_GoodClauses.calls a0 _ _ l1 false _ ?side1 ?side2 G1.out).mono ?_); (case side1 => exact zC_ (Kd.C_below HR1.out HB.out)); (case side2 => exact HC1.out); rintro e w6 ⟨rfl, hb⟩; have q_ := Aside0.mk (Kd.C_below (show Kd.C (Kd.slice 3 (Kd.int .i64)) _ A5 y.length y by exact zC_ HR5.out) hb); clear HR5; have HR5 := q_; clear q_; have n0_ := Aside0.mk (below_step (zb_ HB.out) hb); clear HB; have HB := n0_; clear n0_ hb))
   (try simp only [Exit.inBlock, Exit.then])
   refine bodyPost_ret (results_tmp4_ rfl _ _ _) rfl ?_
   exact ⟨_, _, by first | rfl | simp, Kd.R_nil _ _ _ _ _, Kd.S_nil _ _ _ _ _, zb_ HB.out⟩
  | true =>
   rw [if_pos rfl] at h
   replace h := Option.bind_eq_some_iff.mp h
   obtain ⟨t2, A2', h⟩ := h
   have G2 := Aside0.mk A2'
   clear A2'
   cases t2 with
   | false =>
    obtain ⟨rfl, rfl, rfl, rfl⟩ : false = r1 ∧ [] = r2 ∧ [] = r3 ∧ false = r4 := by simpa using h
    clear h
    go_enter Try.func107, Try.ntmps107
    go_wp2_with (first | (go_at_call 139; (with_reducible refine (impl_units.calls k _ _ l2 u _ ?side1 ?side2 G0.out).mono ?_); (case side1 => exact zC_ HR2.out); (case side2 => exact HC2.out); rintro e w4 ⟨v4, rfl, ho, hb⟩; obtain ⟨A4, c4, e4⟩ := Kd.S_slice ho; subst e4; have HR4 := Aside0.mk (Kd.S_reads' ho).2.2; have HC4 := Aside0.mk (Kd.S_reads' ho).2.1; have n0_ := Aside0.mk (below_step (zb_ HB.out) hb); clear HB; have HB := n0_; clear n0_ ho hb) | (go_at_call 138; (with_reducible refine (slices_Concat_two_calls _ _ l1 u y _ ?side1 ?side2 HY.out).mono ?_); (case side1 => exact C_two_ _ _ _ _ _ _ _ _ (Kd.C_below HR1.out HB.out) HC1.out HR4.out HC4.out); (case side2 => exact Nat.le_refl _); rintro e w5 ⟨v5, rfl, ho, hb⟩; obtain ⟨A5, c5, e5, hl5, hr5⟩ := R_came_ ho hb; subst e5; have HR5 := Aside0.mk hr5; have HC5 := Aside0.mk hl5; have n0_ := Aside0.mk (below_step (zb_ HB.out) hb); clear HB hr5 hl5 ho hb; have HB := n0_; clear n0_) | (go_at_call 93; (with_reducible refine (impl_GoodClauses.calls a0 _ _ l1 true _ ?side1 ?side2 G1.out).mono ?_); (case side1 => exact zC_ (Kd.C_below HR1.out HB.out)); (case side2 => exact HC1.out); rintro e w6 ⟨rfl, hb⟩; have q_ := Aside0.mk (Kd.C_below (show Kd.C (Kd.slice 3 (Kd.int .i64)) _ A5 y.length y by exact zC_ HR5.out) hb); clear HR5; have HR5 := q_; clear q_; have n0_ := Aside0.mk (below_step (zb_ HB.out) hb); clear HB; have HB := n0_; clear n0_ hb) | (go_at_call 102; (with_reducible refine (impl_isClause.calls _ _ l2 a0 false _ ?side1 ?side2 G2.out).mono ?_); (case side1 => exact zC_ (Kd.C_below HR2.out HB.out)); (case side2 => exact HC2.out); rintro e w7 ⟨rfl, hb⟩; have q_ := Aside0.mk (Kd.C_below (show Kd.C (Kd.slice 3 (Kd.int .i64)) _ A5 y.length y by exact zC_ HR5.out) hb); clear HR5; have HR5 := q_; clear q_; have n0_ := Aside0.mk (below_step (zb_ HB.out) hb); clear HB; have HB := n0_; clear n0_ hb))
    (try simp only [Exit.inBlock, Exit.then])
    refine bodyPost_ret (results_tmp4_ rfl _ _ _) rfl ?_
    exact ⟨_, _, by first | rfl | simp, Kd.R_nil _ _ _ _ _, Kd.S_nil _ _ _ _ _, zb_ HB.out⟩
   | true =>
    rw [if_pos rfl] at h
    by_cases c3 : y.length > 60
    ·rw [if_pos c3] at h
     obtain ⟨rfl, rfl, rfl, rfl⟩ : false = r1 ∧ [] = r2 ∧ [] = r3 ∧ false = r4 := by simpa using h
     have d1 : decide (60 < y.length) = true := decide_eq_true c3
     have d2 : decide (60 < (y.length : Int)) = true := decide_eq_true (by omega)
     clear h c3
     go_enter Try.func107, Try.ntmps107
     go_wp2_with (first | (go_at_call 139; (with_reducible refine (impl_units.calls k _ _ l2 u _ ?side1 ?side2 G0.out).mono ?_); (case side1 => exact zC_ HR2.out); (case side2 => exact HC2.out); rintro e w4 ⟨v4, rfl, ho, hb⟩; obtain ⟨A4, c4, e4⟩ := Kd.S_slice ho; subst e4; have HR4 := Aside0.mk (Kd.S_reads' ho).2.2; have HC4 := Aside0.mk (Kd.S_reads' ho).2.1; have n0_ := Aside0.mk (below_step (zb_ HB.out) hb); clear HB; have HB := n0_; clear n0_ ho hb) | (go_at_call 138; (with_reducible refine (slices_Concat_two_calls _ _ l1 u y _ ?side1 ?side2 HY.out).mono ?_); (case side1 => exact C_two_ _ _ _ _ _ _ _ _ (Kd.C_below HR1.out HB.out) HC1.out HR4.out HC4.out); (case side2 => exact Nat.le_refl _); rintro e w5 ⟨v5, rfl, ho, hb⟩; obtain ⟨A5, c5, e5, hl5, hr5⟩ := R_came_ ho hb; subst e5; have HR5 := Aside0.mk hr5; have HC5 := Aside0.mk hl5; have n0_ := Aside0.mk (below_step (zb_ HB.out) hb); clear HB hr5 hl5 ho hb; have HB := n0_; clear n0_) | (go_at_call 93; (with_reducible refine (impl_GoodClauses.calls a0 _ _ l1 true _ ?side1 ?side2 G1.out).mono ?_); (case side1 => exact zC_ (Kd.C_below HR1.out HB.out)); (case side2 => exact HC1.out); rintro e w6 ⟨rfl, hb⟩; have q_ := Aside0.mk (Kd.C_below (show Kd.C (Kd.slice 3 (Kd.int .i64)) _ A5 y.length y by exact zC_ HR5.out) hb); clear HR5; have HR5 := q_; clear q_; have n0_ := Aside0.mk (below_step (zb_ HB.out) hb); clear HB; have HB := n0_; clear n0_ hb) | (go_at_call 102; (with_reducible refine (impl_isClause.calls _ _ l2 a0 true _ ?side1 ?side2 G2.out).mono ?_); (case side1 => exact zC_ (Kd.C_below HR2.out HB.out)); (case side2 => exact HC2.out); rintro e w7 ⟨rfl, hb⟩; have q_ := Aside0.mk (Kd.C_below (show Kd.C (Kd.slice 3 (Kd.int .i64)) _ A5 y.length y by exact zC_ HR5.out) hb); clear HR5; have HR5 := q_; clear q_; have n0_ := Aside0.mk (below_step (zb_ HB.out) hb); clear HB; have HB := n0_; clear n0_ hb))
     (try simp only [Exit.inBlock, Exit.then])
     refine bodyPost_ret (results_tmp4_ rfl _ _ _) rfl ?_
     exact ⟨_, _, by first | rfl | simp, Kd.R_nil _ _ _ _ _, Kd.S_nil _ _ _ _ _, zb_ HB.out⟩
    ·rw [if_neg c3] at h
     have G3 := Aside0.mk h
     have d1 : decide (60 < y.length) = false := decide_eq_false c3
     have d2 : decide (60 < (y.length : Int)) = false := decide_eq_false (by omega)
     clear h c3
     go_enter Try.func107, Try.ntmps107
     go_wp2_with (first | (go_at_call 139; (with_reducible refine (impl_units.calls k _ _ l2 u _ ?side1 ?side2 G0.out).mono ?_); (case side1 => exact zC_ HR2.out); (case side2 => exact HC2.out); rintro e w4 ⟨v4, rfl, ho, hb⟩; obtain ⟨A4, c4, e4⟩ := Kd.S_slice ho; subst e4; have HR4 := Aside0.mk (Kd.S_reads' ho).2.2; have HC4 := Aside0.mk (Kd.S_reads' ho).2.1; have n0_ := Aside0.mk (below_step (zb_ HB.out) hb); clear HB; have HB := n0_; clear n0_ ho hb) | (go_at_call 138; (with_reducible refine (slices_Concat_two_calls _ _ l1 u y _ ?side1 ?side2 HY.out).mono ?_); (case side1 => exact C_two_ _ _ _ _ _ _ _ _ (Kd.C_below HR1.out HB.out) HC1.out HR4.out HC4.out); (case side2 => exact Nat.le_refl _); rintro e w5 ⟨v5, rfl, ho, hb⟩; obtain ⟨A5, c5, e5, hl5, hr5⟩ := R_came_ ho hb; subst e5; have HR5 := Aside0.mk hr5; have HC5 := Aside0.mk hl5; have n0_ := Aside0.mk (below_step (zb_ HB.out) hb); clear HB hr5 hl5 ho hb; have HB := n0_; clear n0_) | (go_at_call 93; (with_reducible refine (impl_GoodClauses.calls a0 _ _ l1 true _ ?side1 ?side2 G1.out).mono ?_); (case side1 => exact zC_ (Kd.C_below HR1.out HB.out)); (case side2 => exact HC1.out); rintro e w6 ⟨rfl, hb⟩; have q_ := Aside0.mk (Kd.C_below (show Kd.C (Kd.slice 3 (Kd.int .i64)) _ A5 y.length y by exact zC_ HR5.out) hb); clear HR5; have HR5 := q_; clear q_; have n0_ := Aside0.mk (below_step (zb_ HB.out) hb); clear HB; have HB := n0_; clear n0_ hb) | (go_at_call 102; (with_reducible refine (impl_isClause.calls _ _ l2 a0 true _ ?side1 ?side2 G2.out).mono ?_); (case side1 => exact zC_ (Kd.C_below HR2.out HB.out)); (case side2 => exact HC2.out); rintro e w7 ⟨rfl, hb⟩; have q_ := Aside0.mk (Kd.C_below (show Kd.C (Kd.slice 3 (Kd.int .i64)) _ A5 y.length y by exact zC_ HR5.out) hb); clear HR5; have HR5 := q_; clear q_; have n0_ := Aside0.mk (below_step (zb_ HB.out) hb); clear HB; have HB := n0_; clear n0_ hb) | (go_at_call 125; (with_reducible refine (impl_solve.calls k a0 _ _ y r1 r2 r3 r4 _ ?side1 ?side2 G3.out).mono ?_); (case side1 => exact zC_ HR5.out); (case side2 => exact HC5.out); rintro e w8 ⟨v8, v9, rfl, ho, ho2, hb⟩; have HO8 := Aside0.mk (Kd.R_lower ho (below_size (zb_ HB.out))); have HO9 := Aside0.mk (Kd.S_lower ho2 (below_size (zb_ HB.out))); have n0_ := Aside0.mk (below_step (zb_ HB.out) hb); clear HB; have HB := n0_; clear n0_ ho ho2 hb))
     (try simp only [Exit.inBlock, Exit.then])
     refine bodyPost_ret (results_tmp4_ rfl _ _ _) rfl ?_
     exact ⟨_, _, by first | rfl | simp, zR_ HO8.out, zS_ HO9.out, zb_ HB.out⟩
 ·rw [if_neg c0] at h
  exact absurd h (by simp)
def impl_FollowsFrom.j0 : Nat → Int → List (List Int) → List Int → Bool → Option (Bool × Bool)
 | 0, _, _, _, _ => none
 | k + 1, x0, x1, x2, x21 => if x21 = true then (some (false, false)) else ((impl_learn.f k x2).bind fun t513 => ((impl_SolveWith.f k x0 x1 t513).bind fun bt516 => (if bt516.2.2.2 = true then (some (!bt516.1, bt516.2.2.2)) else (some (false, bt516.2.2.2)))))
def impl_FollowsFrom.f (k : Nat) (a0 : Int) (l1 : List (List Int)) (l2 : List Int) : Option (Bool × Bool) := (impl_GoodClauses.f a0 l1).bind fun t511 => (if t511 = true then ((impl_isClause.f l2 a0).bind fun t512 => (impl_FollowsFrom.j0 k a0 l1 l2 (!t512))) else (impl_FollowsFrom.j0 k a0 l1 l2 true))
theorem impl_FollowsFrom.mono_l : ∀ k, (∀ y0 y1 y2 y3, LeO (impl_FollowsFrom.j0 k y0 y1 y2 y3) (impl_FollowsFrom.j0 (k + 1) y0 y1 y2 y3))
 | 0 => fun _ _ _ _ r h => by simp [impl_FollowsFrom.j0] at h
 | k + 1 => by
  have ih0 := impl_FollowsFrom.mono_l k
  ·intro y0 y1 y2 y3
   unfold impl_FollowsFrom.j0
   repeat' first
   | (with_reducible exact ih0 _ _ _ _)
   | (with_reducible exact impl_SolveWith.mono _ _ _ _)
   | (with_reducible exact impl_learn.mono _ _)
   | (with_reducible exact LeO.refl _)
   | (with_reducible exact LeO.none _)
   | (with_reducible refine LeO.ite ?_ ?_)
   | (with_reducible refine LeO.bind ?_ (fun _ => ?_))
   | exact ih0 _ _ _ _
   | exact impl_SolveWith.mono _ _ _ _
   | exact impl_learn.mono _ _
   | exact LeO.none _
   | refine LeO.ite ?_ ?_
   | refine LeO.bind ?_ (fun _ => ?_)
theorem impl_FollowsFrom.mono : ∀ a0 a1 a2 k, LeO (impl_FollowsFrom.f k a0 a1 a2) (impl_FollowsFrom.f (k + 1) a0 a1 a2) := by
 intro a0 a1 a2 k
 have ih0 := impl_FollowsFrom.mono_l k
 unfold impl_FollowsFrom.f
 repeat' first
   | (with_reducible exact ih0 _ _ _ _)
   | (with_reducible exact impl_SolveWith.mono _ _ _ _)
   | (with_reducible exact impl_learn.mono _ _)
   | (with_reducible exact LeO.refl _)
   | (with_reducible exact LeO.none _)
   | (with_reducible refine LeO.ite ?_ ?_)
   | (with_reducible refine LeO.bind ?_ (fun _ => ?_))
   | exact ih0 _ _ _ _
   | exact impl_SolveWith.mono _ _ _ _
   | exact impl_learn.mono _ _
   | exact LeO.none _
   | refine LeO.ite ?_ ?_
   | refine LeO.bind ?_ (fun _ => ?_)
set_option maxHeartbeats 8000000 in
set_option maxRecDepth 100000 in
theorem impl_FollowsFrom.calls (k : Nat) (a0 : Int) (A1 : Option Addr) (c1 : Nat) (l1 : List (List Int)) (A2 : Option Addr) (c2 : Nat) (l2 : List Int) (r1 : Bool) (r2 : Bool) (w : World) (hr1 : Kd.C (Kd.slice 3 (Kd.int .i64)) w A1 l1.length l1) (hc1 : l1.length ≤ c1) (hr2 : Kd.C (Kd.int .i64) w A2 l2.length l2) (hc2 : l2.length ≤ c2) (h : impl_FollowsFrom.f k a0 l1 l2 = some (r1, r2)) :
  Calls Try.prog 61 #[.int .i64 a0, .slice A1 l1.length c1, .slice A2 l2.length c2] w fun e w' => e = .returned (.tuple #[.bool r1, .bool r2]) ∧ Below w.heap.size w w' := by
 have HR1 := Aside0.mk hr1
 have HC1 := Aside0.mk hc1
 clear hr1 hc1
 have HR2 := Aside0.mk hr2
 have HC2 := Aside0.mk hc2
 clear hr2 hc2
 have HB := Aside0.mk (Below.refl w.heap.size w)
 have H : ((impl_GoodClauses.f a0 l1).bind fun t511 => (if t511 = true then ((impl_isClause.f l2 a0).bind fun t512 => (impl_FollowsFrom.j0 k a0 l1 l2 (!t512))) else (impl_FollowsFrom.j0 k a0 l1 l2 true))) = some (r1, r2) := h
 clear h
 have HC4 := Aside0.mk H
 clear H
 go_enter Try.func61, Try.ntmps61
 go_upto_region 1 with (fail)
 go_cut [21] (fun v21 wc => ∃ (kq : Nat) (x21_3 : Bool), v21 = .bool x21_3 ∧ Aside0 (impl_FollowsFrom.j0 kq a0 l1 l2 x21_3 = some (r1, r2)) ∧ Aside0 (kq ≤ k) ∧ Aside0 (Below w.heap.size w wc))
 case first =>
  have H := HC4.out
  clear HC4
  replace H := Option.bind_eq_some_iff.mp H
  obtain ⟨t511, A50, H⟩ := H
  (try dsimp only at H)
  have A5 := Aside0.mk A50
  clear A50
  by_cases c6 : t511 = true
  ·subst c6
   have H1 : ((impl_isClause.f l2 a0).bind fun t512 => (impl_FollowsFrom.j0 k a0 l1 l2 (!t512))) = some (r1, r2) := by rw [if_pos rfl] at H; exact H
   clear H
   have H := H1
   clear H1
   replace H := Option.bind_eq_some_iff.mp H
   obtain ⟨t512, A70, H⟩ := H
   (try dsimp only at H)
   have A7 := Aside0.mk A70
   clear A70
   have H' := Aside0.mk H
   clear H
   go_wp2_with (first | ((with_reducible refine gate_callee (f := 93) rfl ?_); refine goesL_ (some 14) rfl rfl Try.func93 (by kernel_rfl) rfl #[.int .i64 a0, .slice A1 l1.length c1] rfl (by simp only [zA_, zB_, zD_] <;> rfl) ?_; (with_reducible refine (impl_GoodClauses.calls a0 _ _ l1 true _ ?side1 ?side2 A5.out).mono ?_); (case side1 => exact zC_ (Kd.C_below HR1.out HB.out)); (case side2 => exact HC1.out); rintro e w8 ⟨rfl, hb⟩; refine ⟨_, rfl, ?_⟩; have n0_ := Aside0.mk (below_step (zb_ HB.out) hb); clear HB; have HB := n0_; clear n0_; (try clear hb); (try clear hb2); (try clear hk); (try clear hi)) | (go_at_call 102; (with_reducible refine (impl_isClause.calls _ _ l2 a0 t512 _ ?side1 ?side2 A7.out).mono ?_); (case side1 => exact zC_ (Kd.C_below HR2.out HB.out)); (case side2 => exact HC2.out); rintro e w9 ⟨rfl, hb⟩; have n0_ := Aside0.mk (below_step (zb_ HB.out) hb); clear HB; have HB := n0_; clear n0_; (try clear hb); (try clear hb2); (try clear hk); (try clear hi)))
   go_meet
   case rel => exact ⟨_, (!t512), (by first | rfl | (simp; done) | (simp [*]; done)), H', ⟨by first | omega | exact Nat.le_refl _⟩, ⟨zb_ HB.out⟩⟩
  ·replace c6 := Bool.eq_false_iff.mpr c6
   subst c6
   have H1 : (impl_FollowsFrom.j0 k a0 l1 l2 true) = some (r1, r2) := by rw [if_neg (show ¬ (false = true) by decide)] at H; exact H
   clear H
   have H := H1
   clear H1
   have H' := Aside0.mk H
   clear H
   go_wp2_with (first | ((with_reducible refine gate_callee (f := 93) rfl ?_); refine goesL_ (some 14) rfl rfl Try.func93 (by kernel_rfl) rfl #[.int .i64 a0, .slice A1 l1.length c1] rfl (by simp only [zA_, zB_, zD_] <;> rfl) ?_; (with_reducible refine (impl_GoodClauses.calls a0 _ _ l1 false _ ?side1 ?side2 A5.out).mono ?_); (case side1 => exact zC_ (Kd.C_below HR1.out HB.out)); (case side2 => exact HC1.out); rintro e w10 ⟨rfl, hb⟩; refine ⟨_, rfl, ?_⟩; have n0_ := Aside0.mk (below_step (zb_ HB.out) hb); clear HB; have HB := n0_; clear n0_; (try clear hb); (try clear hb2); (try clear hk); (try clear hi)))
   go_meet
   case rel => exact ⟨_, (true), (by first | rfl | (simp; done) | (simp [*]; done)), H', ⟨by first | omega | exact Nat.le_refl _⟩, ⟨zb_ HB.out⟩⟩
 case rest =>
  clear HC4
  try clear c1
  try clear c2
  try clear p2
  try clear c6
  try clear c9
  obtain ⟨kq, x21_3, rfl, HA, HJ3, HB⟩ := hcut
  cases kq with
  | zero => exact absurd HA.out (by simp [impl_FollowsFrom.j0])
  | succ kj3 =>
   have H := HA.out
   clear HA
   simp only [impl_FollowsFrom.j0] at H
   by_cases c11 : x21_3 = true
   ·subst c11
    have H1 : (some (false, false)) = some (r1, r2) := by rw [if_pos rfl] at H; exact H
    clear H
    have H := H1
    clear H1
    simp only [Option.some.injEq, Prod.mk.injEq] at H
    obtain ⟨rfl, rfl⟩ := H
    go_wp2
    go_ret2
    exact ⟨by first | rfl | (simp [errW_none, errW_some] <;> rfl) | (simp [*, errW_none, errW_some] <;> rfl), zb_ HB.out⟩
   ·replace c11 := Bool.eq_false_iff.mpr c11
    subst c11
    have H1 : ((impl_learn.f kj3 l2).bind fun t513 => ((impl_SolveWith.f kj3 a0 l1 t513).bind fun bt516 => (if bt516.2.2.2 = true then (some (!bt516.1, bt516.2.2.2)) else (some (false, bt516.2.2.2))))) = some (r1, r2) := by rw [if_neg (show ¬ (false = true) by decide)] at H; exact H
    clear H
    have H := H1
    clear H1
    replace H := Option.bind_eq_some_iff.mp H
    obtain ⟨t513, A120, H⟩ := H
    (try dsimp only at H)
    have A12 := Aside0.mk A120
    clear A120
    replace H := Option.bind_eq_some_iff.mp H
    obtain ⟨⟨t516, t517, t518, t519⟩, A130, H⟩ := H
    (try dsimp only at H)
    have A13 := Aside0.mk A130
    clear A130
    by_cases c14 : t519 = true
    ·subst c14
     have H1 : (some (!t516, true)) = some (r1, r2) := by rw [if_pos rfl] at H; exact H
     clear H
     have H := H1
     clear H1
     simp only [Option.some.injEq, Prod.mk.injEq] at H
     obtain ⟨rfl, rfl⟩ := H
     go_wp2_with (first | ((with_reducible refine gate_callee (f := 108) rfl ?_); refine goesL_ (some 26) rfl rfl Try.func108 (by kernel_rfl) rfl #[.slice A2 l2.length c2] rfl (by simp only [zA_, zB_, zD_] <;> rfl) ?_; (with_reducible refine (impl_learn.calls kj3 _ _ l2 t513 _ ?side1 ?side2 A12.out).mono ?_); (case side1 => exact zC_ (Kd.C_below HR2.out HB.out)); (case side2 => exact HC2.out); rintro e w15 ⟨v514, rfl, ho0, hb⟩; refine ⟨_, rfl, ?_⟩; have n0_ := Aside0.mk (Kd.R_lower ho0 (below_size (zb_ HB.out))); have n1_ := Aside0.mk (below_step (zb_ HB.out) hb); clear HB; have HO515 := n0_; have HB := n1_; clear n0_ n1_; (try clear hb); (try clear hb2); (try clear hk); (try clear hi); (try clear ho0); obtain ⟨Ao16, co16, eo16⟩ := Kd.R_slice HO515.out; subst eo16) | ((with_reducible refine gate_callee (f := 107) rfl ?_); refine goesL_ (some 27) rfl rfl Try.func107 (by kernel_rfl) rfl #[.int .i64 a0, .slice A1 l1.length c1, .slice Ao16 t513.length co16] rfl (by simp only [zA_, zB_, zD_] <;> rfl) ?_; (with_reducible refine (impl_SolveWith.calls kj3 a0 _ _ l1 _ _ t513 t516 t517 t518 true _ ?side1 ?side2 ?side3 ?side4 A13.out).mono ?_); (case side1 => exact zC_ (Kd.C_below HR1.out HB.out)); (case side2 => exact HC1.out); (case side3 => exact zC_ (Kd.R_reads' HO515.out).2.2); (case side4 => exact (Kd.R_reads' HO515.out).2.1); rintro e w17 ⟨v520, v522, rfl, ho0, ho1, hb⟩; refine ⟨_, rfl, ?_⟩; have n0_ := Aside0.mk (Kd.R_below (zR_ HO515.out) hb); have n1_ := Aside0.mk (Kd.R_lower ho0 (below_size (zb_ HB.out))); have n2_ := Aside0.mk (Kd.S_lower (Kd.S_new' ho1 (Kd.R_lt (zR_ HO515.out))) (below_size (zb_ HB.out))); have n3_ := Aside0.mk (below_step (zb_ HB.out) hb); clear HO515; clear HB; have HO515 := n0_; have HO521 := n1_; have HO523 := n2_; have HB := n3_; clear n0_ n1_ n2_ n3_; (try clear hb); (try clear hb2); (try clear hk); (try clear hi); (try clear ho0); (try clear ho1)))
     go_ret2
     exact ⟨by first | rfl | (simp [errW_none, errW_some] <;> rfl) | (simp [*, errW_none, errW_some] <;> rfl), zb_ HB.out⟩
    ·replace c14 := Bool.eq_false_iff.mpr c14
     subst c14
     have H1 : (some (false, false)) = some (r1, r2) := by rw [if_neg (show ¬ (false = true) by decide)] at H; exact H
     clear H
     have H := H1
     clear H1
     simp only [Option.some.injEq, Prod.mk.injEq] at H
     obtain ⟨rfl, rfl⟩ := H
     go_wp2_with (first | ((with_reducible refine gate_callee (f := 108) rfl ?_); refine goesL_ (some 26) rfl rfl Try.func108 (by kernel_rfl) rfl #[.slice A2 l2.length c2] rfl (by simp only [zA_, zB_, zD_] <;> rfl) ?_; (with_reducible refine (impl_learn.calls kj3 _ _ l2 t513 _ ?side1 ?side2 A12.out).mono ?_); (case side1 => exact zC_ (Kd.C_below HR2.out HB.out)); (case side2 => exact HC2.out); rintro e w18 ⟨v514, rfl, ho0, hb⟩; refine ⟨_, rfl, ?_⟩; have n0_ := Aside0.mk (Kd.R_lower ho0 (below_size (zb_ HB.out))); have n1_ := Aside0.mk (below_step (zb_ HB.out) hb); clear HB; have HO515 := n0_; have HB := n1_; clear n0_ n1_; (try clear hb); (try clear hb2); (try clear hk); (try clear hi); (try clear ho0); obtain ⟨Ao19, co19, eo19⟩ := Kd.R_slice HO515.out; subst eo19) | ((with_reducible refine gate_callee (f := 107) rfl ?_); refine goesL_ (some 27) rfl rfl Try.func107 (by kernel_rfl) rfl #[.int .i64 a0, .slice A1 l1.length c1, .slice Ao19 t513.length co19] rfl (by simp only [zA_, zB_, zD_] <;> rfl) ?_; (with_reducible refine (impl_SolveWith.calls kj3 a0 _ _ l1 _ _ t513 t516 t517 t518 false _ ?side1 ?side2 ?side3 ?side4 A13.out).mono ?_); (case side1 => exact zC_ (Kd.C_below HR1.out HB.out)); (case side2 => exact HC1.out); (case side3 => exact zC_ (Kd.R_reads' HO515.out).2.2); (case side4 => exact (Kd.R_reads' HO515.out).2.1); rintro e w20 ⟨v520, v522, rfl, ho0, ho1, hb⟩; refine ⟨_, rfl, ?_⟩; have n0_ := Aside0.mk (Kd.R_below (zR_ HO515.out) hb); have n1_ := Aside0.mk (Kd.R_lower ho0 (below_size (zb_ HB.out))); have n2_ := Aside0.mk (Kd.S_lower (Kd.S_new' ho1 (Kd.R_lt (zR_ HO515.out))) (below_size (zb_ HB.out))); have n3_ := Aside0.mk (below_step (zb_ HB.out) hb); clear HO515; clear HB; have HO515 := n0_; have HO521 := n1_; have HO523 := n2_; have HB := n3_; clear n0_ n1_ n2_ n3_; (try clear hb); (try clear hb2); (try clear hk); (try clear hi); (try clear ho0); (try clear ho1)))
     go_ret2
     exact ⟨by first | rfl | (simp [errW_none, errW_some] <;> rfl) | (simp [*, errW_none, errW_some] <;> rfl), zb_ HB.out⟩
end Go.Proofs.Ytpkbjgmeejlchaa.PFnTrimmed
-- squeezed
