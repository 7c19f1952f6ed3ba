-- Made by a program of this session (wip/tools), which leans on the kit's print: checked by Lean alone.
import Derived.Test.YtpkbjgmeejlchabPFnSolvedx0
import Derived.Test.YtpkbjgmeejlchabPFnSolvedx1
import Derived.Test.YtpkbjgmeejlchabPFnSolvedx2
namespace Go.Proofs.Ytpkbjgmeejlchab.PFnSolved
open Go.RowKit Go.Proofs.YtpkbjgmeejlchabW.PrintWords Go.Proofs.YtpkbjgmeejlchabW.PrintLast Go.Proofs.YtpkbjgmeejlchabW.PrintMore
attribute [local go_sem] max2_int min2_int max_two min_two max_three min_three max_four min_four   -- for this text's walks alone
set_option linter.unusedVariables false
set_option linter.unusedSimpArgs false

/-! ### impl_solve: function 73 -/
def impl_solve.l1 : Nat → List Int → List Bool → Int → Option (List Bool)
 | 0, _, _, _ => none
 | k + 1, y, m, x => if x < (y.length : Int) then (if 0 ≤ x then (if 1 ≤ vab (rd y x) ∧ vab (rd y x) ≤ (m.length : Int) then impl_solve.l1 k y (m.set (vab (rd y x) - 1).toNat (decide (0 < rd y x))) (wrap64 (x + 1)) else none) else none) else some m
def impl_solve.l0 : Nat → Int → List (List Int) → List (List Int) → List Int → Option (Bool × List Bool × List (List Int) × Bool)
 | 0, _, _, _, _ => none
 | k + 1, v, l, L, D => if l.length + L.length < 4398046511104 then ((impl_propagate.f k (l ++ L) D).bind fun p => if p.2 = true then ((impl_learn.f k D).bind fun c => if (L ++ [c]).length > 300 then some (false, [], [], false) else if D.length = 0 then some (false, [], L ++ [c], true) else impl_solve.l0 k v l (L ++ [c]) (D.take (D.length - 1))) else ((impl_decide.f k v p.1).bind fun u => if u.2 = true then (if D.length < 4398046511104 then impl_solve.l0 k v l L (D ++ [u.1]) else none) else (if 0 ≤ v ∧ v ≤ 4398046511104 then ((impl_solve.l1 k p.1 (List.replicate v.toNat false) 0).bind fun m => some (true, m, L, true)) else none))) else none
def impl_solve.f (k : Nat) (a0 : Int) (l1 : List (List Int)) : Option (Bool × List Bool × List (List Int) × Bool) := impl_solve.l0 k a0 l1 [] []
theorem impl_solve.mono_l1 : ∀ k, (∀ y0 y1 y2, LeO (impl_solve.l1 k y0 y1 y2) (impl_solve.l1 (k + 1) y0 y1 y2))
 | 0 => fun _ _ _ r h => by simp [impl_solve.l1] at h
 | k + 1 => by
  have ih0 := impl_solve.mono_l1 k
  ·intro y0 y1 y2
   unfold impl_solve.l1
   repeat' first
   | (with_reducible exact ih0 _ _ _)
   | (with_reducible exact LeO.refl _)
   | (with_reducible exact LeO.none _)
   | (with_reducible refine LeO.ite ?_ ?_)
   | (with_reducible refine LeO.bind ?_ (fun _ => ?_))
theorem impl_solve.mono_l : ∀ k, (∀ y0 y1 y2 y3, LeO (impl_solve.l0 k y0 y1 y2 y3) (impl_solve.l0 (k + 1) y0 y1 y2 y3))
 | 0 => fun _ _ _ _ r h => by simp [impl_solve.l0] at h
 | k + 1 => by
  have ih0 := impl_solve.mono_l k
  ·intro y0 y1 y2 y3
   unfold impl_solve.l0
   repeat' first
   | (with_reducible exact ih0 _ _ _ _)
   | (with_reducible exact impl_solve.mono_l1 _ _ _ _)
   | (with_reducible exact impl_propagate.mono _ _ _)
   | (with_reducible exact impl_learn.mono _ _)
   | (with_reducible exact impl_decide.mono _ _ _)
   | (with_reducible exact LeO.refl _)
   | (with_reducible exact LeO.none _)
   | (with_reducible refine LeO.ite ?_ ?_)
   | (with_reducible refine LeO.bind ?_ (fun _ => ?_))
theorem impl_solve.mono : ∀ a0 a1 k, LeO (impl_solve.f k a0 a1) (impl_solve.f (k + 1) a0 a1) := by
 intro a0 a1 k
 exact impl_solve.mono_l k _ _ _ _
set_option maxHeartbeats 2000000 in
set_option maxRecDepth 100000 in
theorem impl_solve.calls (k : Nat) (a0 : Int) (A1 : Option Addr) (c1 : Nat) (l1 : List (List Int)) (r1 : Bool) (r2 : List Bool) (r3 : List (List Int)) (r4 : Bool) (w : World) (hr1 : Kd.C (Kd.slice 3 (Kd.int .i64)) w A1 l1.length l1) (hc1 : l1.length ≤ c1) (h : impl_solve.f k a0 l1 = some (r1, r2, r3, r4)) :
  Calls Try.prog 73 #[.int .i64 a0, .slice A1 l1.length c1] w fun e w' => ∃ v1_ v2_ : Value, e = .returned (.tuple #[.bool r1, v1_, v2_, .bool r4]) ∧ Kd.R Kd.bool 4 w' w.heap.size (fun _ => True) v1_ r2 ∧ Kd.S (Kd.slice 3 (Kd.int .i64)) 24 w' w.heap.size (fun _ => True) v2_ r3 ∧ Below w.heap.size w w' := by
 have HR1 := Aside0.mk hr1
 have HC1 := Aside0.mk hc1
 clear hr1 hc1
 have HB := Aside0.mk (Below.refl w.heap.size w)
 have H' := Aside0.mk (show impl_solve.l0 k a0 l1 [] [] = some (r1, r2, r3, r4) from h)
 clear h
 go_enter Try.func73, Try.ntmps73
 go_wp2
 go_loopg [8, 9] k (fun kq v8 v9 w' => ∃ (D : List Int) (L : List (List Int)), Aside0 (impl_solve.l0 kq a0 l1 L D = some (r1, r2, r3, r4)) ∧ Aside0 (kq ≤ k) ∧ Aside0 (Kd.R (Kd.int .i64) 3 w' w.heap.size (fun _ => True) v8 D) ∧ Aside0 (Kd.S (Kd.slice 3 (Kd.int .i64)) 24 w' w.heap.size (fun k_ => True ∧ some k_ ≠ v8.ownBlock) v9 L) ∧ Aside0 (Below w.heap.size w w'))
 case atStart => exact ⟨[], [], H', ⟨Nat.le_refl _⟩, ⟨Kd.R_nil _ _ _ _ _⟩, ⟨Kd.S_nil _ _ _ _ _⟩, ⟨zb_ HB.out⟩⟩
 case round =>
  clear H' HB
  obtain ⟨D, L, HA, HK, HOD, HOL, HB⟩ := hrel
  obtain ⟨Ad, cd, ed⟩ := Kd.R_slice HOD.out
  subst ed
  obtain ⟨Al, cl, el⟩ := Kd.S_slice HOL.out
  subst el
  cases gk with
  | zero => exact absurd HA.out (by simp [impl_solve.l0])
  | succ k1 =>
   have h := HA.out
   clear HA
   simp only [impl_solve.l0] at h
   by_cases c0 : l1.length + L.length < 4398046511104
   ·rw [if_pos c0] at h
    obtain ⟨y, hy⟩ : ∃ y, y = l1 ++ L := ⟨_, rfl⟩
    have HY := Aside0.mk (show slices_Concat_rows [l1, L] = some y by unfold slices_Concat_rows; rw [if_pos (by simpa using c0), hy]; simp)
    rw [← hy] at h
    have LML := Aside0.mk (show L.length < 4398046511104 by omega)
    clear c0 hy
    replace h := Option.bind_eq_some_iff.mp h
    obtain ⟨⟨p1, p2⟩, A1', h⟩ := h
    have G1 := Aside0.mk A1'
    clear A1'
    cases p2 with
    | true =>
     replace h : ((impl_learn.f k1 D).bind fun c => if (L ++ [c]).length > 300 then some (false, [], [], false) else if D.length = 0 then some (false, [], L ++ [c], true) else impl_solve.l0 k1 a0 l1 (L ++ [c]) (D.take (D.length - 1))) = some (r1, r2, r3, r4) := h
     replace h := Option.bind_eq_some_iff.mp h
     obtain ⟨c, A2', h⟩ := h
     have G2 := Aside0.mk A2'
     obtain ⟨y8, hy8⟩ : ∃ y_, y_ = L ++ [c] := ⟨_, rfl⟩
     rw [← hy8] at h
     have NY8 := Aside0.mk hy8
     clear A2' hy8
     by_cases c3 : y8.length > 300
     ·rw [if_pos c3] at h
      obtain ⟨rfl, rfl, rfl, rfl⟩ : false = r1 ∧ [] = r2 ∧ [] = r3 ∧ false = r4 := by simpa using h
      have d1 : decide (300 < y8.length) = true := decide_eq_true c3
      have d2 : decide (300 < (y8.length : Int)) = true := decide_eq_true (by omega)
      clear h c3
      go_wp2_with (first | (go_at_call 71; (with_reducible refine (slices_Concat_two_calls _ _ l1 L y _ ?side1 ?side2 HY.out).mono ?_); (case side1 => exact C_two_ _ _ _ _ _ _ _ _ (Kd.C_below HR1.out HB.out) HC1.out (Kd.S_reads' HOL.out).2.2 (Kd.S_reads' HOL.out).2.1); (case side2 => exact Nat.le_refl _); rintro e w5 ⟨v5, rfl, ho, hb⟩; obtain ⟨A5, c5, e5, hl5, hr5⟩ := R_came_ ho hb; subst e5; have HR5 := Aside0.mk hr5; have HC5 := Aside0.mk hl5; clear hr5 hl5 ho; have mHOD_ := Aside0.mk (Kd.R_below (zR_ HOD.out : Kd.R (Kd.int .i64) 3 _ w.heap.size (fun _ => True) (.slice Ad D.length cd) D) hb); have mHOL_ := Aside0.mk (Kd.S_below (zS_ HOL.out : Kd.S (Kd.slice 3 (Kd.int .i64)) 24 _ w.heap.size (fun k_ => True ∧ some k_ ≠ (.slice Ad D.length cd : Value).ownBlock) (.slice Al L.length cl) L) hb); have mHB_ := Aside0.mk (below_step (zb_ HB.out) hb); clear HOD HOL HB; have HOD := mHOD_; have HOL := mHOL_; have HB := mHB_; clear mHOD_ mHOL_ mHB_; clear hb) | (go_at_call 77; (with_reducible refine (impl_propagate.calls k1 _ _ y _ _ D p1 _ _ ?side1 ?side2 ?side3 ?side4 G1.out).mono ?_); (case side1 => exact zC_ HR5.out); (case side2 => exact HC5.out); (case side3 => exact zC_ (Kd.R_reads' HOD.out).2.2); (case side4 => exact (Kd.R_reads' HOD.out).2.1); rintro e w6 ⟨v6, rfl, ho, hb⟩; have HOP := Aside0.mk (Kd.R_lower ho (below_size (zb_ HB.out))); obtain ⟨Ap, cp, ep⟩ := Kd.R_slice HOP.out; subst ep; have mHOD_ := Aside0.mk (Kd.R_below (zR_ HOD.out : Kd.R (Kd.int .i64) 3 _ w.heap.size (fun _ => True) (.slice Ad D.length cd) D) hb); have mHOL_ := Aside0.mk (Kd.S_below (zS_ HOL.out : Kd.S (Kd.slice 3 (Kd.int .i64)) 24 _ w.heap.size (fun k_ => True ∧ some k_ ≠ (.slice Ad D.length cd : Value).ownBlock) (.slice Al L.length cl) L) hb); have mHB_ := Aside0.mk (below_step (zb_ HB.out) hb); clear HOD HOL HB; have HOD := mHOD_; have HOL := mHOL_; have HB := mHB_; clear mHOD_ mHOL_ mHB_; clear ho hb) | (go_at_call 59; (with_reducible refine (impl_learn.calls k1 _ _ D c _ ?side1 ?side2 G2.out).mono ?_); (case side1 => exact zC_ (Kd.R_reads' HOD.out).2.2); (case side2 => exact (Kd.R_reads' HOD.out).2.1); rintro e w7 ⟨v7, rfl, ho, hb⟩; have HX7 := Aside0.mk (show ∀ k_, some k_ = v7.ownBlock → some k_ ≠ (.slice Ad D.length cd : Value).ownBlock ∧ some k_ ≠ (.slice Al L.length cl : Value).ownBlock from fun k_ h_ => ⟨fun e_ => Nat.lt_irrefl _ (Nat.lt_of_lt_of_le (Kd.R_lt (zR_ HOD.out : Kd.R (Kd.int .i64) 3 _ w.heap.size (fun _ => True) (.slice Ad D.length cd) D) k_ e_.symm) (Kd.R_base ho k_ h_.symm)), fun e_ => Nat.lt_irrefl _ (Nat.lt_of_lt_of_le (Kd.S_lt (zS_ HOL.out : Kd.S (Kd.slice 3 (Kd.int .i64)) 24 _ w.heap.size (fun k_ => True ∧ some k_ ≠ (.slice Ad D.length cd : Value).ownBlock) (.slice Al L.length cl) L) k_ e_.symm) (Kd.R_base ho k_ h_.symm))⟩); have HOL7 := Aside0.mk (Kd.S_elder' (zS_ HOL.out : Kd.S (Kd.slice 3 (Kd.int .i64)) 24 _ w.heap.size (fun k_ => True ∧ some k_ ≠ (.slice Ad D.length cd : Value).ownBlock) (.slice Al L.length cl) L) (Kd.R_base ho) hb); have HO7 := Aside0.mk (Kd.R_lower ho (below_size (zb_ HB.out))); obtain ⟨A7, c7, e7⟩ := Kd.R_slice HO7.out; subst e7; have mHOD_ := Aside0.mk (Kd.R_below (zR_ HOD.out : Kd.R (Kd.int .i64) 3 _ w.heap.size (fun _ => True) (.slice Ad D.length cd) D) hb); have mHB_ := Aside0.mk (below_step (zb_ HB.out) hb); clear HOD HB; have HOD := mHOD_; have HB := mHB_; clear mHOD_ mHB_; clear ho hb HOL) | ((with_reducible refine gate_builtin (b := .append) (xs := #[.tmp 27, .tmp 30]) rfl ?_); at_builtin; refine Kd.S_append (Kd.slice 3 (Kd.int .i64)) (w0 := w) w.heap.size rfl (.tmp 27) (.tmp 30) 23 24 (.slice none 0 0) 24 rfl Try.underlying23 info24 rfl (by decide) (by omega) (.slice Al L.length cl) L c [.slice A7 c.length c7] (fun k_ => True ∧ some k_ ≠ (.slice Ad D.length cd : Value).ownBlock) (fun k_ => some k_ = (.slice A7 c.length c7 : Value).ownBlock) rfl rfl ?aP ?aK ?aF ?aO ?aB ?aS ?aL ?_; (case aP => exact Kd.M_row (Kd.R_tight rfl (zR_ HO7.out : Kd.R (Kd.int .i64) 3 _ w.heap.size (fun _ => True) (.slice A7 c.length c7) c))); (case aK => exact fun k_ hk_ => ⟨⟨trivial, (HX7.out k_ hk_).1⟩, (HX7.out k_ hk_).2⟩); (case aF => exact fun k_ hk_ => ⟨trivial, fun e_ => Nat.lt_irrefl _ (Nat.lt_of_lt_of_le (Kd.R_lt (zR_ HOD.out : Kd.R (Kd.int .i64) 3 _ w.heap.size (fun _ => True) (.slice Ad D.length cd) D) k_ e_.symm) hk_)⟩); (case aO => exact (zS_ HOL7.out)); (case aB => exact (zb_ HB.out)); (case aS => exact (below_size (zb_ HB.out))); (case aL => have := LML.out; omega); intro v8 w8 ho hb hg hat; rw [← NY8.out] at ho; have n1_ := Aside0.mk (Kd.R_over' (zR_ HOD.out : Kd.R (Kd.int .i64) 3 _ w.heap.size (fun _ => True) (.slice Ad D.length cd) D) (Kd.S_typed (zS_ HOL7.out : Kd.S (Kd.slice 3 (Kd.int .i64)) 24 _ w.heap.size (fun k_ => (True ∧ some k_ ≠ (.slice Ad D.length cd : Value).ownBlock) ∧ some k_ ≠ (.slice A7 c.length c7 : Value).ownBlock) (.slice Al L.length cl) L)) (by decide) hg); have n2_ := Aside0.mk ho; have n3_ := Aside0.mk hb; clear HB HOD HOL7; have HOD := n1_; have HOL8 := n2_; have HB := n3_; obtain ⟨A8, c8, e8⟩ := Kd.S_slice HOL8.out; subst e8; clear n1_ n2_ n3_ ho hb hg hat))
      (try simp only [Exit.inBlock, Exit.then])
      refine bodyPost_ret (results_tmp4_ rfl _ _ _) rfl ?_
      exact ⟨_, _, by first | rfl | simp, Kd.R_nil _ _ _ _ _, Kd.S_nil _ _ _ _ _, zb_ HB.out⟩
     ·rw [if_neg c3] at h
      have d1 : decide (300 < y8.length) = false := decide_eq_false c3
      have d2 : decide (300 < (y8.length : Int)) = false := decide_eq_false (by omega)
      clear c3
      by_cases c4 : D.length = 0
      ·rw [if_pos c4] at h
       obtain ⟨rfl, rfl, rfl, rfl⟩ : false = r1 ∧ [] = r2 ∧ y8 = r3 ∧ true = r4 := by simpa using h
       have HD0 := Aside0.mk (show D = [] from List.eq_nil_of_length_eq_zero c4)
       have d3 : ((D.length : Int) == 0) = true := by simp [c4]
       have d4 : (D.length == 0) = true := by simp [c4]
       have d5 := eq_true (show D = [] from HD0.out)
       clear h c4
       go_wp2_with (first | (go_at_call 71; (with_reducible refine (slices_Concat_two_calls _ _ l1 L y _ ?side1 ?side2 HY.out).mono ?_); (case side1 => exact C_two_ _ _ _ _ _ _ _ _ (Kd.C_below HR1.out HB.out) HC1.out (Kd.S_reads' HOL.out).2.2 (Kd.S_reads' HOL.out).2.1); (case side2 => exact Nat.le_refl _); rintro e w5 ⟨v5, rfl, ho, hb⟩; obtain ⟨A5, c5, e5, hl5, hr5⟩ := R_came_ ho hb; subst e5; have HR5 := Aside0.mk hr5; have HC5 := Aside0.mk hl5; clear hr5 hl5 ho; have mHOD_ := Aside0.mk (Kd.R_below (zR_ HOD.out : Kd.R (Kd.int .i64) 3 _ w.heap.size (fun _ => True) (.slice Ad D.length cd) D) hb); have mHOL_ := Aside0.mk (Kd.S_below (zS_ HOL.out : Kd.S (Kd.slice 3 (Kd.int .i64)) 24 _ w.heap.size (fun k_ => True ∧ some k_ ≠ (.slice Ad D.length cd : Value).ownBlock) (.slice Al L.length cl) L) hb); have mHB_ := Aside0.mk (below_step (zb_ HB.out) hb); clear HOD HOL HB; have HOD := mHOD_; have HOL := mHOL_; have HB := mHB_; clear mHOD_ mHOL_ mHB_; clear hb) | (go_at_call 77; (with_reducible refine (impl_propagate.calls k1 _ _ y _ _ D p1 _ _ ?side1 ?side2 ?side3 ?side4 G1.out).mono ?_); (case side1 => exact zC_ HR5.out); (case side2 => exact HC5.out); (case side3 => exact zC_ (Kd.R_reads' HOD.out).2.2); (case side4 => exact (Kd.R_reads' HOD.out).2.1); rintro e w6 ⟨v6, rfl, ho, hb⟩; have HOP := Aside0.mk (Kd.R_lower ho (below_size (zb_ HB.out))); obtain ⟨Ap, cp, ep⟩ := Kd.R_slice HOP.out; subst ep; have mHOD_ := Aside0.mk (Kd.R_below (zR_ HOD.out : Kd.R (Kd.int .i64) 3 _ w.heap.size (fun _ => True) (.slice Ad D.length cd) D) hb); have mHOL_ := Aside0.mk (Kd.S_below (zS_ HOL.out : Kd.S (Kd.slice 3 (Kd.int .i64)) 24 _ w.heap.size (fun k_ => True ∧ some k_ ≠ (.slice Ad D.length cd : Value).ownBlock) (.slice Al L.length cl) L) hb); have mHB_ := Aside0.mk (below_step (zb_ HB.out) hb); clear HOD HOL HB; have HOD := mHOD_; have HOL := mHOL_; have HB := mHB_; clear mHOD_ mHOL_ mHB_; clear ho hb) | (go_at_call 59; (with_reducible refine (impl_learn.calls k1 _ _ D c _ ?side1 ?side2 G2.out).mono ?_); (case side1 => exact zC_ (Kd.R_reads' HOD.out).2.2); (case side2 => exact (Kd.R_reads' HOD.out).2.1); rintro e w7 ⟨v7, rfl, ho, hb⟩; have HX7 := Aside0.mk (show ∀ k_, some k_ = v7.ownBlock → some k_ ≠ (.slice Ad D.length cd : Value).ownBlock ∧ some k_ ≠ (.slice Al L.length cl : Value).ownBlock from fun k_ h_ => ⟨fun e_ => Nat.lt_irrefl _ (Nat.lt_of_lt_of_le (Kd.R_lt (zR_ HOD.out : Kd.R (Kd.int .i64) 3 _ w.heap.size (fun _ => True) (.slice Ad D.length cd) D) k_ e_.symm) (Kd.R_base ho k_ h_.symm)), fun e_ => Nat.lt_irrefl _ (Nat.lt_of_lt_of_le (Kd.S_lt (zS_ HOL.out : Kd.S (Kd.slice 3 (Kd.int .i64)) 24 _ w.heap.size (fun k_ => True ∧ some k_ ≠ (.slice Ad D.length cd : Value).ownBlock) (.slice Al L.length cl) L) k_ e_.symm) (Kd.R_base ho k_ h_.symm))⟩); have HOL7 := Aside0.mk (Kd.S_elder' (zS_ HOL.out : Kd.S (Kd.slice 3 (Kd.int .i64)) 24 _ w.heap.size (fun k_ => True ∧ some k_ ≠ (.slice Ad D.length cd : Value).ownBlock) (.slice Al L.length cl) L) (Kd.R_base ho) hb); have HO7 := Aside0.mk (Kd.R_lower ho (below_size (zb_ HB.out))); obtain ⟨A7, c7, e7⟩ := Kd.R_slice HO7.out; subst e7; have mHOD_ := Aside0.mk (Kd.R_below (zR_ HOD.out : Kd.R (Kd.int .i64) 3 _ w.heap.size (fun _ => True) (.slice Ad D.length cd) D) hb); have mHB_ := Aside0.mk (below_step (zb_ HB.out) hb); clear HOD HB; have HOD := mHOD_; have HB := mHB_; clear mHOD_ mHB_; clear ho hb HOL) | ((with_reducible refine gate_builtin (b := .append) (xs := #[.tmp 27, .tmp 30]) rfl ?_); at_builtin; refine Kd.S_append (Kd.slice 3 (Kd.int .i64)) (w0 := w) w.heap.size rfl (.tmp 27) (.tmp 30) 23 24 (.slice none 0 0) 24 rfl Try.underlying23 info24 rfl (by decide) (by omega) (.slice Al L.length cl) L c [.slice A7 c.length c7] (fun k_ => True ∧ some k_ ≠ (.slice Ad D.length cd : Value).ownBlock) (fun k_ => some k_ = (.slice A7 c.length c7 : Value).ownBlock) rfl rfl ?aP ?aK ?aF ?aO ?aB ?aS ?aL ?_; (case aP => exact Kd.M_row (Kd.R_tight rfl (zR_ HO7.out : Kd.R (Kd.int .i64) 3 _ w.heap.size (fun _ => True) (.slice A7 c.length c7) c))); (case aK => exact fun k_ hk_ => ⟨⟨trivial, (HX7.out k_ hk_).1⟩, (HX7.out k_ hk_).2⟩); (case aF => exact fun k_ hk_ => ⟨trivial, fun e_ => Nat.lt_irrefl _ (Nat.lt_of_lt_of_le (Kd.R_lt (zR_ HOD.out : Kd.R (Kd.int .i64) 3 _ w.heap.size (fun _ => True) (.slice Ad D.length cd) D) k_ e_.symm) hk_)⟩); (case aO => exact (zS_ HOL7.out)); (case aB => exact (zb_ HB.out)); (case aS => exact (below_size (zb_ HB.out))); (case aL => have := LML.out; omega); intro v8 w8 ho hb hg hat; rw [← NY8.out] at ho; have n1_ := Aside0.mk (Kd.R_over' (zR_ HOD.out : Kd.R (Kd.int .i64) 3 _ w.heap.size (fun _ => True) (.slice Ad D.length cd) D) (Kd.S_typed (zS_ HOL7.out : Kd.S (Kd.slice 3 (Kd.int .i64)) 24 _ w.heap.size (fun k_ => (True ∧ some k_ ≠ (.slice Ad D.length cd : Value).ownBlock) ∧ some k_ ≠ (.slice A7 c.length c7 : Value).ownBlock) (.slice Al L.length cl) L)) (by decide) hg); have n2_ := Aside0.mk ho; have n3_ := Aside0.mk hb; clear HB HOD HOL7; have HOD := n1_; have HOL8 := n2_; have HB := n3_; obtain ⟨A8, c8, e8⟩ := Kd.S_slice HOL8.out; subst e8; clear n1_ n2_ n3_ ho hb hg hat))
       (try simp only [Exit.inBlock, Exit.then])
       refine bodyPost_ret (results_tmp4_ rfl _ _ _) rfl ?_
       exact ⟨_, _, by first | rfl | simp, Kd.R_nil _ _ _ _ _, by (with_reducible repeat (first | apply Kd.S_alloc | apply Kd.S_drewN | apply Kd.S_drew)); exact Kd.S_mono HOL8.out (fun _ _ => trivial), zb_ HB.out⟩
      ·rw [if_neg c4] at h
       have H' := Aside0.mk h
       have HDL := Aside0.mk (show D.length - 1 ≤ D.length by omega)
       have d3 : ((D.length : Int) == 0) = false := beq_eq_false_iff_ne.2 (by omega)
       have d4 : (D.length == 0) = false := beq_eq_false_iff_ne.2 (by omega)
       have d5 := eq_false (show ¬ D.length = 0 from c4)
       have d6 : 1 ≤ (D.length : Int) := by omega
       have d7 : (D.length : Int) ≤ 9223372036854775807 := by have := (Kd.R_reads' HOD.out).2.2.2.1; omega
       have d8 := eq_true (show (0 : Int) ≤ (D.length : Int) - 1 by omega)
       have d9 := eq_true (show (D.length : Int) - 1 ≤ (cd : Int) by have := (Kd.R_reads' HOD.out).2.1; omega)
       have d10 := eq_true (show (D.length : Int) ≤ (cd : Int) + 1 by have := (Kd.R_reads' HOD.out).2.1; omega)
       have d11 := eq_true (show D.length - 1 ≤ cd by have := (Kd.R_reads' HOD.out).2.1; omega)
       have d12 := eq_false (show ¬ D = [] by intro e; apply c4; rw [e]; rfl)
       clear h c4
       go_wp2_with (first | (go_at_call 71; (with_reducible refine (slices_Concat_two_calls _ _ l1 L y _ ?side1 ?side2 HY.out).mono ?_); (case side1 => exact C_two_ _ _ _ _ _ _ _ _ (Kd.C_below HR1.out HB.out) HC1.out (Kd.S_reads' HOL.out).2.2 (Kd.S_reads' HOL.out).2.1); (case side2 => exact Nat.le_refl _); rintro e w5 ⟨v5, rfl, ho, hb⟩; obtain ⟨A5, c5, e5, hl5, hr5⟩ := R_came_ ho hb; subst e5; have HR5 := Aside0.mk hr5; have HC5 := Aside0.mk hl5; clear hr5 hl5 ho; have mHOD_ := Aside0.mk (Kd.R_below (zR_ HOD.out : Kd.R (Kd.int .i64) 3 _ w.heap.size (fun _ => True) (.slice Ad D.length cd) D) hb); have mHOL_ := Aside0.mk (Kd.S_below (zS_ HOL.out : Kd.S (Kd.slice 3 (Kd.int .i64)) 24 _ w.heap.size (fun k_ => True ∧ some k_ ≠ (.slice Ad D.length cd : Value).ownBlock) (.slice Al L.length cl) L) hb); have mHB_ := Aside0.mk (below_step (zb_ HB.out) hb); clear HOD HOL HB; have HOD := mHOD_; have HOL := mHOL_; have HB := mHB_; clear mHOD_ mHOL_ mHB_; clear hb) | (go_at_call 77; (with_reducible refine (impl_propagate.calls k1 _ _ y _ _ D p1 _ _ ?side1 ?side2 ?side3 ?side4 G1.out).mono ?_); (case side1 => exact zC_ HR5.out); (case side2 => exact HC5.out); (case side3 => exact zC_ (Kd.R_reads' HOD.out).2.2); (case side4 => exact (Kd.R_reads' HOD.out).2.1); rintro e w6 ⟨v6, rfl, ho, hb⟩; have HOP := Aside0.mk (Kd.R_lower ho (below_size (zb_ HB.out))); obtain ⟨Ap, cp, ep⟩ := Kd.R_slice HOP.out; subst ep; have mHOD_ := Aside0.mk (Kd.R_below (zR_ HOD.out : Kd.R (Kd.int .i64) 3 _ w.heap.size (fun _ => True) (.slice Ad D.length cd) D) hb); have mHOL_ := Aside0.mk (Kd.S_below (zS_ HOL.out : Kd.S (Kd.slice 3 (Kd.int .i64)) 24 _ w.heap.size (fun k_ => True ∧ some k_ ≠ (.slice Ad D.length cd : Value).ownBlock) (.slice Al L.length cl) L) hb); have mHB_ := Aside0.mk (below_step (zb_ HB.out) hb); clear HOD HOL HB; have HOD := mHOD_; have HOL := mHOL_; have HB := mHB_; clear mHOD_ mHOL_ mHB_; clear ho hb) | (go_at_call 59; (with_reducible refine (impl_learn.calls k1 _ _ D c _ ?side1 ?side2 G2.out).mono ?_); (case side1 => exact zC_ (Kd.R_reads' HOD.out).2.2); (case side2 => exact (Kd.R_reads' HOD.out).2.1); rintro e w7 ⟨v7, rfl, ho, hb⟩; have HX7 := Aside0.mk (show ∀ k_, some k_ = v7.ownBlock → some k_ ≠ (.slice Ad D.length cd : Value).ownBlock ∧ some k_ ≠ (.slice Al L.length cl : Value).ownBlock from fun k_ h_ => ⟨fun e_ => Nat.lt_irrefl _ (Nat.lt_of_lt_of_le (Kd.R_lt (zR_ HOD.out : Kd.R (Kd.int .i64) 3 _ w.heap.size (fun _ => True) (.slice Ad D.length cd) D) k_ e_.symm) (Kd.R_base ho k_ h_.symm)), fun e_ => Nat.lt_irrefl _ (Nat.lt_of_lt_of_le (Kd.S_lt (zS_ HOL.out : Kd.S (Kd.slice 3 (Kd.int .i64)) 24 _ w.heap.size (fun k_ => True ∧ some k_ ≠ (.slice Ad D.length cd : Value).ownBlock) (.slice Al L.length cl) L) k_ e_.symm) (Kd.R_base ho k_ h_.symm))⟩); have HOL7 := Aside0.mk (Kd.S_elder' (zS_ HOL.out : Kd.S (Kd.slice 3 (Kd.int .i64)) 24 _ w.heap.size (fun k_ => True ∧ some k_ ≠ (.slice Ad D.length cd : Value).ownBlock) (.slice Al L.length cl) L) (Kd.R_base ho) hb); have HO7 := Aside0.mk (Kd.R_lower ho (below_size (zb_ HB.out))); obtain ⟨A7, c7, e7⟩ := Kd.R_slice HO7.out; subst e7; have mHOD_ := Aside0.mk (Kd.R_below (zR_ HOD.out : Kd.R (Kd.int .i64) 3 _ w.heap.size (fun _ => True) (.slice Ad D.length cd) D) hb); have mHB_ := Aside0.mk (below_step (zb_ HB.out) hb); clear HOD HB; have HOD := mHOD_; have HB := mHB_; clear mHOD_ mHB_; clear ho hb HOL) | ((with_reducible refine gate_builtin (b := .append) (xs := #[.tmp 27, .tmp 30]) rfl ?_); at_builtin; refine Kd.S_append (Kd.slice 3 (Kd.int .i64)) (w0 := w) w.heap.size rfl (.tmp 27) (.tmp 30) 23 24 (.slice none 0 0) 24 rfl Try.underlying23 info24 rfl (by decide) (by omega) (.slice Al L.length cl) L c [.slice A7 c.length c7] (fun k_ => True ∧ some k_ ≠ (.slice Ad D.length cd : Value).ownBlock) (fun k_ => some k_ = (.slice A7 c.length c7 : Value).ownBlock) rfl rfl ?aP ?aK ?aF ?aO ?aB ?aS ?aL ?_; (case aP => exact Kd.M_row (Kd.R_tight rfl (zR_ HO7.out : Kd.R (Kd.int .i64) 3 _ w.heap.size (fun _ => True) (.slice A7 c.length c7) c))); (case aK => exact fun k_ hk_ => ⟨⟨trivial, (HX7.out k_ hk_).1⟩, (HX7.out k_ hk_).2⟩); (case aF => exact fun k_ hk_ => ⟨trivial, fun e_ => Nat.lt_irrefl _ (Nat.lt_of_lt_of_le (Kd.R_lt (zR_ HOD.out : Kd.R (Kd.int .i64) 3 _ w.heap.size (fun _ => True) (.slice Ad D.length cd) D) k_ e_.symm) hk_)⟩); (case aO => exact (zS_ HOL7.out)); (case aB => exact (zb_ HB.out)); (case aS => exact (below_size (zb_ HB.out))); (case aL => have := LML.out; omega); intro v8 w8 ho hb hg hat; rw [← NY8.out] at ho; have n1_ := Aside0.mk (Kd.R_over' (zR_ HOD.out : Kd.R (Kd.int .i64) 3 _ w.heap.size (fun _ => True) (.slice Ad D.length cd) D) (Kd.S_typed (zS_ HOL7.out : Kd.S (Kd.slice 3 (Kd.int .i64)) 24 _ w.heap.size (fun k_ => (True ∧ some k_ ≠ (.slice Ad D.length cd : Value).ownBlock) ∧ some k_ ≠ (.slice A7 c.length c7 : Value).ownBlock) (.slice Al L.length cl) L)) (by decide) hg); have n2_ := Aside0.mk ho; have n3_ := Aside0.mk hb; clear HB HOD HOL7; have HOD := n1_; have HOL8 := n2_; have HB := n3_; obtain ⟨A8, c8, e8⟩ := Kd.S_slice HOL8.out; subst e8; clear n1_ n2_ n3_ ho hb hg hat))
       go_roundg k1
       case measure => have := HK.out; omega
       case rel => exact ⟨D.take (D.length - 1), y8, H', ⟨by have := HK.out; omega⟩, ⟨by (with_reducible repeat (first | apply Kd.R_alloc | apply Kd.R_drewN | apply Kd.R_drew)); exact Kd.R_take HOD.out HDL.out⟩, ⟨by (with_reducible repeat (first | apply Kd.S_alloc | apply Kd.S_drewN | apply Kd.S_drew)); exact Kd.S_mono HOL8.out (fun k_ hk_ => ⟨trivial, fun e_ => hk_.2 (e_.trans own_cut_)⟩)⟩, ⟨zb_ HB.out⟩⟩
    | false =>
     replace h : ((impl_decide.f k1 a0 p1).bind fun u => if u.2 = true then (if D.length < 4398046511104 then impl_solve.l0 k1 a0 l1 L (D ++ [u.1]) else none) else (if 0 ≤ a0 ∧ a0 ≤ 4398046511104 then ((impl_solve.l1 k1 p1 (List.replicate a0.toNat false) 0).bind fun m => some (true, m, L, true)) else none)) = some (r1, r2, r3, r4) := h
     replace h := Option.bind_eq_some_iff.mp h
     obtain ⟨⟨u1, u2⟩, A3', h⟩ := h
     have G3 := Aside0.mk A3'
     clear A3'
     cases u2 with
     | true =>
      rw [if_pos rfl] at h
      by_cases c5 : D.length < 4398046511104
      ·rw [if_pos c5] at h
       have LMD := Aside0.mk c5
       obtain ⟨y9, hy9⟩ : ∃ y_, y_ = D ++ [u1] := ⟨_, rfl⟩
       replace h : impl_solve.l0 k1 a0 l1 L y9 = some (r1, r2, r3, r4) := by rw [hy9]; exact h
       have NY9 := Aside0.mk hy9
       have H' := Aside0.mk h
       clear h hy9 c5
       go_wp2_with (first | (go_at_call 71; (with_reducible refine (slices_Concat_two_calls _ _ l1 L y _ ?side1 ?side2 HY.out).mono ?_); (case side1 => exact C_two_ _ _ _ _ _ _ _ _ (Kd.C_below HR1.out HB.out) HC1.out (Kd.S_reads' HOL.out).2.2 (Kd.S_reads' HOL.out).2.1); (case side2 => exact Nat.le_refl _); rintro e w5 ⟨v5, rfl, ho, hb⟩; obtain ⟨A5, c5, e5, hl5, hr5⟩ := R_came_ ho hb; subst e5; have HR5 := Aside0.mk hr5; have HC5 := Aside0.mk hl5; clear hr5 hl5 ho; have mHOD_ := Aside0.mk (Kd.R_below (zR_ HOD.out : Kd.R (Kd.int .i64) 3 _ w.heap.size (fun _ => True) (.slice Ad D.length cd) D) hb); have mHOL_ := Aside0.mk (Kd.S_below (zS_ HOL.out : Kd.S (Kd.slice 3 (Kd.int .i64)) 24 _ w.heap.size (fun k_ => True ∧ some k_ ≠ (.slice Ad D.length cd : Value).ownBlock) (.slice Al L.length cl) L) hb); have mHB_ := Aside0.mk (below_step (zb_ HB.out) hb); clear HOD HOL HB; have HOD := mHOD_; have HOL := mHOL_; have HB := mHB_; clear mHOD_ mHOL_ mHB_; clear hb) | (go_at_call 77; (with_reducible refine (impl_propagate.calls k1 _ _ y _ _ D p1 _ _ ?side1 ?side2 ?side3 ?side4 G1.out).mono ?_); (case side1 => exact zC_ HR5.out); (case side2 => exact HC5.out); (case side3 => exact zC_ (Kd.R_reads' HOD.out).2.2); (case side4 => exact (Kd.R_reads' HOD.out).2.1); rintro e w6 ⟨v6, rfl, ho, hb⟩; have HOP := Aside0.mk (Kd.R_lower ho (below_size (zb_ HB.out))); obtain ⟨Ap, cp, ep⟩ := Kd.R_slice HOP.out; subst ep; have mHOD_ := Aside0.mk (Kd.R_below (zR_ HOD.out : Kd.R (Kd.int .i64) 3 _ w.heap.size (fun _ => True) (.slice Ad D.length cd) D) hb); have mHOL_ := Aside0.mk (Kd.S_below (zS_ HOL.out : Kd.S (Kd.slice 3 (Kd.int .i64)) 24 _ w.heap.size (fun k_ => True ∧ some k_ ≠ (.slice Ad D.length cd : Value).ownBlock) (.slice Al L.length cl) L) hb); have mHB_ := Aside0.mk (below_step (zb_ HB.out) hb); clear HOD HOL HB; have HOD := mHOD_; have HOL := mHOL_; have HB := mHB_; clear mHOD_ mHOL_ mHB_; clear ho hb) | (go_at_call 63; (with_reducible refine (impl_decide.calls k1 a0 _ _ p1 u1 true _ ?side1 ?side2 G3.out).mono ?_); (case side1 => exact zC_ (Kd.R_reads' HOP.out).2.2); (case side2 => exact (Kd.R_reads' HOP.out).2.1); rintro e w' ⟨rfl, ⟨nd, rfl⟩⟩) | ((with_reducible refine gate_builtin (b := .append) (xs := #[.tmp 51, .tmp 53]) rfl ?_); at_builtin; refine Kd.R_append (Kd.int .i64) (w0 := w) w.heap.size rfl (.tmp 51) (.tmp 53) 24 3 (.int .i64 0) 8 rfl Try.underlying24 info3 rfl (by decide) (by omega) (.slice Ad D.length cd) D u1 [.int .i64 u1] (fun _ => True) (fun _ => False) rfl rfl ?aP (fun _ hk => hk.elim) ?aF ?aO ?aB ?aS ?aL ?_; (case aP => exact rfl); (case aB => exact (zb_ HB.out)); (case aF => exact (fun _ _ => trivial)); (case aO => exact (zR_ HOD.out)); (case aS => exact (below_size (zb_ HB.out))); (case aL => have := LMD.out; omega); intro v9 w9 ho hb hg hat; rw [← NY9.out] at ho; have n1_ := Aside0.mk (Kd.S_after (zS_ HOL.out : Kd.S (Kd.slice 3 (Kd.int .i64)) 24 _ w.heap.size (fun k_ => True ∧ some k_ ≠ (.slice Ad D.length cd : Value).ownBlock) (.slice Al L.length cl) L) hg hat); have n2_ := Aside0.mk ho; have n3_ := Aside0.mk hb; clear HB HOD HOL; have HOL := n1_; have HOD := n2_; have HB := n3_; clear n1_ n2_ n3_ ho hb hg hat))
       go_roundg k1
       case measure => have := HK.out; omega
       case rel => exact ⟨y9, L, H', ⟨by have := HK.out; omega⟩, ⟨zR_ HOD.out⟩, ⟨zS_ HOL.out⟩, ⟨zb_ HB.out⟩⟩
      ·rw [if_neg c5] at h
       exact absurd h (by simp)
     | false =>
      rw [if_neg Bool.false_ne_true] at h
      by_cases c6 : 0 ≤ a0 ∧ a0 ≤ 4398046511104
      ·rw [if_pos c6] at h
       replace h := Option.bind_eq_some_iff.mp h
       obtain ⟨mm, A4', h⟩ := h
       obtain ⟨rfl, rfl, rfl, rfl⟩ : true = r1 ∧ mm = r2 ∧ L = r3 ∧ true = r4 := by simpa using h
       obtain ⟨m0, hm0⟩ : ∃ m_ : List Bool, m_ = List.replicate a0.toNat false := ⟨_, rfl⟩
       rw [← hm0] at A4'
       have NM := Aside0.mk hm0
       have H' := Aside0.mk A4'
       have c3b0 := eq_true c6.1
       have c3b1 : decide (0 ≤ a0) = true := decide_eq_true c6.1
       have c4b1 : decide (a0.toNat ≤ 281474976710656) = true := decide_eq_true (by omega)
       clear h A4' hm0 c6
       go_wp2_with (first | (go_at_call 71; (with_reducible refine (slices_Concat_two_calls _ _ l1 L y _ ?side1 ?side2 HY.out).mono ?_); (case side1 => exact C_two_ _ _ _ _ _ _ _ _ (Kd.C_below HR1.out HB.out) HC1.out (Kd.S_reads' HOL.out).2.2 (Kd.S_reads' HOL.out).2.1); (case side2 => exact Nat.le_refl _); rintro e w5 ⟨v5, rfl, ho, hb⟩; obtain ⟨A5, c5, e5, hl5, hr5⟩ := R_came_ ho hb; subst e5; have HR5 := Aside0.mk hr5; have HC5 := Aside0.mk hl5; clear hr5 hl5 ho; have mHOD_ := Aside0.mk (Kd.R_below (zR_ HOD.out : Kd.R (Kd.int .i64) 3 _ w.heap.size (fun _ => True) (.slice Ad D.length cd) D) hb); have mHOL_ := Aside0.mk (Kd.S_below (zS_ HOL.out : Kd.S (Kd.slice 3 (Kd.int .i64)) 24 _ w.heap.size (fun k_ => True ∧ some k_ ≠ (.slice Ad D.length cd : Value).ownBlock) (.slice Al L.length cl) L) hb); have mHB_ := Aside0.mk (below_step (zb_ HB.out) hb); clear HOD HOL HB; have HOD := mHOD_; have HOL := mHOL_; have HB := mHB_; clear mHOD_ mHOL_ mHB_; clear hb) | (go_at_call 77; (with_reducible refine (impl_propagate.calls k1 _ _ y _ _ D p1 _ _ ?side1 ?side2 ?side3 ?side4 G1.out).mono ?_); (case side1 => exact zC_ HR5.out); (case side2 => exact HC5.out); (case side3 => exact zC_ (Kd.R_reads' HOD.out).2.2); (case side4 => exact (Kd.R_reads' HOD.out).2.1); rintro e w6 ⟨v6, rfl, ho, hb⟩; have HOP := Aside0.mk (Kd.R_lower ho (below_size (zb_ HB.out))); obtain ⟨Ap, cp, ep⟩ := Kd.R_slice HOP.out; subst ep; have mHOD_ := Aside0.mk (Kd.R_below (zR_ HOD.out : Kd.R (Kd.int .i64) 3 _ w.heap.size (fun _ => True) (.slice Ad D.length cd) D) hb); have mHOL_ := Aside0.mk (Kd.S_below (zS_ HOL.out : Kd.S (Kd.slice 3 (Kd.int .i64)) 24 _ w.heap.size (fun k_ => True ∧ some k_ ≠ (.slice Ad D.length cd : Value).ownBlock) (.slice Al L.length cl) L) hb); have mHB_ := Aside0.mk (below_step (zb_ HB.out) hb); clear HOD HOL HB; have HOD := mHOD_; have HOL := mHOL_; have HB := mHB_; clear mHOD_ mHOL_ mHB_; clear ho hb) | (go_at_call 63; (with_reducible refine (impl_decide.calls k1 a0 _ _ p1 u1 false _ ?side1 ?side2 G3.out).mono ?_); (case side1 => exact zC_ (Kd.R_reads' HOP.out).2.2); (case side2 => exact (Kd.R_reads' HOP.out).2.1); rintro e w' ⟨rfl, ⟨nd, rfl⟩⟩) | ((with_reducible refine gate_dst (N := 56) rfl ?_); refine Kd.R_make Kd.bool _ 4 rfl (N := 56) rfl 40 _ _ rfl a0 rfl rfl Try.underlying40 (.bool false) 1 info4 rfl (by decide) (by omega) false (ok := fun _ => True) (okp := fun _ => True) rfl (fun _ hk => hk) trivial (of_decide_eq_true (by first | (with_reducible assumption) | assumption)) (Nat.le_trans (Nat.mul_le_mul_right _ (of_decide_eq_true (by first | (with_reducible assumption) | assumption) : a0.toNat ≤ 281474976710656)) (by omega)) (Below.refl _ _) (Nat.le_refl _) ?_; intro v10 w10 ho hb hg_ hnew_; clear hg_ hnew_; (first | rw [← NM.out] at ho | (simp only [Int.reduceToNat] at ho; rw [← NM.out] at ho)); have n1_ := Aside0.mk (Kd.R_lower ho (below_size (zb_ HB.out))); have mHOD_ := Aside0.mk (Kd.R_below (zR_ HOD.out : Kd.R (Kd.int .i64) 3 _ w.heap.size (fun _ => True) (.slice Ad D.length cd) D) hb); have mHOL_ := Aside0.mk (Kd.S_below (zS_ HOL.out : Kd.S (Kd.slice 3 (Kd.int .i64)) 24 _ w.heap.size (fun k_ => True ∧ some k_ ≠ (.slice Ad D.length cd : Value).ownBlock) (.slice Al L.length cl) L) hb); have mHOP_ := Aside0.mk (Kd.R_below (zR_ HOP.out : Kd.R (Kd.int .i64) 3 _ w.heap.size (fun _ => True) (.slice Ap p1.length cp) p1) hb); have mHB_ := Aside0.mk (below_step (zb_ HB.out) hb); clear HOD HOL HOP HB; have HOD := mHOD_; have HOL := mHOL_; have HOP := mHOP_; have HB := mHB_; clear mHOD_ mHOL_ mHOP_ mHB_; have HOM := n1_; clear n1_ hb ho; obtain ⟨Am, cm, em⟩ := Kd.R_slice HOM.out; subst em))
       go_loopg [59] k1 (fun kq v59 w' => ∃ (m : List Bool) (x : Int), v59 = .int .i64 x ∧ Aside0 (impl_solve.l1 kq p1 m x = some mm) ∧ Aside0 (kq ≤ k1) ∧ Aside0 (m.length = m0.length) ∧ Aside0 (Kd.R Kd.bool 4 w' w.heap.size (fun _ => True) (.slice Am m0.length cm) m) ∧ Aside0 (Kd.R (Kd.int .i64) 3 w' w.heap.size (fun _ => True) (.slice Ap p1.length cp) p1) ∧ Aside0 (Kd.S (Kd.slice 3 (Kd.int .i64)) 24 w' w.heap.size (fun k_ => True ∧ some k_ ≠ (.slice Ad D.length cd : Value).ownBlock) (.slice Al L.length cl) L) ∧ Aside0 (Below w.heap.size w w'))
       case atStart => exact ⟨m0, 0, rfl, H', ⟨Nat.le_refl _⟩, ⟨rfl⟩, ⟨zR_ HOM.out⟩, ⟨zR_ HOP.out⟩, ⟨zS_ HOL.out⟩, ⟨zb_ HB.out⟩⟩
       case round =>
        clear H' HB HOM HOP HOL HOD HR5 HC5
        obtain ⟨m, x, rfl, HA, HK2, HML, HOM, HOP, HOL, HB⟩ := hrel
        cases gk with
        | zero => exact absurd HA.out (by simp [impl_solve.l1])
        | succ k2 =>
         have h := HA.out
         clear HA
         simp only [impl_solve.l1] at h
         by_cases c7 : x < (p1.length : Int)
         ·rw [if_pos c7] at h
          have c7b : decide (x < (p1.length : Int)) = true := decide_eq_true c7
          by_cases c8 : 0 ≤ x
          ·rw [if_pos c8] at h
           have HPC := (Kd.R_reads' HOP.out).2.2
           obtain ⟨ad1, e1, hx1⟩ := Kd.at_int HPC x c8 c7
           cases e1
           obtain ⟨n, hn⟩ : ∃ n, rd p1 x = n := ⟨_, rfl⟩
           rw [hn] at hx1 h
           by_cases c9 : 1 ≤ vab n ∧ vab n ≤ (m.length : Int)
           ·rw [if_pos c9] at h
            have hpl : (p1.length : Int) ≤ 9223372036854775807 := by have := HPC.2.1; omega
            have HWX := Aside0.mk (show wrap64 (x + 1) = x + 1 by unfold wrap64; omega)
            have HMLe := HML.out
            have HV := Aside0.mk (impl_variable_val n)
            obtain ⟨q, hq⟩ : ∃ q, vab n = q := ⟨_, rfl⟩
            rw [hq] at HV h c9
            have hcm := (Kd.R_reads HOM.out)
            have hmm : (m0.length : Int) ≤ 9223372036854775807 := by obtain ⟨_, _, _, _, hr_⟩ := hcm; have := hr_.2.1; omega
            have HWQ := Aside0.mk (show wrap64 (q - 1) = q - 1 by unfold wrap64; omega)
            obtain ⟨gm, cm2, em, gb, gl, cl2, HG⟩ := Kd.R_form HOM.out (by omega)
            have em2 : Am = some ⟨gm, 0, none⟩ := by injection em
            subst em2
            obtain ⟨hx12, hf12⟩ := Kd.R_celln false HOM.out (q - 1) (by omega) (by omega)
            have HQN := Aside0.mk (show (q - 1).toNat = q.toNat - 1 by omega)
            rw [HQN.out] at hx12 hf12 h
            obtain ⟨y2, hy2⟩ : ∃ y_, y_ = m.set (q.toNat - 1) (decide (0 < n)) := ⟨_, rfl⟩
            rw [← hy2] at h
            have NY2 := Aside0.mk hy2
            have HY2L := Aside0.mk (show y2.length = m0.length by rw [hy2, List.length_set]; exact HMLe)
            have HGB := Aside0.mk gb
            have H' := Aside0.mk h
            have p12 := eq_true (show 0 ≤ q - 1 by omega)
            have q12 := eq_true (show q - 1 < (m0.length : Int) by omega)
            have p12b := eq_true (show 1 ≤ q by omega)
            have q13 := eq_true (show q ≤ (m0.length : Int) by omega)
            have d1 : (0 : Int) ≤ q := by omega
            have d2 : q ≤ 9223372036854775807 := by omega
            have p101 := eq_true c8
            have q101 := eq_true c7
            clear h c7 c8 c9 hn hq hy2 hcm em HMLe gb gl cl2 HG HPC
            go_wp2_with (first | (go_at_call 99; (with_reducible refine (impl_variable.calls n q _ HV.out).mono ?_); rintro e w' ⟨rfl, ⟨nd, rfl⟩⟩; have HOM2 := Aside0.mk (Kd.R_drewN HOM.out nd); have HOP2 := Aside0.mk (Kd.R_drewN HOP.out nd); have HOL2 := Aside0.mk (Kd.S_drewN HOL.out nd); have HB2 := Aside0.mk (pw_below_drewN HB.out nd); have HP2 := Aside0.mk (HQN.out ▸ Kd.R_putg HOM2.out (q - 1) (decide (0 < n)))) | ((with_reducible refine gate_store (t := 4) (p := 69) rfl ?_); refine store_event (t := 4) (p := 69) (v := ?vo_w14) (w1 := ((wr.drewN nd).setCell ⟨gm, q.toNat - 1, none⟩ (.bool (decide (0 < n))))) ?hg ?ho ?hn ?hr ?_; (case ho => rfl); (case hg => rfl); (case hn => rfl); (case hr => first | (go_simp; done) | (go_simp; rfl)); intro w14 hw; have hgg : (wr.drewN nd).grownBy w14 (some gm) := (by rw [hw]; exact HP2.out.2); have n1_ := Aside0.mk (show Kd.R Kd.bool 4 w14 w.heap.size (fun _ => True) (.slice (some ⟨gm, 0, none⟩) m0.length cm) y2 by rw [hw, NY2.out]; exact HP2.out.1); have n2_ := Aside0.mk ((by rw [hw]; exact below_set HB2.out HGB.out : Below w.heap.size w w14)); have n3_ := Aside0.mk (Kd.R_over' HOP2.out (Kd.R_typed HOM2.out) (by decide) hgg); have n4_ := Aside0.mk (Kd.S_over' HOL2.out (Kd.R_typed HOM2.out) (by decide) hgg); clear HOM HOP HOL HB HOM2 HOP2 HOL2 HB2 HP2 hgg hw; have HOM := n1_; have HB := n2_; have HOP := n3_; have HOL := n4_; clear n1_ n2_ n3_ n4_))
            go_roundg k2
            case measure => have := HK2.out; omega
            case rel => exact ⟨y2, wrap64 (x + 1), by first | rfl | (rw [← HWX.out]; done) | (rw [HWX.out]; done) | simp [HWX.out], H', ⟨by have := HK2.out; omega⟩, HY2L, ⟨zR_ HOM.out⟩, ⟨zR_ HOP.out⟩, ⟨zS_ HOL.out⟩, ⟨zb_ HB.out⟩⟩
           ·rw [if_neg c9] at h
            exact absurd h (by simp)
          ·rw [if_neg c8] at h
           exact absurd h (by simp)
         ·rw [if_neg c7] at h
          have c7b : decide (x < (p1.length : Int)) = false := decide_eq_false c7
          obtain rfl : m = mm := by simpa using h
          clear h c7
          go_wp2
          (try simp only [Exit.inBlock, Exit.then])
          refine bodyPost_ret (results_tmp4_ rfl _ _ _) rfl ?_
          exact ⟨_, _, by first | rfl | simp, zR_ HOM.out, by (with_reducible repeat (first | apply Kd.S_alloc | apply Kd.S_drewN | apply Kd.S_drew)); exact Kd.S_mono HOL.out (fun _ _ => trivial), zb_ HB.out⟩
      ·rw [if_neg c6] at h
       exact absurd h (by simp)
   ·rw [if_neg c0] at h
    exact absurd h (by simp)


/-! ### impl_units: function 74 -/
def impl_units.l0 : Nat → List (List Int) → List Int → Int → Int → Option ((List (List Int)))
 | 0, _, _, _, _ => none
 | k + 1, x3, x6, x7, x8 => if x8 < x7 then (if 0 ≤ x8 then (if x8 < (x6.length : Int) then (if x3.length < 5864062014805 then (impl_units.l0 k (x3 ++ [(([rd x6 x8] : List Int))]) x6 x7 (wrap64 (x8 + 1))) else (none)) else (none)) else (none)) else (some x3)
def impl_units.f (k : Nat) (l0 : List Int) : Option ((List (List Int))) := impl_units.l0 k ([] : List (List Int)) l0 (l0.length : Int) 0
theorem impl_units.mono_l : ∀ k, (∀ y0 y1 y2 y3, LeO (impl_units.l0 k y0 y1 y2 y3) (impl_units.l0 (k + 1) y0 y1 y2 y3))
 | 0 => fun _ _ _ _ r h => by simp [impl_units.l0] at h
 | k + 1 => by
  have ih0 := impl_units.mono_l k
  ·intro y0 y1 y2 y3
   unfold impl_units.l0
   repeat' first
   | (with_reducible exact ih0 _ _ _ _)
   | (with_reducible exact LeO.refl _)
   | (with_reducible exact LeO.none _)
   | (with_reducible refine LeO.ite ?_ ?_)
   | (with_reducible refine LeO.bind ?_ (fun _ => ?_))
   | exact ih0 _ _ _ _
   | exact LeO.none _
   | refine LeO.ite ?_ ?_
   | refine LeO.bind ?_ (fun _ => ?_)
theorem impl_units.mono : ∀ a0 k, LeO (impl_units.f k a0) (impl_units.f (k + 1) a0) := by
 intro a0 k
 have ih0 := impl_units.mono_l k
 unfold impl_units.f
 repeat' first
   | (with_reducible exact ih0 _ _ _ _)
   | (with_reducible exact LeO.refl _)
   | (with_reducible exact LeO.none _)
   | (with_reducible refine LeO.ite ?_ ?_)
   | (with_reducible refine LeO.bind ?_ (fun _ => ?_))
   | exact ih0 _ _ _ _
   | exact LeO.none _
   | refine LeO.ite ?_ ?_
   | refine LeO.bind ?_ (fun _ => ?_)
set_option maxHeartbeats 8000000 in
set_option maxRecDepth 100000 in
theorem impl_units.calls (k : Nat) (A0 : Option Addr) (c0 : Nat) (l0 : List Int) (r : List (List Int)) (w : World) (hr0 : Kd.C (Kd.int .i64) w A0 l0.length l0) (hc0 : l0.length ≤ c0) (h : impl_units.f k l0 = some r) :
  Calls Try.prog 74 #[.slice A0 l0.length c0] w fun e w' => ∃ v0_ : Value, e = .returned (v0_) ∧ Kd.S (Kd.slice 3 (Kd.int .i64)) 24 w' w.heap.size (fun _ => True) v0_ r ∧ Below w.heap.size w w' := by
 have HR0 := Aside0.mk hr0
 have HC0 := Aside0.mk hc0
 clear hr0 hc0
 have HB := Aside0.mk (Below.refl w.heap.size w)
 have H : (impl_units.l0 k ([] : List (List Int)) l0 (l0.length : Int) 0) = some r := h
 clear h
 have H' := Aside0.mk H
 clear H
 go_enter Try.func74, Try.ntmps74
 go_wp2
 go_loopg [3, 8] k (fun kq v3 v8 w' => ∃ (x3_1 : List (List Int)) (x8_1 : Int), v8 = .int .i64 x8_1 ∧ Aside0 (impl_units.l0 kq x3_1 l0 (l0.length : Int) x8_1 = some r) ∧ Aside0 (kq ≤ k) ∧ Aside0 (Kd.S (Kd.slice 3 (Kd.int .i64)) 24 w' w.heap.size (fun _ => True) v3 x3_1) ∧ Aside0 (Below w.heap.size w w'))
 case atStart => exact ⟨(([] : List (List Int))), (0), (by first | rfl | (simp; done) | (simp [*]; done)), H', ⟨Nat.le_refl _⟩, ⟨by first | exact Kd.S_nil _ _ _ _ _ | exact Kd.N_nil _ _ _ _ _ | exact Kd.V_nil _ _ _ _ _ | exact Kd.Q_nil _ _ _ _ _ | exact Kd.R_nil _ _ _ _ _⟩, ⟨zb_ HB.out⟩⟩
 case round =>
  clear H'
  obtain ⟨x3_1, x8_1, rfl, HA, HK1, HO_3, HB⟩ := hrel
  cases gk with
  | zero => exact absurd HA.out (by simp [impl_units.l0])
  | succ k1 =>
   have H := HA.out
   clear HA
   simp only [impl_units.l0] at H
   by_cases c2 : x8_1 < (l0.length : Int)
   ·rw [if_pos c2] at H
    have c2b0 : decide (x8_1 < (l0.length : Int)) = true := decide_eq_true c2
    clear c2
    by_cases c3 : 0 ≤ x8_1
    ·rw [if_pos c3] at H
     have c3b0 : decide (0 ≤ x8_1) = true := decide_eq_true c3
     clear c3
     by_cases c4 : x8_1 < (l0.length : Int)
     ·rw [if_pos c4] at H
      have c4b0 : decide (x8_1 < (l0.length : Int)) = true := decide_eq_true c4
      clear c4
      obtain ⟨y123, hy123⟩ : ∃ y_ : List Int, y_ = (([rd l0 x8_1] : List Int)) := ⟨_, rfl⟩
      replace H : (if x3_1.length < 5864062014805 then (impl_units.l0 k1 (x3_1 ++ [y123]) l0 (l0.length : Int) (wrap64 (x8_1 + 1))) else (none)) = some r := by first | (rw [hy123]; with_reducible exact H) | (have H2_ := (Option.bind_some _ _).symm.trans H; rw [hy123]; with_reducible exact H2_) | (have H2_ := (Option.bind_some _ _).symm.trans H; with_reducible exact H2_) | with_reducible exact H | (rw [hy123]; exact H) | exact H
      have Ny123 := Aside0.mk hy123
      clear hy123
      by_cases c5 : x3_1.length < 5864062014805
      ·rw [if_pos c5] at H
       have LMc5 := Aside0.mk c5
       clear c5
       obtain ⟨y126, hy126⟩ : ∃ y_ : List (List Int), y_ = (x3_1 ++ [y123]) := ⟨_, rfl⟩
       replace H : (impl_units.l0 k1 y126 l0 (l0.length : Int) (wrap64 (x8_1 + 1))) = some r := by first | (rw [hy126]; with_reducible exact H) | (have H2_ := (Option.bind_some _ _).symm.trans H; rw [hy126]; with_reducible exact H2_) | (have H2_ := (Option.bind_some _ _).symm.trans H; with_reducible exact H2_) | with_reducible exact H | (rw [hy126]; exact H) | exact H
       have Ny126 := Aside0.mk hy126
       clear hy126
       have H' := Aside0.mk H
       clear H
       have p122 : 0 ≤ (x8_1 : Int) := of_decide_eq_true (by first | (with_reducible assumption) | assumption)
       have q122 : x8_1 < (l0.length : Int) := of_decide_eq_true (by first | (with_reducible assumption) | assumption)
       obtain ⟨ad122, e122, hx122_0⟩ := Kd.at_int HR0.out x8_1 p122 q122
       cases e122
       replace hx122_0 := (HB.out.cell (World.block_lt_of_cell? w _ hx122_0)).trans hx122_0
       replace p122 := eq_true p122
       replace q122 := eq_true q122
       go_wp2_with (first | ((with_reducible refine gate_dst (N := 14) rfl ?_); refine Kd.R_lit (Kd.int .i64) _ 3 ?hg (N := 14) ?hd (xs := ([rd l0 x8_1] : List Int)) (inner := [.int .i64 (rd l0 x8_1)]) (ok := fun _ => True) (okp := fun _ => True) ?hr ?hp (fun _ hk => hk) trivial (Below.refl _ _) (Nat.le_refl _) (by simp) ?_; (case hd => rfl); (case hg => rfl); (case hr => first | (go_simp; done) | (go_simp; rfl)); (case hp => exact (Reps.one (show Kd.M (Kd.int .i64) _ _ _ (rd l0 x8_1) [.int .i64 (rd l0 x8_1)] from rfl) (Reps.none _ _))); intro v124 w6 ho7 hb hg_ hnew_; clear hg_ hnew_; (first | rw [← Ny123.out] at ho7 | (simp only [Int.reduceToNat] at ho7; rw [← Ny123.out] at ho7)); have n0_ := Aside0.mk (Kd.S_elder' (zS_ HO_3.out) (Kd.R_base ho7) hb); have n1_ := Aside0.mk (Kd.R_lower ho7 (below_size (zb_ HB.out))); have n2_ := Aside0.mk (below_step (zb_ HB.out) hb); clear HO_3; clear HB; have HO_3 := n0_; have HO125 := n1_; have HB := n2_; clear n0_ n1_ n2_; clear hb ho7; obtain ⟨Ao9, co9, eo9⟩ := Kd.R_slice HO125.out; subst eo9) | ((with_reducible refine gate_builtin (b := .append) (xs := #[.tmp 12, .tmp 15]) rfl ?_); at_builtin; refine Kd.S_append (Kd.slice 3 (Kd.int .i64)) (w0 := w) w.heap.size rfl (.tmp 12) (.tmp 15) 23 24 (.slice none 0 0) 24 rfl Try.underlying23 info24 rfl (by decide) (by omega) u3 x3_1 y123 [.slice Ao9 y123.length co9] (fun _ => True) (fun k_ => some k_ = (.slice Ao9 y123.length co9 : Value).ownBlock) rfl rfl ?aP (fun k_ hk_ => ((Kd.R_mono (ok' := fun k_ => ((fun _ => True)) k_ ∧ some k_ ≠ (u3 : Value).ownBlock) (Kd.R_apart' (HO125.out) (Kd.S_typed HO_3.out) (by decide)) (fun k_ hk => ⟨trivial, hk.2⟩))).1 k_ hk_.symm) ?aF ?aO ?aB ?aS ?aL ?_; (case aP => exact Kd.M_row (Kd.R_mono (Kd.R_tight rfl (Kd.R_mono (ok' := fun k_ => ((fun _ => True)) k_ ∧ some k_ ≠ (u3 : Value).ownBlock) (Kd.R_apart' (HO125.out) (Kd.S_typed HO_3.out) (by decide)) (fun k_ hk => ⟨trivial, hk.2⟩))) (fun _ h_ => h_))); (case aB => exact (zb_ HB.out)); (case aF => exact (fun _ _ => trivial)); (case aO => exact (by (with_reducible repeat (first | apply Kd.S_alloc | apply Kd.S_drewN | apply Kd.S_drew)); exact Kd.S_mono HO_3.out (fun k_ hk => ⟨trivial, fun e_ => hk.2 e_⟩))); (case aS => exact (below_size (zb_ HB.out))); (case aL => have := LMc5.out; omega); intro v127 w8 ho hb hg hat; rw [← Ny126.out] at ho; have n0_ := Aside0.mk (hb); have n1_ := Aside0.mk (ho); clear HB; clear HO_3; clear HO125; have HB := n0_; have HO128 := n1_; clear n0_ n1_; clear ho hb hg hat))
       go_roundg k1
       case measure => have := HK1.out; omega
       case rel => exact ⟨(y126), (wrap64 (x8_1 + 1)), (by first | rfl | (simp; done) | (simp [*]; done)), H', ⟨by have := HK1.out; omega⟩, ⟨zS_ HO128.out⟩, ⟨zb_ HB.out⟩⟩
      ·rw [if_neg c5] at H
       exact absurd H (by simp)
     ·rw [if_neg c4] at H
      exact absurd H (by simp)
    ·rw [if_neg c3] at H
     exact absurd H (by simp)
   ·rw [if_neg c2] at H
    have c2b0 : decide (x8_1 < (l0.length : Int)) = false := decide_eq_false c2
    clear c2
    obtain rfl := Option.some.inj H
    go_wp2
    go_ret
    exact ⟨_, by first | rfl | (simp [errW_none, errW_some] <;> rfl) | (simp [*, errW_none, errW_some] <;> rfl), zS_ HO_3.out, zb_ HB.out⟩

/-! ### impl_SolveWith: function 22 -/
def impl_SolveWith.f (k : Nat) (a0 : Int) (l1 : List (List Int)) (l2 : List Int) : Option (Bool × List Bool × List (List Int) × Bool) := (impl_units.f k l2).bind fun u => if l1.length + u.length < 4398046511104 then ((impl_GoodClauses.f a0 l1).bind fun t1 => if t1 = true then ((impl_isClause.f l2 a0).bind fun t2 => if t2 = true then (if (l1 ++ u).length > 60 then some (false, [], [], false) else impl_solve.f k a0 (l1 ++ u)) else some (false, [], [], false)) else some (false, [], [], false)) else none
theorem impl_SolveWith.mono : ∀ a0 a1 a2 k, LeO (impl_SolveWith.f k a0 a1 a2) (impl_SolveWith.f (k + 1) a0 a1 a2) := by
 intro a0 a1 a2 k
 unfold impl_SolveWith.f
 repeat' first
 | (with_reducible exact impl_units.mono _ _)
 | (with_reducible exact impl_solve.mono _ _ _)
 | (with_reducible exact LeO.refl _)
 | (with_reducible exact LeO.none _)
 | (with_reducible refine LeO.ite ?_ ?_)
 | (with_reducible refine LeO.bind ?_ (fun _ => ?_))
set_option maxHeartbeats 1000000 in
set_option maxRecDepth 100000 in
theorem impl_SolveWith.calls (k : Nat) (a0 : Int) (A1 : Option Addr) (c1 : Nat) (l1 : List (List Int)) (A2 : Option Addr) (c2 : Nat) (l2 : List Int) (r1 : Bool) (r2 : List Bool) (r3 : List (List Int)) (r4 : Bool) (w : World) (hr1 : Kd.C (Kd.slice 3 (Kd.int .i64)) w A1 l1.length l1) (hc1 : l1.length ≤ c1) (hr2 : Kd.C (Kd.int .i64) w A2 l2.length l2) (hc2 : l2.length ≤ c2) (h : impl_SolveWith.f k a0 l1 l2 = some (r1, r2, r3, r4)) :
  Calls Try.prog 22 #[.int .i64 a0, .slice A1 l1.length c1, .slice A2 l2.length c2] w fun e w' => ∃ v1_ v2_ : Value, e = .returned (.tuple #[.bool r1, v1_, v2_, .bool r4]) ∧ Kd.R Kd.bool 4 w' w.heap.size (fun _ => True) v1_ r2 ∧ Kd.S (Kd.slice 3 (Kd.int .i64)) 24 w' w.heap.size (fun _ => True) v2_ r3 ∧ Below w.heap.size w w' := by
 have HR1 := Aside0.mk hr1
 have HC1 := Aside0.mk hc1
 have HR2 := Aside0.mk hr2
 have HC2 := Aside0.mk hc2
 clear hr1 hc1 hr2 hc2
 have HB := Aside0.mk (Below.refl w.heap.size w)
 unfold impl_SolveWith.f at h
 replace h := Option.bind_eq_some_iff.mp h
 obtain ⟨u, A0', h⟩ := h
 have G0 := Aside0.mk A0'
 clear A0'
 by_cases c0 : l1.length + u.length < 4398046511104
 ·rw [if_pos c0] at h
  obtain ⟨y, hy⟩ : ∃ y, y = l1 ++ u := ⟨_, rfl⟩
  have HY := Aside0.mk (show slices_Concat_rows [l1, u] = some y by unfold slices_Concat_rows; rw [if_pos (by simpa using c0), hy]; simp)
  rw [← hy] at h
  clear c0 hy
  replace h := Option.bind_eq_some_iff.mp h
  obtain ⟨t1, A1', h⟩ := h
  have G1 := Aside0.mk A1'
  clear A1'
  cases t1 with
  | false =>
   obtain ⟨rfl, rfl, rfl, rfl⟩ : false = r1 ∧ [] = r2 ∧ [] = r3 ∧ false = r4 := by simpa using h
   clear h
   go_enter Try.func22, Try.ntmps22
   go_wp2_with (first | (go_at_call 74; (with_reducible refine (impl_units.calls k _ _ l2 u _ ?side1 ?side2 G0.out).mono ?_); (case side1 => exact zC_ HR2.out); (case side2 => exact HC2.out); rintro e w4 ⟨v4, rfl, ho, hb⟩; obtain ⟨A4, c4, e4⟩ := Kd.S_slice ho; subst e4; have HR4 := Aside0.mk (Kd.S_reads' ho).2.2; have HC4 := Aside0.mk (Kd.S_reads' ho).2.1; have n0_ := Aside0.mk (below_step (zb_ HB.out) hb); clear HB; have HB := n0_; clear n0_ ho hb) | (go_at_call 71; (with_reducible refine (slices_Concat_two_calls _ _ l1 u y _ ?side1 ?side2 HY.out).mono ?_); (case side1 => exact C_two_ _ _ _ _ _ _ _ _ (Kd.C_below HR1.out HB.out) HC1.out HR4.out HC4.out); (case side2 => exact Nat.le_refl _); rintro e w5 ⟨v5, rfl, ho, hb⟩; obtain ⟨A5, c5, e5, hl5, hr5⟩ := R_came_ ho hb; subst e5; have HR5 := Aside0.mk hr5; have HC5 := Aside0.mk hl5; have n0_ := Aside0.mk (below_step (zb_ HB.out) hb); clear HB hr5 hl5 ho hb; have HB := n0_; clear n0_) | (go_at_call 26; (with_reducible refine (impl_GoodClauses.calls a0 _ _ l1 false _ ?side1 ?side2 G1.out).mono ?_); (case side1 => exact zC_ (Kd.C_below HR1.out HB.out)); (case side2 => exact HC1.out); rintro e w6 ⟨rfl, hb⟩; have q_ := Aside0.mk (Kd.C_below (show Kd.C (Kd.slice 3 (Kd.int .i64)) _ A5 y.length y by exact zC_ HR5.out) hb); clear HR5; have HR5 := q_; clear q_; have n0_ := Aside0.mk (below_step (zb_ HB.out) hb); clear HB; have HB := n0_; clear n0_ hb))
   (try simp only [Exit.inBlock, Exit.then])
   refine bodyPost_ret (results_tmp4_ rfl _ _ _) rfl ?_
   exact ⟨_, _, by first | rfl | simp, Kd.R_nil _ _ _ _ _, Kd.S_nil _ _ _ _ _, zb_ HB.out⟩
  | true =>
   rw [if_pos rfl] at h
   replace h := Option.bind_eq_some_iff.mp h
   obtain ⟨t2, A2', h⟩ := h
   have G2 := Aside0.mk A2'
   clear A2'
   cases t2 with
   | false =>
    obtain ⟨rfl, rfl, rfl, rfl⟩ : false = r1 ∧ [] = r2 ∧ [] = r3 ∧ false = r4 := by simpa using h
    clear h
    go_enter Try.func22, Try.ntmps22
    go_wp2_with (first | (go_at_call 74; (with_reducible refine (impl_units.calls k _ _ l2 u _ ?side1 ?side2 G0.out).mono ?_); (case side1 => exact zC_ HR2.out); (case side2 => exact HC2.out); rintro e w4 ⟨v4, rfl, ho, hb⟩; obtain ⟨A4, c4, e4⟩ := Kd.S_slice ho; subst e4; have HR4 := Aside0.mk (Kd.S_reads' ho).2.2; have HC4 := Aside0.mk (Kd.S_reads' ho).2.1; have n0_ := Aside0.mk (below_step (zb_ HB.out) hb); clear HB; have HB := n0_; clear n0_ ho hb) | (go_at_call 71; (with_reducible refine (slices_Concat_two_calls _ _ l1 u y _ ?side1 ?side2 HY.out).mono ?_); (case side1 => exact C_two_ _ _ _ _ _ _ _ _ (Kd.C_below HR1.out HB.out) HC1.out HR4.out HC4.out); (case side2 => exact Nat.le_refl _); rintro e w5 ⟨v5, rfl, ho, hb⟩; obtain ⟨A5, c5, e5, hl5, hr5⟩ := R_came_ ho hb; subst e5; have HR5 := Aside0.mk hr5; have HC5 := Aside0.mk hl5; have n0_ := Aside0.mk (below_step (zb_ HB.out) hb); clear HB hr5 hl5 ho hb; have HB := n0_; clear n0_) | (go_at_call 26; (with_reducible refine (impl_GoodClauses.calls a0 _ _ l1 true _ ?side1 ?side2 G1.out).mono ?_); (case side1 => exact zC_ (Kd.C_below HR1.out HB.out)); (case side2 => exact HC1.out); rintro e w6 ⟨rfl, hb⟩; have q_ := Aside0.mk (Kd.C_below (show Kd.C (Kd.slice 3 (Kd.int .i64)) _ A5 y.length y by exact zC_ HR5.out) hb); clear HR5; have HR5 := q_; clear q_; have n0_ := Aside0.mk (below_step (zb_ HB.out) hb); clear HB; have HB := n0_; clear n0_ hb) | (go_at_call 58; (with_reducible refine (impl_isClause.calls _ _ l2 a0 false _ ?side1 ?side2 G2.out).mono ?_); (case side1 => exact zC_ (Kd.C_below HR2.out HB.out)); (case side2 => exact HC2.out); rintro e w7 ⟨rfl, hb⟩; have q_ := Aside0.mk (Kd.C_below (show Kd.C (Kd.slice 3 (Kd.int .i64)) _ A5 y.length y by exact zC_ HR5.out) hb); clear HR5; have HR5 := q_; clear q_; have n0_ := Aside0.mk (below_step (zb_ HB.out) hb); clear HB; have HB := n0_; clear n0_ hb))
    (try simp only [Exit.inBlock, Exit.then])
    refine bodyPost_ret (results_tmp4_ rfl _ _ _) rfl ?_
    exact ⟨_, _, by first | rfl | simp, Kd.R_nil _ _ _ _ _, Kd.S_nil _ _ _ _ _, zb_ HB.out⟩
   | true =>
    rw [if_pos rfl] at h
    by_cases c3 : y.length > 60
    ·rw [if_pos c3] at h
     obtain ⟨rfl, rfl, rfl, rfl⟩ : false = r1 ∧ [] = r2 ∧ [] = r3 ∧ false = r4 := by simpa using h
     have d1 : decide (60 < y.length) = true := decide_eq_true c3
     have d2 : decide (60 < (y.length : Int)) = true := decide_eq_true (by omega)
     clear h c3
     go_enter Try.func22, Try.ntmps22
     go_wp2_with (first | (go_at_call 74; (with_reducible refine (impl_units.calls k _ _ l2 u _ ?side1 ?side2 G0.out).mono ?_); (case side1 => exact zC_ HR2.out); (case side2 => exact HC2.out); rintro e w4 ⟨v4, rfl, ho, hb⟩; obtain ⟨A4, c4, e4⟩ := Kd.S_slice ho; subst e4; have HR4 := Aside0.mk (Kd.S_reads' ho).2.2; have HC4 := Aside0.mk (Kd.S_reads' ho).2.1; have n0_ := Aside0.mk (below_step (zb_ HB.out) hb); clear HB; have HB := n0_; clear n0_ ho hb) | (go_at_call 71; (with_reducible refine (slices_Concat_two_calls _ _ l1 u y _ ?side1 ?side2 HY.out).mono ?_); (case side1 => exact C_two_ _ _ _ _ _ _ _ _ (Kd.C_below HR1.out HB.out) HC1.out HR4.out HC4.out); (case side2 => exact Nat.le_refl _); rintro e w5 ⟨v5, rfl, ho, hb⟩; obtain ⟨A5, c5, e5, hl5, hr5⟩ := R_came_ ho hb; subst e5; have HR5 := Aside0.mk hr5; have HC5 := Aside0.mk hl5; have n0_ := Aside0.mk (below_step (zb_ HB.out) hb); clear HB hr5 hl5 ho hb; have HB := n0_; clear n0_) | (go_at_call 26; (with_reducible refine (impl_GoodClauses.calls a0 _ _ l1 true _ ?side1 ?side2 G1.out).mono ?_); (case side1 => exact zC_ (Kd.C_below HR1.out HB.out)); (case side2 => exact HC1.out); rintro e w6 ⟨rfl, hb⟩; have q_ := Aside0.mk (Kd.C_below (show Kd.C (Kd.slice 3 (Kd.int .i64)) _ A5 y.length y by exact zC_ HR5.out) hb); clear HR5; have HR5 := q_; clear q_; have n0_ := Aside0.mk (below_step (zb_ HB.out) hb); clear HB; have HB := n0_; clear n0_ hb) | (go_at_call 58; (with_reducible refine (impl_isClause.calls _ _ l2 a0 true _ ?side1 ?side2 G2.out).mono ?_); (case side1 => exact zC_ (Kd.C_below HR2.out HB.out)); (case side2 => exact HC2.out); rintro e w7 ⟨rfl, hb⟩; have q_ := Aside0.mk (Kd.C_below (show Kd.C (Kd.slice 3 (Kd.int .i64)) _ A5 y.length y by exact zC_ HR5.out) hb); clear HR5; have HR5 := q_; clear q_; have n0_ := Aside0.mk (below_step (zb_ HB.out) hb); clear HB; have HB := n0_; clear n0_ hb))
     (try simp only [Exit.inBlock, Exit.then])
     refine bodyPost_ret (results_tmp4_ rfl _ _ _) rfl ?_
     exact ⟨_, _, by first | rfl | simp, Kd.R_nil _ _ _ _ _, Kd.S_nil _ _ _ _ _, zb_ HB.out⟩
    ·rw [if_neg c3] at h
     have G3 := Aside0.mk h
     have d1 : decide (60 < y.length) = false := decide_eq_false c3
     have d2 : decide (60 < (y.length : Int)) = false := decide_eq_false (by omega)
     clear h c3
     go_enter Try.func22, Try.ntmps22
     go_wp2_with (first | (go_at_call 74; (with_reducible refine (impl_units.calls k _ _ l2 u _ ?side1 ?side2 G0.out).mono ?_); (case side1 => exact zC_ HR2.out); (case side2 => exact HC2.out); rintro e w4 ⟨v4, rfl, ho, hb⟩; obtain ⟨A4, c4, e4⟩ := Kd.S_slice ho; subst e4; have HR4 := Aside0.mk (Kd.S_reads' ho).2.2; have HC4 := Aside0.mk (Kd.S_reads' ho).2.1; have n0_ := Aside0.mk (below_step (zb_ HB.out) hb); clear HB; have HB := n0_; clear n0_ ho hb) | (go_at_call 71; (with_reducible refine (slices_Concat_two_calls _ _ l1 u y _ ?side1 ?side2 HY.out).mono ?_); (case side1 => exact C_two_ _ _ _ _ _ _ _ _ (Kd.C_below HR1.out HB.out) HC1.out HR4.out HC4.out); (case side2 => exact Nat.le_refl _); rintro e w5 ⟨v5, rfl, ho, hb⟩; obtain ⟨A5, c5, e5, hl5, hr5⟩ := R_came_ ho hb; subst e5; have HR5 := Aside0.mk hr5; have HC5 := Aside0.mk hl5; have n0_ := Aside0.mk (below_step (zb_ HB.out) hb); clear HB hr5 hl5 ho hb; have HB := n0_; clear n0_) | (go_at_call 26; (with_reducible refine (impl_GoodClauses.calls a0 _ _ l1 true _ ?side1 ?side2 G1.out).mono ?_); (case side1 => exact zC_ (Kd.C_below HR1.out HB.out)); (case side2 => exact HC1.out); rintro e w6 ⟨rfl, hb⟩; have q_ := Aside0.mk (Kd.C_below (show Kd.C (Kd.slice 3 (Kd.int .i64)) _ A5 y.length y by exact zC_ HR5.out) hb); clear HR5; have HR5 := q_; clear q_; have n0_ := Aside0.mk (below_step (zb_ HB.out) hb); clear HB; have HB := n0_; clear n0_ hb) | (go_at_call 58; (with_reducible refine (impl_isClause.calls _ _ l2 a0 true _ ?side1 ?side2 G2.out).mono ?_); (case side1 => exact zC_ (Kd.C_below HR2.out HB.out)); (case side2 => exact HC2.out); rintro e w7 ⟨rfl, hb⟩; have q_ := Aside0.mk (Kd.C_below (show Kd.C (Kd.slice 3 (Kd.int .i64)) _ A5 y.length y by exact zC_ HR5.out) hb); clear HR5; have HR5 := q_; clear q_; have n0_ := Aside0.mk (below_step (zb_ HB.out) hb); clear HB; have HB := n0_; clear n0_ hb) | (go_at_call 73; (with_reducible refine (impl_solve.calls k a0 _ _ y r1 r2 r3 r4 _ ?side1 ?side2 G3.out).mono ?_); (case side1 => exact zC_ HR5.out); (case side2 => exact HC5.out); rintro e w8 ⟨v8, v9, rfl, ho, ho2, hb⟩; have HO8 := Aside0.mk (Kd.R_lower ho (below_size (zb_ HB.out))); have HO9 := Aside0.mk (Kd.S_lower ho2 (below_size (zb_ HB.out))); have n0_ := Aside0.mk (below_step (zb_ HB.out) hb); clear HB; have HB := n0_; clear n0_ ho ho2 hb))
     (try simp only [Exit.inBlock, Exit.then])
     refine bodyPost_ret (results_tmp4_ rfl _ _ _) rfl ?_
     exact ⟨_, _, by first | rfl | simp, zR_ HO8.out, zS_ HO9.out, zb_ HB.out⟩
 ·rw [if_neg c0] at h
  exact absurd h (by simp)


/-! ### impl_FollowsFrom: function 8 -/
def impl_FollowsFrom.j0 : Nat → Int → List (List Int) → List Int → Bool → Option (Bool × Bool)
 | 0, _, _, _, _ => none
 | k + 1, x0, x1, x2, x21 => if x21 = true then (some (false, false)) else ((impl_learn.f k x2).bind fun t131 => ((impl_SolveWith.f k x0 x1 t131).bind fun bt134 => (if bt134.2.2.2 = true then (some (!bt134.1, bt134.2.2.2)) else (some (false, bt134.2.2.2)))))
def impl_FollowsFrom.f (k : Nat) (a0 : Int) (l1 : List (List Int)) (l2 : List Int) : Option (Bool × Bool) := (impl_GoodClauses.f a0 l1).bind fun t129 => (if t129 = true then ((impl_isClause.f l2 a0).bind fun t130 => (impl_FollowsFrom.j0 k a0 l1 l2 (!t130))) else (impl_FollowsFrom.j0 k a0 l1 l2 true))
theorem impl_FollowsFrom.mono_l : ∀ k, (∀ y0 y1 y2 y3, LeO (impl_FollowsFrom.j0 k y0 y1 y2 y3) (impl_FollowsFrom.j0 (k + 1) y0 y1 y2 y3))
 | 0 => fun _ _ _ _ r h => by simp [impl_FollowsFrom.j0] at h
 | k + 1 => by
  have ih0 := impl_FollowsFrom.mono_l k
  ·intro y0 y1 y2 y3
   unfold impl_FollowsFrom.j0
   repeat' first
   | (with_reducible exact ih0 _ _ _ _)
   | (with_reducible exact impl_SolveWith.mono _ _ _ _)
   | (with_reducible exact impl_learn.mono _ _)
   | (with_reducible exact LeO.refl _)
   | (with_reducible exact LeO.none _)
   | (with_reducible refine LeO.ite ?_ ?_)
   | (with_reducible refine LeO.bind ?_ (fun _ => ?_))
   | exact ih0 _ _ _ _
   | exact impl_SolveWith.mono _ _ _ _
   | exact impl_learn.mono _ _
   | exact LeO.none _
   | refine LeO.ite ?_ ?_
   | refine LeO.bind ?_ (fun _ => ?_)
theorem impl_FollowsFrom.mono : ∀ a0 a1 a2 k, LeO (impl_FollowsFrom.f k a0 a1 a2) (impl_FollowsFrom.f (k + 1) a0 a1 a2) := by
 intro a0 a1 a2 k
 have ih0 := impl_FollowsFrom.mono_l k
 unfold impl_FollowsFrom.f
 repeat' first
   | (with_reducible exact ih0 _ _ _ _)
   | (with_reducible exact impl_SolveWith.mono _ _ _ _)
   | (with_reducible exact impl_learn.mono _ _)
   | (with_reducible exact LeO.refl _)
   | (with_reducible exact LeO.none _)
   | (with_reducible refine LeO.ite ?_ ?_)
   | (with_reducible refine LeO.bind ?_ (fun _ => ?_))
   | exact ih0 _ _ _ _
   | exact impl_SolveWith.mono _ _ _ _
   | exact impl_learn.mono _ _
   | exact LeO.none _
   | refine LeO.ite ?_ ?_
   | refine LeO.bind ?_ (fun _ => ?_)
set_option maxHeartbeats 8000000 in
set_option maxRecDepth 100000 in
theorem impl_FollowsFrom.calls (k : Nat) (a0 : Int) (A1 : Option Addr) (c1 : Nat) (l1 : List (List Int)) (A2 : Option Addr) (c2 : Nat) (l2 : List Int) (r1 : Bool) (r2 : Bool) (w : World) (hr1 : Kd.C (Kd.slice 3 (Kd.int .i64)) w A1 l1.length l1) (hc1 : l1.length ≤ c1) (hr2 : Kd.C (Kd.int .i64) w A2 l2.length l2) (hc2 : l2.length ≤ c2) (h : impl_FollowsFrom.f k a0 l1 l2 = some (r1, r2)) :
  Calls Try.prog 8 #[.int .i64 a0, .slice A1 l1.length c1, .slice A2 l2.length c2] w fun e w' => e = .returned (.tuple #[.bool r1, .bool r2]) ∧ Below w.heap.size w w' := by
 have HR1 := Aside0.mk hr1
 have HC1 := Aside0.mk hc1
 clear hr1 hc1
 have HR2 := Aside0.mk hr2
 have HC2 := Aside0.mk hc2
 clear hr2 hc2
 have HB := Aside0.mk (Below.refl w.heap.size w)
 have H : ((impl_GoodClauses.f a0 l1).bind fun t129 => (if t129 = true then ((impl_isClause.f l2 a0).bind fun t130 => (impl_FollowsFrom.j0 k a0 l1 l2 (!t130))) else (impl_FollowsFrom.j0 k a0 l1 l2 true))) = some (r1, r2) := h
 clear h
 have HC4 := Aside0.mk H
 clear H
 go_enter Try.func8, Try.ntmps8
 go_upto_region 1 with (fail)
 go_cut [21] (fun v21 wc => ∃ (kq : Nat) (x21_3 : Bool), v21 = .bool x21_3 ∧ Aside0 (impl_FollowsFrom.j0 kq a0 l1 l2 x21_3 = some (r1, r2)) ∧ Aside0 (kq ≤ k) ∧ Aside0 (Below w.heap.size w wc))
 case first =>
  have H := HC4.out
  clear HC4
  replace H := Option.bind_eq_some_iff.mp H
  obtain ⟨t129, A50, H⟩ := H
  (try dsimp only at H)
  have A5 := Aside0.mk A50
  clear A50
  by_cases c6 : t129 = true
  ·subst c6
   have H1 : ((impl_isClause.f l2 a0).bind fun t130 => (impl_FollowsFrom.j0 k a0 l1 l2 (!t130))) = some (r1, r2) := by rw [if_pos rfl] at H; exact H
   clear H
   have H := H1
   clear H1
   replace H := Option.bind_eq_some_iff.mp H
   obtain ⟨t130, A70, H⟩ := H
   (try dsimp only at H)
   have A7 := Aside0.mk A70
   clear A70
   have H' := Aside0.mk H
   clear H
   go_wp2_with (first | ((with_reducible refine gate_callee (f := 26) rfl ?_); refine goesL_ (some 14) rfl rfl Try.func26 (by kernel_rfl) rfl #[.int .i64 a0, .slice A1 l1.length c1] rfl (by (try simp only [List.map_toArray, List.map_cons, List.map_nil]); first | done | rfl | (simp only [List.length_drop, List.length_take]; rfl)) ?_; (with_reducible refine (impl_GoodClauses.calls a0 _ _ l1 true _ ?side1 ?side2 A5.out).mono ?_); (case side1 => exact zC_ (Kd.C_below HR1.out HB.out)); (case side2 => exact HC1.out); rintro e w8 ⟨rfl, hb⟩; refine ⟨_, rfl, ?_⟩; have n0_ := Aside0.mk (below_step (zb_ HB.out) hb); clear HB; have HB := n0_; clear n0_; (try clear hb); (try clear hb2); (try clear hk); (try clear hi)) | (go_at_call 58; (with_reducible refine (impl_isClause.calls _ _ l2 a0 t130 _ ?side1 ?side2 A7.out).mono ?_); (case side1 => exact zC_ (Kd.C_below HR2.out HB.out)); (case side2 => exact HC2.out); rintro e w9 ⟨rfl, hb⟩; have n0_ := Aside0.mk (below_step (zb_ HB.out) hb); clear HB; have HB := n0_; clear n0_; (try clear hb); (try clear hb2); (try clear hk); (try clear hi)))
   go_meet
   case rel => exact ⟨_, (!t130), (by first | rfl | (simp; done) | (simp [*]; done)), H', ⟨by first | omega | exact Nat.le_refl _⟩, ⟨zb_ HB.out⟩⟩
  ·replace c6 := Bool.eq_false_iff.mpr c6
   subst c6
   have H1 : (impl_FollowsFrom.j0 k a0 l1 l2 true) = some (r1, r2) := by rw [if_neg (show ¬ (false = true) by decide)] at H; exact H
   clear H
   have H := H1
   clear H1
   have H' := Aside0.mk H
   clear H
   go_wp2_with (first | ((with_reducible refine gate_callee (f := 26) rfl ?_); refine goesL_ (some 14) rfl rfl Try.func26 (by kernel_rfl) rfl #[.int .i64 a0, .slice A1 l1.length c1] rfl (by (try simp only [List.map_toArray, List.map_cons, List.map_nil]); first | done | rfl | (simp only [List.length_drop, List.length_take]; rfl)) ?_; (with_reducible refine (impl_GoodClauses.calls a0 _ _ l1 false _ ?side1 ?side2 A5.out).mono ?_); (case side1 => exact zC_ (Kd.C_below HR1.out HB.out)); (case side2 => exact HC1.out); rintro e w10 ⟨rfl, hb⟩; refine ⟨_, rfl, ?_⟩; have n0_ := Aside0.mk (below_step (zb_ HB.out) hb); clear HB; have HB := n0_; clear n0_; (try clear hb); (try clear hb2); (try clear hk); (try clear hi)))
   go_meet
   case rel => exact ⟨_, (true), (by first | rfl | (simp; done) | (simp [*]; done)), H', ⟨by first | omega | exact Nat.le_refl _⟩, ⟨zb_ HB.out⟩⟩
 case rest =>
  clear HC4
  try clear c1
  try clear c2
  try clear p2
  try clear c6
  try clear c8
  obtain ⟨kq, x21_3, rfl, HA, HJ3, HB⟩ := hcut
  cases kq with
  | zero => exact absurd HA.out (by simp [impl_FollowsFrom.j0])
  | succ kj3 =>
   have H := HA.out
   clear HA
   simp only [impl_FollowsFrom.j0] at H
   by_cases c11 : x21_3 = true
   ·subst c11
    have H1 : (some (false, false)) = some (r1, r2) := by rw [if_pos rfl] at H; exact H
    clear H
    have H := H1
    clear H1
    simp only [Option.some.injEq, Prod.mk.injEq] at H
    obtain ⟨rfl, rfl⟩ := H
    go_wp2
    go_ret2
    exact ⟨by first | rfl | (simp [errW_none, errW_some] <;> rfl) | (simp [*, errW_none, errW_some] <;> rfl), zb_ HB.out⟩
   ·replace c11 := Bool.eq_false_iff.mpr c11
    subst c11
    have H1 : ((impl_learn.f kj3 l2).bind fun t131 => ((impl_SolveWith.f kj3 a0 l1 t131).bind fun bt134 => (if bt134.2.2.2 = true then (some (!bt134.1, bt134.2.2.2)) else (some (false, bt134.2.2.2))))) = some (r1, r2) := by rw [if_neg (show ¬ (false = true) by decide)] at H; exact H
    clear H
    have H := H1
    clear H1
    replace H := Option.bind_eq_some_iff.mp H
    obtain ⟨t131, A120, H⟩ := H
    (try dsimp only at H)
    have A12 := Aside0.mk A120
    clear A120
    replace H := Option.bind_eq_some_iff.mp H
    obtain ⟨⟨t134, t135, t136, t137⟩, A130, H⟩ := H
    (try dsimp only at H)
    have A13 := Aside0.mk A130
    clear A130
    by_cases c14 : t137 = true
    ·subst c14
     have H1 : (some (!t134, true)) = some (r1, r2) := by rw [if_pos rfl] at H; exact H
     clear H
     have H := H1
     clear H1
     simp only [Option.some.injEq, Prod.mk.injEq] at H
     obtain ⟨rfl, rfl⟩ := H
     go_wp2_with (first | ((with_reducible refine gate_callee (f := 59) rfl ?_); refine goesL_ (some 26) rfl rfl Try.func59 (by kernel_rfl) rfl #[.slice A2 l2.length c2] rfl (by (try simp only [List.map_toArray, List.map_cons, List.map_nil]); first | done | rfl | (simp only [List.length_drop, List.length_take]; rfl)) ?_; (with_reducible refine (impl_learn.calls kj3 _ _ l2 t131 _ ?side1 ?side2 A12.out).mono ?_); (case side1 => exact zC_ (Kd.C_below HR2.out HB.out)); (case side2 => exact HC2.out); rintro e w15 ⟨v132, rfl, ho0, hb⟩; refine ⟨_, rfl, ?_⟩; have n0_ := Aside0.mk (Kd.R_lower ho0 (below_size (zb_ HB.out))); have n1_ := Aside0.mk (below_step (zb_ HB.out) hb); clear HB; have HO133 := n0_; have HB := n1_; clear n0_ n1_; (try clear hb); (try clear hb2); (try clear hk); (try clear hi); (try clear ho0); obtain ⟨Ao16, co16, eo16⟩ := Kd.R_slice HO133.out; subst eo16) | ((with_reducible refine gate_callee (f := 22) rfl ?_); refine goesL_ (some 27) rfl rfl Try.func22 (by kernel_rfl) rfl #[.int .i64 a0, .slice A1 l1.length c1, .slice Ao16 t131.length co16] rfl (by (try simp only [List.map_toArray, List.map_cons, List.map_nil]); first | done | rfl | (simp only [List.length_drop, List.length_take]; rfl)) ?_; (with_reducible refine (impl_SolveWith.calls kj3 a0 _ _ l1 _ _ t131 t134 t135 t136 true _ ?side1 ?side2 ?side3 ?side4 A13.out).mono ?_); (case side1 => exact zC_ (Kd.C_below HR1.out HB.out)); (case side2 => exact HC1.out); (case side3 => exact zC_ (Kd.R_reads' HO133.out).2.2); (case side4 => exact (Kd.R_reads' HO133.out).2.1); rintro e w17 ⟨v138, v140, rfl, ho0, ho1, hb⟩; refine ⟨_, rfl, ?_⟩; have n0_ := Aside0.mk (Kd.R_below (zR_ HO133.out) hb); have n1_ := Aside0.mk (Kd.R_lower ho0 (below_size (zb_ HB.out))); have n2_ := Aside0.mk (Kd.S_lower (Kd.S_new' ho1 (Kd.R_lt (zR_ HO133.out))) (below_size (zb_ HB.out))); have n3_ := Aside0.mk (below_step (zb_ HB.out) hb); clear HO133; clear HB; have HO133 := n0_; have HO139 := n1_; have HO141 := n2_; have HB := n3_; clear n0_ n1_ n2_ n3_; (try clear hb); (try clear hb2); (try clear hk); (try clear hi); (try clear ho0); (try clear ho1)))
     go_ret2
     exact ⟨by first | rfl | (simp [errW_none, errW_some] <;> rfl) | (simp [*, errW_none, errW_some] <;> rfl), zb_ HB.out⟩
    ·replace c14 := Bool.eq_false_iff.mpr c14
     subst c14
     have H1 : (some (false, false)) = some (r1, r2) := by rw [if_neg (show ¬ (false = true) by decide)] at H; exact H
     clear H
     have H := H1
     clear H1
     simp only [Option.some.injEq, Prod.mk.injEq] at H
     obtain ⟨rfl, rfl⟩ := H
     go_wp2_with (first | ((with_reducible refine gate_callee (f := 59) rfl ?_); refine goesL_ (some 26) rfl rfl Try.func59 (by kernel_rfl) rfl #[.slice A2 l2.length c2] rfl (by (try simp only [List.map_toArray, List.map_cons, List.map_nil]); first | done | rfl | (simp only [List.length_drop, List.length_take]; rfl)) ?_; (with_reducible refine (impl_learn.calls kj3 _ _ l2 t131 _ ?side1 ?side2 A12.out).mono ?_); (case side1 => exact zC_ (Kd.C_below HR2.out HB.out)); (case side2 => exact HC2.out); rintro e w18 ⟨v132, rfl, ho0, hb⟩; refine ⟨_, rfl, ?_⟩; have n0_ := Aside0.mk (Kd.R_lower ho0 (below_size (zb_ HB.out))); have n1_ := Aside0.mk (below_step (zb_ HB.out) hb); clear HB; have HO133 := n0_; have HB := n1_; clear n0_ n1_; (try clear hb); (try clear hb2); (try clear hk); (try clear hi); (try clear ho0); obtain ⟨Ao19, co19, eo19⟩ := Kd.R_slice HO133.out; subst eo19) | ((with_reducible refine gate_callee (f := 22) rfl ?_); refine goesL_ (some 27) rfl rfl Try.func22 (by kernel_rfl) rfl #[.int .i64 a0, .slice A1 l1.length c1, .slice Ao19 t131.length co19] rfl (by (try simp only [List.map_toArray, List.map_cons, List.map_nil]); first | done | rfl | (simp only [List.length_drop, List.length_take]; rfl)) ?_; (with_reducible refine (impl_SolveWith.calls kj3 a0 _ _ l1 _ _ t131 t134 t135 t136 false _ ?side1 ?side2 ?side3 ?side4 A13.out).mono ?_); (case side1 => exact zC_ (Kd.C_below HR1.out HB.out)); (case side2 => exact HC1.out); (case side3 => exact zC_ (Kd.R_reads' HO133.out).2.2); (case side4 => exact (Kd.R_reads' HO133.out).2.1); rintro e w20 ⟨v138, v140, rfl, ho0, ho1, hb⟩; refine ⟨_, rfl, ?_⟩; have n0_ := Aside0.mk (Kd.R_below (zR_ HO133.out) hb); have n1_ := Aside0.mk (Kd.R_lower ho0 (below_size (zb_ HB.out))); have n2_ := Aside0.mk (Kd.S_lower (Kd.S_new' ho1 (Kd.R_lt (zR_ HO133.out))) (below_size (zb_ HB.out))); have n3_ := Aside0.mk (below_step (zb_ HB.out) hb); clear HO133; clear HB; have HO133 := n0_; have HO139 := n1_; have HO141 := n2_; have HB := n3_; clear n0_ n1_ n2_ n3_; (try clear hb); (try clear hb2); (try clear hk); (try clear hi); (try clear ho0); (try clear ho1)))
     go_ret2
     exact ⟨by first | rfl | (simp [errW_none, errW_some] <;> rfl) | (simp [*, errW_none, errW_some] <;> rfl), zb_ HB.out⟩

/-! ### impl_holds_1: function 112 -/
theorem given_quiet2 {P : Program} {f : FuncId} {args : Array Value} {w : World} {n : Nat} {v : Value} (h : Calls P f args (w.drewN n) fun e w' => e = .returned v ∧ Drawn0 (w.drewN n) w') :
  Calls P f args (w.drewN n) fun e w'' => e = .returned v ∧ ∃ m, w'' = w.drewN m := by
 refine h.mono ?_
 rintro e w' ⟨he, ⟨m, rfl⟩⟩
 exact ⟨he, n + m, by rw [World.drewN_drewN]⟩
def litAt (m : List Bool) (n : Int) : Bool := rdOf false m (vab n - 1) == decide (0 < n)
set_option maxHeartbeats 8000000 in
set_option maxRecDepth 100000 in
theorem impl_holds_1_calls (n : Int) (B : Nat) (A : Option Addr) (c : Nat) (m : List Bool) (w : World) (hr : Kd.C Kd.bool w A m.length m) (hc : w.cell? ⟨B, 0, none⟩ = some (.slice A m.length c)) (h0 : 1 ≤ vab n) (h1 : vab n ≤ (m.length : Int)) :
  Calls Try.prog 112 (#[.int .i64 n] ++ #[.pointer (some ⟨B, 0, none⟩)]) w fun e w' => e = .returned (.bool (litAt m n)) ∧ ∃ q, w' = w.drewN q := by
 obtain ⟨ad, e101, hx⟩ := Kd.at_bool hr (vab n - 1) (by omega) (by omega)
 cases e101
 have hlen := hr.2.1
 obtain ⟨b, hb⟩ : ∃ b, rdOf false m (vab n - 1) = b := ⟨_, rfl⟩
 have HG := Aside0.mk (show litAt m n = (b == decide (0 < n)) by unfold litAt; rw [hb])
 rw [hb] at hx
 obtain ⟨v, hv⟩ : ∃ v, vab n = v := ⟨_, rfl⟩
 have HV := Aside0.mk (show impl_variable.f n = some v by rw [impl_variable_val, hv])
 rw [hv] at hx h0 h1
 clear hb hr hv
 obtain ⟨j, hj⟩ : ∃ j, v - 1 = j := ⟨_, rfl⟩
 have hw1 : IntKind.i64.wrap (v - 1) = j := by
  rw [IntKind.wrap_i64]
  omega
 rw [hj] at hx
 have q1 := eq_true (show 0 ≤ j by omega)
 have q2 := eq_true (show j < (m.length : Int) by omega)
 have q1b : decide (0 ≤ j) = true := decide_eq_true (of_eq_true q1)
 have q2b : decide (j < (m.length : Int)) = true := decide_eq_true (of_eq_true q2)
 clear h0 h1 hlen hj
 show Calls Try.prog 112 #[.int .i64 n, .pointer (some ⟨B, 0, none⟩)] w _
 rw [HG.out]
 go_enter Try.func112, Try.ntmps112
 go_wp2
 go_quiet ((go_at_call 99; exact given_quiet2 (impl_variable.calls n v _ HV.out)))
 go_wp2
 go_ret
 exact ⟨by first | rfl | simp, _, rfl⟩


/-! ### impl_holds: function 83 -/
def fitsModel (l : List (List Int)) (m : List Bool) : Bool := l.all fun c => c.all fun n => decide (1 ≤ vab n) && decide (vab n ≤ (m.length : Int))
def holdsB (l : List (List Int)) (m : List Bool) : Bool := l.all fun c => c.any (litAt m)
def impl_holds.f (l0 : List (List Int)) (l1 : List Bool) : Option (Bool) := if fitsModel l0 l1 = true then some (holdsB l0 l1) else none
set_option maxHeartbeats 8000000 in
set_option maxRecDepth 100000 in
theorem impl_holds.calls (A0 : Option Addr) (c0 : Nat) (l0 : List (List Int)) (A1 : Option Addr) (c1 : Nat) (l1 : List Bool) (r : Bool) (w : World) (hr0 : Kd.C (Kd.slice 3 (Kd.int .i64)) w A0 l0.length l0) (hc0 : l0.length ≤ c0) (hr1 : Kd.C Kd.bool w A1 l1.length l1) (hc1 : l1.length ≤ c1) (h : impl_holds.f l0 l1 = some r) :
  Calls Try.prog 83 #[.slice A0 l0.length c0, .slice A1 l1.length c1] w fun e w' => e = .returned (.bool r) ∧ Below w.heap.size w w' := by
 have HR0 := Aside0.mk hr0
 have HR1 := Aside0.mk hr1
 have HL := Aside0.mk hr0.2.1
 clear hr0 hc0 hr1 hc1
 unfold impl_holds.f at h
 by_cases hfit : fitsModel l0 l1 = true
 ·rw [if_pos hfit] at h
  have HFit := Aside0.mk hfit
  have HR := Aside0.mk (Option.some.inj h)
  clear hfit h
  have HB := Aside0.mk (Below.refl w.heap.size w)
  have eg := enters_of Try.func112 (by kernel_rfl) rfl
  go_enter Try.func83, Try.ntmps83
  go_wp2_with ((with_reducible refine gate_dst (N := 3) rfl ?_); refine box_event ?hg (N := 3) ?hd (cs := #[.slice A1 l1.length c1]) (t := 40) ?hr ?_; (case hd => rfl); (case hg => rfl); (case hr => first | (go_simp; done) | (go_simp; rfl)); intro gb hg w2 hbox hb; have n0_ := Aside0.mk (below_step (zb_ HB.out) hb); have n1_ := Aside0.mk (blk_cell hbox 0); have n2_ := Aside0.mk (Kd.C_below HR0.out hb); have n3_ := Aside0.mk (Kd.C_below HR1.out hb); clear HB HR0 HR1; have HB := n0_; have BK := n1_; have HR0 := n2_; have HR1 := n3_; clear n0_ n1_ n2_ n3_; clear hb hbox hg)
  go_loopg [9] l0.length (fun kq v9 w' => ∃ (x : Int), v9 = .int .i64 x ∧ Aside0 (0 ≤ x ∧ x ≤ (l0.length : Int) ∧ (l0.length : Int) - x ≤ kq ∧ (l0.drop x.toNat).all (fun c => c.any (litAt l1)) = r) ∧ Drawn0 w2 w')
  case atStart => exact ⟨0, rfl, ⟨by omega, by omega, by omega, HR.out⟩, by repeat (first | exact Drawn0.refl _ | apply Drawn0.step)⟩
  case round =>
   clear HR
   obtain ⟨x, rfl, HA, ⟨m1, rfl⟩⟩ := hrel
   by_cases c3 : x < (l0.length : Int)
   ·have c3b0 : decide (x < (l0.length : Int)) = true := decide_eq_true c3
    have p101 : 0 ≤ x := HA.out.1
    have q101 := c3
    obtain ⟨ad101, A9, c9, e101, hx101_0, hl9, hr9⟩ := given_at_row HR0.out x p101 q101
    cases e101
    have hmem : rowAt_ l0 x ∈ l0 := by
     unfold rowAt_
     rw [List.getD_eq_getElem?_getD, List.getElem?_eq_getElem (show x.toNat < l0.length by omega)]
     exact List.getElem_mem _
    have hdrop : l0.drop x.toNat = rowAt_ l0 x :: l0.drop (x + 1).toNat := by
     have hl : x.toNat < l0.length := by omega
     rw [List.drop_eq_getElem_cons hl, show (x + 1).toNat = x.toNat + 1 by omega]
     unfold rowAt_
     rw [List.getD_eq_getElem?_getD, List.getElem?_eq_getElem hl]
     rfl
    have hin : ∀ n ∈ rowAt_ l0 x, 1 ≤ vab n ∧ vab n ≤ (l1.length : Int) := by
     have h1 := HFit.out
     unfold fitsModel at h1
     have h2 := List.all_eq_true.1 h1 _ hmem
     intro n hn
     have h3 := List.all_eq_true.1 h2 n hn
     simpa [Bool.and_eq_true] using h3
    have HIN := Aside0.mk hin
    have HW := Aside0.mk (show wrap64 (x + 1) = x + 1 by have := HL.out; unfold wrap64; omega)
    have HR9 := Aside0.mk hr9
    have HD := Aside0.mk hdrop
    have HQ := Aside0.mk c3
    clear hmem c3 hr9 hl9 hin hdrop
    replace p101 := eq_true p101
    replace q101 := eq_true q101
    cases hany : (rowAt_ l0 x).any (litAt l1) with
    | false =>
     have HY := Aside0.mk hany
     have HF := Aside0.mk (show r = false by rw [← HA.out.2.2.2, HD.out, List.all_cons, hany]; rfl)
     clear hany HA
     obtain rfl := HF.out
     go_wp2_with (go_at_call 91; refine (slices_ContainsFunc_int_calls (litAt l1) 112 #[.pointer (some ⟨gb, 0, none⟩)] eg _ _ (rowAt_ l0 x) _ ?s1 ?s2).mono ?_; (case s1 => exact zC_ HR9.out); (case s2 => exact fun z q hz => impl_holds_1_calls z gb A1 c1 l1 _ (Kd.C_drewN (Kd.C_drewN HR1.out _) _) BK.out (HIN.out z hz).1 (HIN.out z hz).2); rintro e w' ⟨he, ⟨nd2, rfl⟩⟩; rw [HY.out] at he; subst he)
     go_ret
     exact ⟨rfl, zb_ HB.out⟩
    | true =>
     have HY := Aside0.mk hany
     have HF := Aside0.mk (show (l0.drop (x + 1).toNat).all (fun c => c.any (litAt l1)) = r by rw [← HA.out.2.2.2, HD.out, List.all_cons, hany]; rfl)
     clear hany
     go_wp2_with (go_at_call 91; refine (slices_ContainsFunc_int_calls (litAt l1) 112 #[.pointer (some ⟨gb, 0, none⟩)] eg _ _ (rowAt_ l0 x) _ ?s1 ?s2).mono ?_; (case s1 => exact zC_ HR9.out); (case s2 => exact fun z q hz => impl_holds_1_calls z gb A1 c1 l1 _ (Kd.C_drewN (Kd.C_drewN HR1.out _) _) BK.out (HIN.out z hz).1 (HIN.out z hz).2); rintro e w' ⟨he, ⟨nd2, rfl⟩⟩; rw [HY.out] at he; subst he)
     go_roundg (gk - 1)
     case measure => have := HA.out.2.2.1; have := HQ.out; omega
     case rel => exact ⟨x + 1, by first | rfl | (rw [← HW.out]; done) | (rw [HW.out]; done) | simp [HW.out], ⟨by have := HA.out.1; omega, by have := HQ.out; omega, by have := HA.out.2.2.1; have := HQ.out; omega, HF.out⟩, by repeat (first | exact Drawn0.refl _ | apply Drawn0.step)⟩
   ·have c3b0 : decide (x < (l0.length : Int)) = false := decide_eq_false c3
    have hx : x = (l0.length : Int) := by have := HA.out.2.1; omega
    have HF := Aside0.mk (show r = true by rw [← HA.out.2.2.2, hx]; simp)
    clear hx c3 HA
    obtain rfl := HF.out
    go_wp2
    go_ret
    exact ⟨rfl, zb_ HB.out⟩
 ·rw [if_neg hfit] at h
  exact absurd h (by simp)


/-! ### impl_model: function 100 -/
def impl_model.l0 : Nat → Int → List Bool → Int → Int → Option (List Bool)
 | 0, _, _, _, _ => none
 | k + 1, x1, x5, x10, x11 => if x11 < x10 then (if 0 ≤ x11 then (if x11 < (x5.length : Int) then (impl_model.l0 k x1 (x5.set (x11 : Int).toNat ((Go.bits .and .i64 (shr .i64 x1 x11) 1) == 1)) x10 (wrap64 (x11 + 1))) else (none)) else (none)) else (some x5)
def impl_model.f (k : Nat) (a0 : Int) (a1 : Int) : Option (List Bool) := if 0 ≤ a0 then (if (a0 : Int).toNat ≤ 281474976710656 then ((some (List.replicate (a0 : Int).toNat false : List Bool)).bind fun y142 => (impl_model.l0 k a1 y142 (y142.length : Int) 0)) else (none)) else (none)
theorem impl_model.mono_l : ∀ k, (∀ y0 y1 y2 y3, LeO (impl_model.l0 k y0 y1 y2 y3) (impl_model.l0 (k + 1) y0 y1 y2 y3))
 | 0 => fun _ _ _ _ r h => by simp [impl_model.l0] at h
 | k + 1 => by
  have ih0 := impl_model.mono_l k
  ·intro y0 y1 y2 y3
   unfold impl_model.l0
   repeat' first
   | (with_reducible exact ih0 _ _ _ _)
   | (with_reducible exact LeO.refl _)
   | (with_reducible exact LeO.none _)
   | (with_reducible refine LeO.ite ?_ ?_)
   | (with_reducible refine LeO.bind ?_ (fun _ => ?_))
   | exact ih0 _ _ _ _
   | exact LeO.none _
   | refine LeO.ite ?_ ?_
   | refine LeO.bind ?_ (fun _ => ?_)
theorem impl_model.mono : ∀ a0 a1 k, LeO (impl_model.f k a0 a1) (impl_model.f (k + 1) a0 a1) := by
 intro a0 a1 k
 have ih0 := impl_model.mono_l k
 unfold impl_model.f
 repeat' first
   | (with_reducible exact ih0 _ _ _ _)
   | (with_reducible exact LeO.refl _)
   | (with_reducible exact LeO.none _)
   | (with_reducible refine LeO.ite ?_ ?_)
   | (with_reducible refine LeO.bind ?_ (fun _ => ?_))
   | exact ih0 _ _ _ _
   | exact LeO.none _
   | refine LeO.ite ?_ ?_
   | refine LeO.bind ?_ (fun _ => ?_)
set_option maxHeartbeats 8000000 in
set_option maxRecDepth 100000 in
theorem impl_model.calls (k : Nat) (a0 : Int) (a1 : Int) (r : List Bool) (w : World) (h : impl_model.f k a0 a1 = some r) :
  Calls Try.prog 100 #[.int .i64 a0, .int .i64 a1] w fun e w' => ∃ v0_ : Value, e = .returned (v0_) ∧ Kd.R Kd.bool 4 w' w.heap.size (fun _ => True) v0_ r ∧ Below w.heap.size w w' := by
 have HB := Aside0.mk (Below.refl w.heap.size w)
 have H : (if 0 ≤ a0 then (if (a0 : Int).toNat ≤ 281474976710656 then ((some (List.replicate (a0 : Int).toNat false : List Bool)).bind fun y142 => (impl_model.l0 k a1 y142 (y142.length : Int) 0)) else (none)) else (none)) = some r := h
 clear h
 by_cases c3 : 0 ≤ a0
 ·rw [if_pos c3] at H
  have c3b0 := eq_true c3
  have c3b1 : decide (0 ≤ a0) = true := decide_eq_true c3
  clear c3
  by_cases c4 : (a0 : Int).toNat ≤ 281474976710656
  ·rw [if_pos c4] at H
   have c4b0 := eq_true c4
   have c4b1 : decide ((a0 : Int).toNat ≤ 281474976710656) = true := decide_eq_true c4
   clear c4
   obtain ⟨y142, hy142⟩ : ∃ y_ : List Bool, y_ = (List.replicate (a0 : Int).toNat false) := ⟨_, rfl⟩
   replace H : (impl_model.l0 k a1 y142 (y142.length : Int) 0) = some r := by first | (rw [hy142]; with_reducible exact H) | (have H2_ := (Option.bind_some _ _).symm.trans H; rw [hy142]; with_reducible exact H2_) | (have H2_ := (Option.bind_some _ _).symm.trans H; with_reducible exact H2_) | with_reducible exact H | (rw [hy142]; exact H) | exact H
   have Ny142 := Aside0.mk hy142
   clear hy142
   have H' := Aside0.mk H
   clear H
   go_enter Try.func100, Try.ntmps100
   go_wp2_with (first | ((with_reducible refine gate_dst (N := 8) rfl ?_); refine Kd.R_make Kd.bool _ 4 rfl (N := 8) rfl 40 _ _ rfl a0 rfl rfl Try.underlying40 (.bool false) 1 info4 rfl (by decide) (by omega) false (ok := fun _ => True) (okp := fun _ => True) rfl (fun _ hk => hk) trivial (of_decide_eq_true (by first | (with_reducible assumption) | assumption)) (Nat.le_trans (Nat.mul_le_mul_right _ (of_decide_eq_true (by first | (with_reducible assumption) | assumption) : a0.toNat ≤ 281474976710656)) (by omega)) (Below.refl _ _) (Nat.le_refl _) ?_; intro v143 w5 ho6 hb hg_ hnew_; clear hg_ hnew_; (first | rw [← Ny142.out] at ho6 | (simp only [Int.reduceToNat] at ho6; rw [← Ny142.out] at ho6)); have n0_ := Aside0.mk (Kd.R_lower ho6 (below_size (zb_ HB.out))); have n1_ := Aside0.mk (below_step (zb_ HB.out) hb); clear HB; have HO144 := n0_; have HB := n1_; clear n0_ n1_; clear hb ho6; obtain ⟨Ao7, co7, eo7⟩ := Kd.R_slice HO144.out; subst eo7))
   go_loopg [11] k (fun kq v11 w' => ∃ (x5_1 : List Bool) (x11_1 : Int), v11 = .int .i64 x11_1 ∧ Aside0 (impl_model.l0 kq a1 x5_1 (y142.length : Int) x11_1 = some r) ∧ Aside0 (kq ≤ k) ∧ Aside0 (Kd.R Kd.bool 4 w' w.heap.size (fun _ => True) (.slice Ao7 y142.length co7) x5_1) ∧ Aside0 (Below w.heap.size w w'))
   case atStart => exact ⟨(y142), (0), (by first | rfl | (simp; done) | (simp [*]; done)), H', ⟨Nat.le_refl _⟩, ⟨zR_ HO144.out⟩, ⟨zb_ HB.out⟩⟩
   case round =>
    clear H'
    try clear c1
    try clear p2
    try clear c3
    try clear c3b0
    try clear c3b1
    try clear c4
    try clear c4b0
    try clear c4b1
    obtain ⟨x5_1, x11_1, rfl, HA, HK1, HO_5, HB⟩ := hrel
    have hl5_1 := (Kd.R_reads' HO_5.out).1
    rw [hl5_1] at HO_5
    (try simp only [hl5_1])
    cases gk with
    | zero => exact absurd HA.out (by simp [impl_model.l0])
    | succ k1 =>
     have H := HA.out
     clear HA
     simp only [impl_model.l0] at H
     by_cases c8 : x11_1 < (y142.length : Int)
     ·rw [if_pos c8] at H
      have c8b0 : decide (x11_1 < (y142.length : Int)) = true := decide_eq_true c8
      clear c8
      by_cases c9 : 0 ≤ x11_1
      ·rw [if_pos c9] at H
       have c9b0 := eq_true c9
       have c9b1 : decide (0 ≤ x11_1) = true := decide_eq_true c9
       clear c9
       obtain ⟨ji10, hji10⟩ : ∃ j_ : Int, (shr .i64 a1 x11_1) = j_ := ⟨_, rfl⟩
       replace H : (if x11_1 < (x5_1.length : Int) then (impl_model.l0 k1 a1 (x5_1.set (x11_1 : Int).toNat ((Go.bits .and .i64 (ji10) 1) == 1)) (y142.length : Int) (wrap64 (x11_1 + 1))) else (none)) = some r := by first | (rw [hji10] at H; exact H) | (simp only [hji10] at H ⊢; exact H)
       have hji10_ : (a1 / 2 ^ min x11_1.toNat 64) = ji10 := hji10
       have hji10z : x11_1 ≤ 64 → (a1 / 2 ^ x11_1.toNat) = ji10 := shr_small hji10
       by_cases c11 : x11_1 < (x5_1.length : Int)
       ·rw [if_pos c11] at H
        have c11b0 : decide (x11_1 < (x5_1.length : Int)) = true := decide_eq_true c11
        clear c11
        obtain ⟨y145, hy145⟩ : ∃ y_ : List Bool, y_ = (x5_1.set (x11_1 : Int).toNat ((Go.bits .and .i64 (ji10) 1) == 1)) := ⟨_, rfl⟩
        replace H : (impl_model.l0 k1 a1 y145 (y142.length : Int) (wrap64 (x11_1 + 1))) = some r := by first | (rw [hy145]; with_reducible exact H) | (have H2_ := (Option.bind_some _ _).symm.trans H; rw [hy145]; with_reducible exact H2_) | (have H2_ := (Option.bind_some _ _).symm.trans H; with_reducible exact H2_) | with_reducible exact H | (rw [hy145]; exact H) | exact H
        have Ny145 := Aside0.mk hy145
        clear hy145
        have H' := Aside0.mk H
        clear H
        have p12 : 0 ≤ (x11_1 : Int) := of_decide_eq_true (by first | (with_reducible assumption) | assumption)
        have q12 : (x11_1 : Int) < ((x5_1.length : Int) : Int) := of_decide_eq_true (by first | (with_reducible assumption) | assumption)
        obtain ⟨go12, co12, eo12, gb12, gl12, cl12, HG12⟩ := Kd.R_form HO_5.out (by omega)
        (first | cases eo12 | (injection eo12 with ea_ en_ ec_; (first | subst ea_ | (injection ea_ with ea_; subst ea_)); subst ec_; clear en_))
        have GB12 := Aside0.mk gb12
        have GG12 := Aside0.mk HG12
        clear gb12 gl12 HG12
        obtain ⟨hx12_0, hf12_0⟩ := Kd.R_celln false HO_5.out (x11_1 : Int) p12 q12
        replace p12 := eq_true p12
        replace q12 := eq_true q12
        have HP13 := Kd.R_putg HO_5.out (x11_1 : Int) ((Go.bits .and .i64 (ji10) 1) == 1)
        go_wp2_with (first | ((with_reducible refine gate_store (t := 4) (p := 21) rfl ?_); refine store_event (t := 4) (p := 21) (v := ?vo_w14) (w1 := (wr.setCell ⟨go12, (x11_1 : Int).toNat, none⟩ (.bool ((Go.bits .and .i64 (ji10) 1) == 1)))) ?hg ?ho ?hn ?hr ?_; (case ho => rfl); (case hg => rfl); (case hn => rfl); (case hr => first | (go_simp; done) | (go_simp; rfl)); intro w14 hw; have hg : wr.grownBy w14 (some go12) := (by rw [hw]; exact HP13.2); have hp_ : Kd.R Kd.bool 4 w14 w.heap.size (fun _ => True) (.slice (some ⟨go12, 0, none⟩) x5_1.length co7) y145 := (by rw [hw, Ny145.out]; exact HP13.1); clear HP13; have n0_ := Aside0.mk (hp_); have n1_ := Aside0.mk ((by rw [hw]; exact below_set (HB.out) GB12.out : Below w.heap.size w w14)); clear HO_5; clear HB; have HO_5 := n0_; have HB := n1_; clear n0_ n1_; clear hg hw hp_))
        (try simp only [← hl5_1])
        go_roundg k1
        case measure => have := HK1.out; omega
        case rel => exact ⟨(y145), (wrap64 (x11_1 + 1)), (by first | rfl | (simp; done) | (simp [*]; done)), H', ⟨by have := HK1.out; omega⟩, ⟨by (try simp only [hl5_1]); (with_reducible repeat (first | apply Kd.R_alloc | apply Kd.R_drewN | apply Kd.R_drew)); exact HO_5.out⟩, ⟨zb_ HB.out⟩⟩
       ·rw [if_neg c11] at H
        exact absurd H (by simp)
      ·rw [if_neg c9] at H
       exact absurd H (by simp)
     ·rw [if_neg c8] at H
      have c8b0 : decide (x11_1 < (y142.length : Int)) = false := decide_eq_false c8
      have c8b0h := c8b0
      (try simp only [hl5_1] at c8b0h)
      clear c8
      obtain rfl := Option.some.inj H
      go_wp2
      go_ret
      exact ⟨_, by first | rfl | (simp [errW_none, errW_some] <;> rfl) | (simp [*, errW_none, errW_some] <;> rfl), zR_ HO_5.out, zb_ HB.out⟩
  ·rw [if_neg c4] at H
   exact absurd H (by simp)
 ·rw [if_neg c3] at H
  exact absurd H (by simp)

end Go.Proofs.Ytpkbjgmeejlchab.PFnSolved
-- squeezed
