-- Made by a program of this session (wip/tools), which leans on the kit's print: checked by Lean alone.
import Derived.Test.YtpkbjgmeejlchabPFnFollowsx0
import Derived.Test.YtpkbjgmeejlchabPFnFollowsx1
import Derived.Test.YtpkbjgmeejlchabPFnFollowsx3
import Derived.Test.YtpkbjgmeejlchabPFnFollowsx6
import Derived.Test.YtpkbjgmeejlchabPFnFollowsx7
namespace Go.Proofs.Ytpkbjgmeejlchab.PFnFollows
open Go.RowKit Go.Proofs.YtpkbjgmeejlchabW.PrintWords Go.Proofs.YtpkbjgmeejlchabW.PrintLast Go.Proofs.YtpkbjgmeejlchabW.PrintMore
attribute [local go_sem] max2_int min2_int max_two min_two max_three min_three max_four min_four   -- for this text's walks alone
set_option linter.unusedVariables false
set_option linter.unusedSimpArgs false
def impl_solve.l1 : Nat → List Int → List Bool → Int → Option (List Bool)
 | 0, _, _, _ => none
 | k + 1, y, m, x => if x < (y.length : Int) then (if 0 ≤ x then (if 1 ≤ vab (rd y x) ∧ vab (rd y x) ≤ (m.length : Int) then impl_solve.l1 k y (m.set (vab (rd y x) - 1).toNat (decide (0 < rd y x))) (wrap64 (x + 1)) else none) else none) else some m
def impl_solve.l0 : Nat → Int → List (List Int) → List (List Int) → List Int → Option (Bool × List Bool × List (List Int) × Bool)
 | 0, _, _, _, _ => none
 | k + 1, v, l, L, D => if l.length + L.length < 4398046511104 then ((impl_propagate.f k (l ++ L) D).bind fun p => if p.2 = true then ((impl_learn.f k D).bind fun c => if (L ++ [c]).length > 300 then some (false, [], [], false) else if D.length = 0 then some (false, [], L ++ [c], true) else impl_solve.l0 k v l (L ++ [c]) (D.take (D.length - 1))) else ((impl_decide.f k v p.1).bind fun u => if u.2 = true then (if D.length < 4398046511104 then impl_solve.l0 k v l L (D ++ [u.1]) else none) else (if 0 ≤ v ∧ v ≤ 4398046511104 then ((impl_solve.l1 k p.1 (List.replicate v.toNat false) 0).bind fun m => some (true, m, L, true)) else none))) else none
def impl_solve.f (k : Nat) (a0 : Int) (l1 : List (List Int)) : Option (Bool × List Bool × List (List Int) × Bool) := impl_solve.l0 k a0 l1 [] []
theorem impl_solve.mono_l1 : ∀ k, (∀ y0 y1 y2, LeO (impl_solve.l1 k y0 y1 y2) (impl_solve.l1 (k + 1) y0 y1 y2))
 | 0 => fun _ _ _ r h => by simp [impl_solve.l1] at h
 | k + 1 => by
  have ih0 := impl_solve.mono_l1 k
  ·intro y0 y1 y2
   unfold impl_solve.l1
   repeat' first
   | (with_reducible exact ih0 _ _ _)
   | (with_reducible exact LeO.refl _)
   | (with_reducible exact LeO.none _)
   | (with_reducible refine LeO.ite ?_ ?_)
   | (with_reducible refine LeO.bind ?_ (fun _ => ?_))
theorem impl_solve.mono_l : ∀ k, (∀ y0 y1 y2 y3, LeO (impl_solve.l0 k y0 y1 y2 y3) (impl_solve.l0 (k + 1) y0 y1 y2 y3))
 | 0 => fun _ _ _ _ r h => by simp [impl_solve.l0] at h
 | k + 1 => by
  have ih0 := impl_solve.mono_l k
  ·intro y0 y1 y2 y3
   unfold impl_solve.l0
   repeat' first
   | (with_reducible exact ih0 _ _ _ _)
   | (with_reducible exact impl_solve.mono_l1 _ _ _ _)
   | (with_reducible exact impl_propagate.mono _ _ _)
   | (with_reducible exact impl_learn.mono _ _)
   | (with_reducible exact impl_decide.mono _ _ _)
   | (with_reducible exact LeO.refl _)
   | (with_reducible exact LeO.none _)
   | (with_reducible refine LeO.ite ?_ ?_)
   | (with_reducible refine LeO.bind ?_ (fun _ => ?_))
theorem impl_solve.mono : ∀ a0 a1 k, LeO (impl_solve.f k a0 a1) (impl_solve.f (k + 1) a0 a1) := by
 intro a0 a1 k
 exact impl_solve.mono_l k _ _ _ _
set_option maxHeartbeats 2000000 in
set_option maxRecDepth 100000 in
theorem impl_solve.calls (k : Nat) (a0 : Int) (A1 : Option Addr) (c1 : Nat) (l1 : List (List Int)) (r1 : Bool) (r2 : List Bool) (r3 : List (List Int)) (r4 : Bool) (w : World) (hr1 : Kd.C (Kd.slice 3 (Kd.int .i64)) w A1 l1.length l1) (hc1 : l1.length ≤ c1) (h : impl_solve.f k a0 l1 = some (r1, r2, r3, r4)) :
  Calls Try.prog 73 #[.int .i64 a0, .slice A1 l1.length c1] w fun e w' => ∃ v1_ v2_ : Value, e = .returned (.tuple #[.bool r1, v1_, v2_, .bool r4]) ∧ Kd.R Kd.bool 4 w' w.heap.size (fun _ => True) v1_ r2 ∧ Kd.S (Kd.slice 3 (Kd.int .i64)) 24 w' w.heap.size (fun _ => True) v2_ r3 ∧ Below w.heap.size w w' := by
 have HR1 := Aside0.mk hr1
 have HC1 := Aside0.mk hc1
 clear hr1 hc1
 have HB := Aside0.mk (Below.refl w.heap.size w)
 have H' := Aside0.mk (show impl_solve.l0 k a0 l1 [] [] = some (r1, r2, r3, r4) from h)
 clear h
 go_enter Try.func73, Try.ntmps73
 go_wp2
 go_loopg [8, 9] k (fun kq v8 v9 w' => ∃ (D : List Int) (L : List (List Int)), Aside0 (impl_solve.l0 kq a0 l1 L D = some (r1, r2, r3, r4)) ∧ Aside0 (kq ≤ k) ∧ Aside0 (Kd.R (Kd.int .i64) 3 w' w.heap.size (fun _ => True) v8 D) ∧ Aside0 (Kd.S (Kd.slice 3 (Kd.int .i64)) 24 w' w.heap.size (fun k_ => True ∧ some k_ ≠ v8.ownBlock) v9 L) ∧ Aside0 (Below w.heap.size w w'))
 case atStart => exact ⟨[], [], H', ⟨Nat.le_refl _⟩, ⟨Kd.R_nil _ _ _ _ _⟩, ⟨Kd.S_nil _ _ _ _ _⟩, ⟨zb_ HB.out⟩⟩
 case round =>
  clear H' HB
  obtain ⟨D, L, HA, HK, HOD, HOL, HB⟩ := hrel
  obtain ⟨Ad, cd, ed⟩ := Kd.R_slice HOD.out
  subst ed
  obtain ⟨Al, cl, el⟩ := Kd.S_slice HOL.out
  subst el
  cases gk with
  | zero => exact absurd HA.out (by simp [impl_solve.l0])
  | succ k1 =>
   have h := HA.out
   clear HA
   simp only [impl_solve.l0] at h
   by_cases c0 : l1.length + L.length < 4398046511104
   ·rw [if_pos c0] at h
    obtain ⟨y, hy⟩ : ∃ y, y = l1 ++ L := ⟨_, rfl⟩
    have HY := Aside0.mk (show slices_Concat_rows [l1, L] = some y by unfold slices_Concat_rows; rw [if_pos (by simpa using c0), hy]; simp)
    rw [← hy] at h
    have LML := Aside0.mk (show L.length < 4398046511104 by omega)
    clear c0 hy
    replace h := Option.bind_eq_some_iff.mp h
    obtain ⟨⟨p1, p2⟩, A1', h⟩ := h
    have G1 := Aside0.mk A1'
    clear A1'
    cases p2 with
    | true =>
     replace h : ((impl_learn.f k1 D).bind fun c => if (L ++ [c]).length > 300 then some (false, [], [], false) else if D.length = 0 then some (false, [], L ++ [c], true) else impl_solve.l0 k1 a0 l1 (L ++ [c]) (D.take (D.length - 1))) = some (r1, r2, r3, r4) := h
     replace h := Option.bind_eq_some_iff.mp h
     obtain ⟨c, A2', h⟩ := h
     have G2 := Aside0.mk A2'
     obtain ⟨y8, hy8⟩ : ∃ y_, y_ = L ++ [c] := ⟨_, rfl⟩
     rw [← hy8] at h
     have NY8 := Aside0.mk hy8
     clear A2' hy8
     by_cases c3 : y8.length > 300
     ·rw [if_pos c3] at h
      obtain ⟨rfl, rfl, rfl, rfl⟩ : false = r1 ∧ [] = r2 ∧ [] = r3 ∧ false = r4 := by simpa using h
      have d1 : decide (300 < y8.length) = true := decide_eq_true c3
      have d2 : decide (300 < (y8.length : Int)) = true := decide_eq_true (by omega)
      clear h c3
      go_wp2_with (first | (go_at_call 71; (with_reducible refine (slices_Concat_two_calls _ _ l1 L y _ ?side1 ?side2 HY.out).mono ?_); (case side1 => exact C_two_ _ _ _ _ _ _ _ _ (Kd.C_below HR1.out HB.out) HC1.out (Kd.S_reads' HOL.out).2.2 (Kd.S_reads' HOL.out).2.1); (case side2 => exact Nat.le_refl _); rintro e w5 ⟨v5, rfl, ho, hb⟩; obtain ⟨A5, c5, e5, hl5, hr5⟩ := R_came_ ho hb; subst e5; have HR5 := Aside0.mk hr5; have HC5 := Aside0.mk hl5; clear hr5 hl5 ho; have mHOD_ := Aside0.mk (Kd.R_below (zR_ HOD.out : Kd.R (Kd.int .i64) 3 _ w.heap.size (fun _ => True) (.slice Ad D.length cd) D) hb); have mHOL_ := Aside0.mk (Kd.S_below (zS_ HOL.out : Kd.S (Kd.slice 3 (Kd.int .i64)) 24 _ w.heap.size (fun k_ => True ∧ some k_ ≠ (.slice Ad D.length cd : Value).ownBlock) (.slice Al L.length cl) L) hb); have mHB_ := Aside0.mk (below_step (zb_ HB.out) hb); clear HOD HOL HB; have HOD := mHOD_; have HOL := mHOL_; have HB := mHB_; clear mHOD_ mHOL_ mHB_; clear hb) | (go_at_call 77; (with_reducible refine (impl_propagate.calls k1 _ _ y _ _ D p1 _ _ ?side1 ?side2 ?side3 ?side4 G1.out).mono ?_); (case side1 => exact zC_ HR5.out); (case side2 => exact HC5.out); (case side3 => exact zC_ (Kd.R_reads' HOD.out).2.2); (case side4 => exact (Kd.R_reads' HOD.out).2.1); rintro e w6 ⟨v6, rfl, ho, hb⟩; have HOP := Aside0.mk (Kd.R_lower ho (below_size (zb_ HB.out))); obtain ⟨Ap, cp, ep⟩ := Kd.R_slice HOP.out; subst ep; have mHOD_ := Aside0.mk (Kd.R_below (zR_ HOD.out : Kd.R (Kd.int .i64) 3 _ w.heap.size (fun _ => True) (.slice Ad D.length cd) D) hb); have mHOL_ := Aside0.mk (Kd.S_below (zS_ HOL.out : Kd.S (Kd.slice 3 (Kd.int .i64)) 24 _ w.heap.size (fun k_ => True ∧ some k_ ≠ (.slice Ad D.length cd : Value).ownBlock) (.slice Al L.length cl) L) hb); have mHB_ := Aside0.mk (below_step (zb_ HB.out) hb); clear HOD HOL HB; have HOD := mHOD_; have HOL := mHOL_; have HB := mHB_; clear mHOD_ mHOL_ mHB_; clear ho hb) | (go_at_call 59; (with_reducible refine (impl_learn.calls k1 _ _ D c _ ?side1 ?side2 G2.out).mono ?_); (case side1 => exact zC_ (Kd.R_reads' HOD.out).2.2); (case side2 => exact (Kd.R_reads' HOD.out).2.1); rintro e w7 ⟨v7, rfl, ho, hb⟩; have HX7 := Aside0.mk (show ∀ k_, some k_ = v7.ownBlock → some k_ ≠ (.slice Ad D.length cd : Value).ownBlock ∧ some k_ ≠ (.slice Al L.length cl : Value).ownBlock from fun k_ h_ => ⟨fun e_ => Nat.lt_irrefl _ (Nat.lt_of_lt_of_le (Kd.R_lt (zR_ HOD.out : Kd.R (Kd.int .i64) 3 _ w.heap.size (fun _ => True) (.slice Ad D.length cd) D) k_ e_.symm) (Kd.R_base ho k_ h_.symm)), fun e_ => Nat.lt_irrefl _ (Nat.lt_of_lt_of_le (Kd.S_lt (zS_ HOL.out : Kd.S (Kd.slice 3 (Kd.int .i64)) 24 _ w.heap.size (fun k_ => True ∧ some k_ ≠ (.slice Ad D.length cd : Value).ownBlock) (.slice Al L.length cl) L) k_ e_.symm) (Kd.R_base ho k_ h_.symm))⟩); have HOL7 := Aside0.mk (Kd.S_elder' (zS_ HOL.out : Kd.S (Kd.slice 3 (Kd.int .i64)) 24 _ w.heap.size (fun k_ => True ∧ some k_ ≠ (.slice Ad D.length cd : Value).ownBlock) (.slice Al L.length cl) L) (Kd.R_base ho) hb); have HO7 := Aside0.mk (Kd.R_lower ho (below_size (zb_ HB.out))); obtain ⟨A7, c7, e7⟩ := Kd.R_slice HO7.out; subst e7; have mHOD_ := Aside0.mk (Kd.R_below (zR_ HOD.out : Kd.R (Kd.int .i64) 3 _ w.heap.size (fun _ => True) (.slice Ad D.length cd) D) hb); have mHB_ := Aside0.mk (below_step (zb_ HB.out) hb); clear HOD HB; have HOD := mHOD_; have HB := mHB_; clear mHOD_ mHB_; clear ho hb HOL) | ((with_reducible refine gate_builtin (b := .append) (xs := #[.tmp 27, .tmp 30]) rfl ?_); at_builtin; refine Kd.S_append (Kd.slice 3 (Kd.int .i64)) (w0 := w) w.heap.size rfl (.tmp 27) (.tmp 30) 23 24 (.slice none 0 0) 24 rfl Try.underlying23 info24 rfl (by decide) (by omega) (.slice Al L.length cl) L c [.slice A7 c.length c7] (fun k_ => True ∧ some k_ ≠ (.slice Ad D.length cd : Value).ownBlock) (fun k_ => some k_ = (.slice A7 c.length c7 : Value).ownBlock) rfl rfl ?aP ?aK ?aF ?aO ?aB ?aS ?aL ?_; (case aP => exact Kd.M_row (Kd.R_tight rfl (zR_ HO7.out : Kd.R (Kd.int .i64) 3 _ w.heap.size (fun _ => True) (.slice A7 c.length c7) c))); (case aK => exact fun k_ hk_ => ⟨⟨trivial, (HX7.out k_ hk_).1⟩, (HX7.out k_ hk_).2⟩); (case aF => exact fun k_ hk_ => ⟨trivial, fun e_ => Nat.lt_irrefl _ (Nat.lt_of_lt_of_le (Kd.R_lt (zR_ HOD.out : Kd.R (Kd.int .i64) 3 _ w.heap.size (fun _ => True) (.slice Ad D.length cd) D) k_ e_.symm) hk_)⟩); (case aO => exact (zS_ HOL7.out)); (case aB => exact (zb_ HB.out)); (case aS => exact (below_size (zb_ HB.out))); (case aL => have := LML.out; omega); intro v8 w8 ho hb hg hat; rw [← NY8.out] at ho; have n1_ := Aside0.mk (Kd.R_over' (zR_ HOD.out : Kd.R (Kd.int .i64) 3 _ w.heap.size (fun _ => True) (.slice Ad D.length cd) D) (Kd.S_typed (zS_ HOL7.out : Kd.S (Kd.slice 3 (Kd.int .i64)) 24 _ w.heap.size (fun k_ => (True ∧ some k_ ≠ (.slice Ad D.length cd : Value).ownBlock) ∧ some k_ ≠ (.slice A7 c.length c7 : Value).ownBlock) (.slice Al L.length cl) L)) (by decide) hg); have n2_ := Aside0.mk ho; have n3_ := Aside0.mk hb; clear HB HOD HOL7; have HOD := n1_; have HOL8 := n2_; have HB := n3_; obtain ⟨A8, c8, e8⟩ := Kd.S_slice HOL8.out; subst e8; clear n1_ n2_ n3_ ho hb hg hat))
      (try simp only [Exit.inBlock, Exit.then])
      refine bodyPost_ret (results_tmp4_ rfl _ _ _) rfl ?_
      exact ⟨_, _, by first | rfl | simp, Kd.R_nil _ _ _ _ _, Kd.S_nil _ _ _ _ _, zb_ HB.out⟩
     ·rw [if_neg c3] at h
      have d1 : decide (300 < y8.length) = false := decide_eq_false c3
      have d2 : decide (300 < (y8.length : Int)) = false := decide_eq_false (by omega)
      clear c3
      by_cases c4 : D.length = 0
      ·rw [if_pos c4] at h
       obtain ⟨rfl, rfl, rfl, rfl⟩ : false = r1 ∧ [] = r2 ∧ y8 = r3 ∧ true = r4 := by simpa using h
       have HD0 := Aside0.mk (show D = [] from List.eq_nil_of_length_eq_zero c4)
       have d3 : ((D.length : Int) == 0) = true := by simp [c4]
       have d4 : (D.length == 0) = true := by simp [c4]
       have d5 := eq_true (show D = [] from HD0.out)
       clear h c4
       go_wp2_with (first | (go_at_call 71; (with_reducible refine (slices_Concat_two_calls _ _ l1 L y _ ?side1 ?side2 HY.out).mono ?_); (case side1 => exact C_two_ _ _ _ _ _ _ _ _ (Kd.C_below HR1.out HB.out) HC1.out (Kd.S_reads' HOL.out).2.2 (Kd.S_reads' HOL.out).2.1); (case side2 => exact Nat.le_refl _); rintro e w5 ⟨v5, rfl, ho, hb⟩; obtain ⟨A5, c5, e5, hl5, hr5⟩ := R_came_ ho hb; subst e5; have HR5 := Aside0.mk hr5; have HC5 := Aside0.mk hl5; clear hr5 hl5 ho; have mHOD_ := Aside0.mk (Kd.R_below (zR_ HOD.out : Kd.R (Kd.int .i64) 3 _ w.heap.size (fun _ => True) (.slice Ad D.length cd) D) hb); have mHOL_ := Aside0.mk (Kd.S_below (zS_ HOL.out : Kd.S (Kd.slice 3 (Kd.int .i64)) 24 _ w.heap.size (fun k_ => True ∧ some k_ ≠ (.slice Ad D.length cd : Value).ownBlock) (.slice Al L.length cl) L) hb); have mHB_ := Aside0.mk (below_step (zb_ HB.out) hb); clear HOD HOL HB; have HOD := mHOD_; have HOL := mHOL_; have HB := mHB_; clear mHOD_ mHOL_ mHB_; clear hb) | (go_at_call 77; (with_reducible refine (impl_propagate.calls k1 _ _ y _ _ D p1 _ _ ?side1 ?side2 ?side3 ?side4 G1.out).mono ?_); (case side1 => exact zC_ HR5.out); (case side2 => exact HC5.out); (case side3 => exact zC_ (Kd.R_reads' HOD.out).2.2); (case side4 => exact (Kd.R_reads' HOD.out).2.1); rintro e w6 ⟨v6, rfl, ho, hb⟩; have HOP := Aside0.mk (Kd.R_lower ho (below_size (zb_ HB.out))); obtain ⟨Ap, cp, ep⟩ := Kd.R_slice HOP.out; subst ep; have mHOD_ := Aside0.mk (Kd.R_below (zR_ HOD.out : Kd.R (Kd.int .i64) 3 _ w.heap.size (fun _ => True) (.slice Ad D.length cd) D) hb); have mHOL_ := Aside0.mk (Kd.S_below (zS_ HOL.out : Kd.S (Kd.slice 3 (Kd.int .i64)) 24 _ w.heap.size (fun k_ => True ∧ some k_ ≠ (.slice Ad D.length cd : Value).ownBlock) (.slice Al L.length cl) L) hb); have mHB_ := Aside0.mk (below_step (zb_ HB.out) hb); clear HOD HOL HB; have HOD := mHOD_; have HOL := mHOL_; have HB := mHB_; clear mHOD_ mHOL_ mHB_; clear ho hb) | (go_at_call 59; (with_reducible refine (impl_learn.calls k1 _ _ D c _ ?side1 ?side2 G2.out).mono ?_); (case side1 => exact zC_ (Kd.R_reads' HOD.out).2.2); (case side2 => exact (Kd.R_reads' HOD.out).2.1); rintro e w7 ⟨v7, rfl, ho, hb⟩; have HX7 := Aside0.mk (show ∀ k_, some k_ = v7.ownBlock → some k_ ≠ (.slice Ad D.length cd : Value).ownBlock ∧ some k_ ≠ (.slice Al L.length cl : Value).ownBlock from fun k_ h_ => ⟨fun e_ => Nat.lt_irrefl _ (Nat.lt_of_lt_of_le (Kd.R_lt (zR_ HOD.out : Kd.R (Kd.int .i64) 3 _ w.heap.size (fun _ => True) (.slice Ad D.length cd) D) k_ e_.symm) (Kd.R_base ho k_ h_.symm)), fun e_ => Nat.lt_irrefl _ (Nat.lt_of_lt_of_le (Kd.S_lt (zS_ HOL.out : Kd.S (Kd.slice 3 (Kd.int .i64)) 24 _ w.heap.size (fun k_ => True ∧ some k_ ≠ (.slice Ad D.length cd : Value).ownBlock) (.slice Al L.length cl) L) k_ e_.symm) (Kd.R_base ho k_ h_.symm))⟩); have HOL7 := Aside0.mk (Kd.S_elder' (zS_ HOL.out : Kd.S (Kd.slice 3 (Kd.int .i64)) 24 _ w.heap.size (fun k_ => True ∧ some k_ ≠ (.slice Ad D.length cd : Value).ownBlock) (.slice Al L.length cl) L) (Kd.R_base ho) hb); have HO7 := Aside0.mk (Kd.R_lower ho (below_size (zb_ HB.out))); obtain ⟨A7, c7, e7⟩ := Kd.R_slice HO7.out; subst e7; have mHOD_ := Aside0.mk (Kd.R_below (zR_ HOD.out : Kd.R (Kd.int .i64) 3 _ w.heap.size (fun _ => True) (.slice Ad D.length cd) D) hb); have mHB_ := Aside0.mk (below_step (zb_ HB.out) hb); clear HOD HB; have HOD := mHOD_; have HB := mHB_; clear mHOD_ mHB_; clear ho hb HOL) | ((with_reducible refine gate_builtin (b := .append) (xs := #[.tmp 27, .tmp 30]) rfl ?_); at_builtin; refine Kd.S_append (Kd.slice 3 (Kd.int .i64)) (w0 := w) w.heap.size rfl (.tmp 27) (.tmp 30) 23 24 (.slice none 0 0) 24 rfl Try.underlying23 info24 rfl (by decide) (by omega) (.slice Al L.length cl) L c [.slice A7 c.length c7] (fun k_ => True ∧ some k_ ≠ (.slice Ad D.length cd : Value).ownBlock) (fun k_ => some k_ = (.slice A7 c.length c7 : Value).ownBlock) rfl rfl ?aP ?aK ?aF ?aO ?aB ?aS ?aL ?_; (case aP => exact Kd.M_row (Kd.R_tight rfl (zR_ HO7.out : Kd.R (Kd.int .i64) 3 _ w.heap.size (fun _ => True) (.slice A7 c.length c7) c))); (case aK => exact fun k_ hk_ => ⟨⟨trivial, (HX7.out k_ hk_).1⟩, (HX7.out k_ hk_).2⟩); (case aF => exact fun k_ hk_ => ⟨trivial, fun e_ => Nat.lt_irrefl _ (Nat.lt_of_lt_of_le (Kd.R_lt (zR_ HOD.out : Kd.R (Kd.int .i64) 3 _ w.heap.size (fun _ => True) (.slice Ad D.length cd) D) k_ e_.symm) hk_)⟩); (case aO => exact (zS_ HOL7.out)); (case aB => exact (zb_ HB.out)); (case aS => exact (below_size (zb_ HB.out))); (case aL => have := LML.out; omega); intro v8 w8 ho hb hg hat; rw [← NY8.out] at ho; have n1_ := Aside0.mk (Kd.R_over' (zR_ HOD.out : Kd.R (Kd.int .i64) 3 _ w.heap.size (fun _ => True) (.slice Ad D.length cd) D) (Kd.S_typed (zS_ HOL7.out : Kd.S (Kd.slice 3 (Kd.int .i64)) 24 _ w.heap.size (fun k_ => (True ∧ some k_ ≠ (.slice Ad D.length cd : Value).ownBlock) ∧ some k_ ≠ (.slice A7 c.length c7 : Value).ownBlock) (.slice Al L.length cl) L)) (by decide) hg); have n2_ := Aside0.mk ho; have n3_ := Aside0.mk hb; clear HB HOD HOL7; have HOD := n1_; have HOL8 := n2_; have HB := n3_; obtain ⟨A8, c8, e8⟩ := Kd.S_slice HOL8.out; subst e8; clear n1_ n2_ n3_ ho hb hg hat))
       (try simp only [Exit.inBlock, Exit.then])
       refine bodyPost_ret (results_tmp4_ rfl _ _ _) rfl ?_
       exact ⟨_, _, by first | rfl | simp, Kd.R_nil _ _ _ _ _, by (with_reducible repeat (first | apply Kd.S_alloc | apply Kd.S_drewN | apply Kd.S_drew)); exact Kd.S_mono HOL8.out (fun _ _ => trivial), zb_ HB.out⟩
      ·rw [if_neg c4] at h
       have H' := Aside0.mk h
       have HDL := Aside0.mk (show D.length - 1 ≤ D.length by omega)
       have d3 : ((D.length : Int) == 0) = false := beq_eq_false_iff_ne.2 (by omega)
       have d4 : (D.length == 0) = false := beq_eq_false_iff_ne.2 (by omega)
       have d5 := eq_false (show ¬ D.length = 0 from c4)
       have d6 : 1 ≤ (D.length : Int) := by omega
       have d7 : (D.length : Int) ≤ 9223372036854775807 := by have := (Kd.R_reads' HOD.out).2.2.2.1; omega
       have d8 := eq_true (show (0 : Int) ≤ (D.length : Int) - 1 by omega)
       have d9 := eq_true (show (D.length : Int) - 1 ≤ (cd : Int) by have := (Kd.R_reads' HOD.out).2.1; omega)
       have d10 := eq_true (show (D.length : Int) ≤ (cd : Int) + 1 by have := (Kd.R_reads' HOD.out).2.1; omega)
       have d11 := eq_true (show D.length - 1 ≤ cd by have := (Kd.R_reads' HOD.out).2.1; omega)
       have d12 := eq_false (show ¬ D = [] by intro e; apply c4; rw [e]; rfl)
       clear h c4
       go_wp2_with (first | (go_at_call 71; (with_reducible refine (slices_Concat_two_calls _ _ l1 L y _ ?side1 ?side2 HY.out).mono ?_); (case side1 => exact C_two_ _ _ _ _ _ _ _ _ (Kd.C_below HR1.out HB.out) HC1.out (Kd.S_reads' HOL.out).2.2 (Kd.S_reads' HOL.out).2.1); (case side2 => exact Nat.le_refl _); rintro e w5 ⟨v5, rfl, ho, hb⟩; obtain ⟨A5, c5, e5, hl5, hr5⟩ := R_came_ ho hb; subst e5; have HR5 := Aside0.mk hr5; have HC5 := Aside0.mk hl5; clear hr5 hl5 ho; have mHOD_ := Aside0.mk (Kd.R_below (zR_ HOD.out : Kd.R (Kd.int .i64) 3 _ w.heap.size (fun _ => True) (.slice Ad D.length cd) D) hb); have mHOL_ := Aside0.mk (Kd.S_below (zS_ HOL.out : Kd.S (Kd.slice 3 (Kd.int .i64)) 24 _ w.heap.size (fun k_ => True ∧ some k_ ≠ (.slice Ad D.length cd : Value).ownBlock) (.slice Al L.length cl) L) hb); have mHB_ := Aside0.mk (below_step (zb_ HB.out) hb); clear HOD HOL HB; have HOD := mHOD_; have HOL := mHOL_; have HB := mHB_; clear mHOD_ mHOL_ mHB_; clear hb) | (go_at_call 77; (with_reducible refine (impl_propagate.calls k1 _ _ y _ _ D p1 _ _ ?side1 ?side2 ?side3 ?side4 G1.out).mono ?_); (case side1 => exact zC_ HR5.out); (case side2 => exact HC5.out); (case side3 => exact zC_ (Kd.R_reads' HOD.out).2.2); (case side4 => exact (Kd.R_reads' HOD.out).2.1); rintro e w6 ⟨v6, rfl, ho, hb⟩; have HOP := Aside0.mk (Kd.R_lower ho (below_size (zb_ HB.out))); obtain ⟨Ap, cp, ep⟩ := Kd.R_slice HOP.out; subst ep; have mHOD_ := Aside0.mk (Kd.R_below (zR_ HOD.out : Kd.R (Kd.int .i64) 3 _ w.heap.size (fun _ => True) (.slice Ad D.length cd) D) hb); have mHOL_ := Aside0.mk (Kd.S_below (zS_ HOL.out : Kd.S (Kd.slice 3 (Kd.int .i64)) 24 _ w.heap.size (fun k_ => True ∧ some k_ ≠ (.slice Ad D.length cd : Value).ownBlock) (.slice Al L.length cl) L) hb); have mHB_ := Aside0.mk (below_step (zb_ HB.out) hb); clear HOD HOL HB; have HOD := mHOD_; have HOL := mHOL_; have HB := mHB_; clear mHOD_ mHOL_ mHB_; clear ho hb) | (go_at_call 59; (with_reducible refine (impl_learn.calls k1 _ _ D c _ ?side1 ?side2 G2.out).mono ?_); (case side1 => exact zC_ (Kd.R_reads' HOD.out).2.2); (case side2 => exact (Kd.R_reads' HOD.out).2.1); rintro e w7 ⟨v7, rfl, ho, hb⟩; have HX7 := Aside0.mk (show ∀ k_, some k_ = v7.ownBlock → some k_ ≠ (.slice Ad D.length cd : Value).ownBlock ∧ some k_ ≠ (.slice Al L.length cl : Value).ownBlock from fun k_ h_ => ⟨fun e_ => Nat.lt_irrefl _ (Nat.lt_of_lt_of_le (Kd.R_lt (zR_ HOD.out : Kd.R (Kd.int .i64) 3 _ w.heap.size (fun _ => True) (.slice Ad D.length cd) D) k_ e_.symm) (Kd.R_base ho k_ h_.symm)), fun e_ => Nat.lt_irrefl _ (Nat.lt_of_lt_of_le (Kd.S_lt (zS_ HOL.out : Kd.S (Kd.slice 3 (Kd.int .i64)) 24 _ w.heap.size (fun k_ => True ∧ some k_ ≠ (.slice Ad D.length cd : Value).ownBlock) (.slice Al L.length cl) L) k_ e_.symm) (Kd.R_base ho k_ h_.symm))⟩); have HOL7 := Aside0.mk (Kd.S_elder' (zS_ HOL.out : Kd.S (Kd.slice 3 (Kd.int .i64)) 24 _ w.heap.size (fun k_ => True ∧ some k_ ≠ (.slice Ad D.length cd : Value).ownBlock) (.slice Al L.length cl) L) (Kd.R_base ho) hb); have HO7 := Aside0.mk (Kd.R_lower ho (below_size (zb_ HB.out))); obtain ⟨A7, c7, e7⟩ := Kd.R_slice HO7.out; subst e7; have mHOD_ := Aside0.mk (Kd.R_below (zR_ HOD.out : Kd.R (Kd.int .i64) 3 _ w.heap.size (fun _ => True) (.slice Ad D.length cd) D) hb); have mHB_ := Aside0.mk (below_step (zb_ HB.out) hb); clear HOD HB; have HOD := mHOD_; have HB := mHB_; clear mHOD_ mHB_; clear ho hb HOL) | ((with_reducible refine gate_builtin (b := .append) (xs := #[.tmp 27, .tmp 30]) rfl ?_); at_builtin; refine Kd.S_append (Kd.slice 3 (Kd.int .i64)) (w0 := w) w.heap.size rfl (.tmp 27) (.tmp 30) 23 24 (.slice none 0 0) 24 rfl Try.underlying23 info24 rfl (by decide) (by omega) (.slice Al L.length cl) L c [.slice A7 c.length c7] (fun k_ => True ∧ some k_ ≠ (.slice Ad D.length cd : Value).ownBlock) (fun k_ => some k_ = (.slice A7 c.length c7 : Value).ownBlock) rfl rfl ?aP ?aK ?aF ?aO ?aB ?aS ?aL ?_; (case aP => exact Kd.M_row (Kd.R_tight rfl (zR_ HO7.out : Kd.R (Kd.int .i64) 3 _ w.heap.size (fun _ => True) (.slice A7 c.length c7) c))); (case aK => exact fun k_ hk_ => ⟨⟨trivial, (HX7.out k_ hk_).1⟩, (HX7.out k_ hk_).2⟩); (case aF => exact fun k_ hk_ => ⟨trivial, fun e_ => Nat.lt_irrefl _ (Nat.lt_of_lt_of_le (Kd.R_lt (zR_ HOD.out : Kd.R (Kd.int .i64) 3 _ w.heap.size (fun _ => True) (.slice Ad D.length cd) D) k_ e_.symm) hk_)⟩); (case aO => exact (zS_ HOL7.out)); (case aB => exact (zb_ HB.out)); (case aS => exact (below_size (zb_ HB.out))); (case aL => have := LML.out; omega); intro v8 w8 ho hb hg hat; rw [← NY8.out] at ho; have n1_ := Aside0.mk (Kd.R_over' (zR_ HOD.out : Kd.R (Kd.int .i64) 3 _ w.heap.size (fun _ => True) (.slice Ad D.length cd) D) (Kd.S_typed (zS_ HOL7.out : Kd.S (Kd.slice 3 (Kd.int .i64)) 24 _ w.heap.size (fun k_ => (True ∧ some k_ ≠ (.slice Ad D.length cd : Value).ownBlock) ∧ some k_ ≠ (.slice A7 c.length c7 : Value).ownBlock) (.slice Al L.length cl) L)) (by decide) hg); have n2_ := Aside0.mk ho; have n3_ := Aside0.mk hb; clear HB HOD HOL7; have HOD := n1_; have HOL8 := n2_; have HB := n3_; obtain ⟨A8, c8, e8⟩ := Kd.S_slice HOL8.out; subst e8; clear n1_ n2_ n3_ ho hb hg hat))
       go_roundg k1
       case measure => have := HK.out; omega
       case rel => exact ⟨D.take (D.length - 1), y8, H', ⟨by have := HK.out; omega⟩, ⟨by (with_reducible repeat (first | apply Kd.R_alloc | apply Kd.R_drewN | apply Kd.R_drew)); exact Kd.R_take HOD.out HDL.out⟩, ⟨by (with_reducible repeat (first | apply Kd.S_alloc | apply Kd.S_drewN | apply Kd.S_drew)); exact Kd.S_mono HOL8.out (fun k_ hk_ => ⟨trivial, fun e_ => hk_.2 (e_.trans own_cut_)⟩)⟩, ⟨zb_ HB.out⟩⟩
    | false =>
     replace h : ((impl_decide.f k1 a0 p1).bind fun u => if u.2 = true then (if D.length < 4398046511104 then impl_solve.l0 k1 a0 l1 L (D ++ [u.1]) else none) else (if 0 ≤ a0 ∧ a0 ≤ 4398046511104 then ((impl_solve.l1 k1 p1 (List.replicate a0.toNat false) 0).bind fun m => some (true, m, L, true)) else none)) = some (r1, r2, r3, r4) := h
     replace h := Option.bind_eq_some_iff.mp h
     obtain ⟨⟨u1, u2⟩, A3', h⟩ := h
     have G3 := Aside0.mk A3'
     clear A3'
     cases u2 with
     | true =>
      rw [if_pos rfl] at h
      by_cases c5 : D.length < 4398046511104
      ·rw [if_pos c5] at h
       have LMD := Aside0.mk c5
       obtain ⟨y9, hy9⟩ : ∃ y_, y_ = D ++ [u1] := ⟨_, rfl⟩
       replace h : impl_solve.l0 k1 a0 l1 L y9 = some (r1, r2, r3, r4) := by rw [hy9]; exact h
       have NY9 := Aside0.mk hy9
       have H' := Aside0.mk h
       clear h hy9 c5
       go_wp2_with (first | (go_at_call 71; (with_reducible refine (slices_Concat_two_calls _ _ l1 L y _ ?side1 ?side2 HY.out).mono ?_); (case side1 => exact C_two_ _ _ _ _ _ _ _ _ (Kd.C_below HR1.out HB.out) HC1.out (Kd.S_reads' HOL.out).2.2 (Kd.S_reads' HOL.out).2.1); (case side2 => exact Nat.le_refl _); rintro e w5 ⟨v5, rfl, ho, hb⟩; obtain ⟨A5, c5, e5, hl5, hr5⟩ := R_came_ ho hb; subst e5; have HR5 := Aside0.mk hr5; have HC5 := Aside0.mk hl5; clear hr5 hl5 ho; have mHOD_ := Aside0.mk (Kd.R_below (zR_ HOD.out : Kd.R (Kd.int .i64) 3 _ w.heap.size (fun _ => True) (.slice Ad D.length cd) D) hb); have mHOL_ := Aside0.mk (Kd.S_below (zS_ HOL.out : Kd.S (Kd.slice 3 (Kd.int .i64)) 24 _ w.heap.size (fun k_ => True ∧ some k_ ≠ (.slice Ad D.length cd : Value).ownBlock) (.slice Al L.length cl) L) hb); have mHB_ := Aside0.mk (below_step (zb_ HB.out) hb); clear HOD HOL HB; have HOD := mHOD_; have HOL := mHOL_; have HB := mHB_; clear mHOD_ mHOL_ mHB_; clear hb) | (go_at_call 77; (with_reducible refine (impl_propagate.calls k1 _ _ y _ _ D p1 _ _ ?side1 ?side2 ?side3 ?side4 G1.out).mono ?_); (case side1 => exact zC_ HR5.out); (case side2 => exact HC5.out); (case side3 => exact zC_ (Kd.R_reads' HOD.out).2.2); (case side4 => exact (Kd.R_reads' HOD.out).2.1); rintro e w6 ⟨v6, rfl, ho, hb⟩; have HOP := Aside0.mk (Kd.R_lower ho (below_size (zb_ HB.out))); obtain ⟨Ap, cp, ep⟩ := Kd.R_slice HOP.out; subst ep; have mHOD_ := Aside0.mk (Kd.R_below (zR_ HOD.out : Kd.R (Kd.int .i64) 3 _ w.heap.size (fun _ => True) (.slice Ad D.length cd) D) hb); have mHOL_ := Aside0.mk (Kd.S_below (zS_ HOL.out : Kd.S (Kd.slice 3 (Kd.int .i64)) 24 _ w.heap.size (fun k_ => True ∧ some k_ ≠ (.slice Ad D.length cd : Value).ownBlock) (.slice Al L.length cl) L) hb); have mHB_ := Aside0.mk (below_step (zb_ HB.out) hb); clear HOD HOL HB; have HOD := mHOD_; have HOL := mHOL_; have HB := mHB_; clear mHOD_ mHOL_ mHB_; clear ho hb) | (go_at_call 63; (with_reducible refine (impl_decide.calls k1 a0 _ _ p1 u1 true _ ?side1 ?side2 G3.out).mono ?_); (case side1 => exact zC_ (Kd.R_reads' HOP.out).2.2); (case side2 => exact (Kd.R_reads' HOP.out).2.1); rintro e w' ⟨rfl, ⟨nd, rfl⟩⟩) | ((with_reducible refine gate_builtin (b := .append) (xs := #[.tmp 51, .tmp 53]) rfl ?_); at_builtin; refine Kd.R_append (Kd.int .i64) (w0 := w) w.heap.size rfl (.tmp 51) (.tmp 53) 24 3 (.int .i64 0) 8 rfl Try.underlying24 info3 rfl (by decide) (by omega) (.slice Ad D.length cd) D u1 [.int .i64 u1] (fun _ => True) (fun _ => False) rfl rfl ?aP (fun _ hk => hk.elim) ?aF ?aO ?aB ?aS ?aL ?_; (case aP => exact rfl); (case aB => exact (zb_ HB.out)); (case aF => exact (fun _ _ => trivial)); (case aO => exact (zR_ HOD.out)); (case aS => exact (below_size (zb_ HB.out))); (case aL => have := LMD.out; omega); intro v9 w9 ho hb hg hat; rw [← NY9.out] at ho; have n1_ := Aside0.mk (Kd.S_after (zS_ HOL.out : Kd.S (Kd.slice 3 (Kd.int .i64)) 24 _ w.heap.size (fun k_ => True ∧ some k_ ≠ (.slice Ad D.length cd : Value).ownBlock) (.slice Al L.length cl) L) hg hat); have n2_ := Aside0.mk ho; have n3_ := Aside0.mk hb; clear HB HOD HOL; have HOL := n1_; have HOD := n2_; have HB := n3_; clear n1_ n2_ n3_ ho hb hg hat))
       go_roundg k1
       case measure => have := HK.out; omega
       case rel => exact ⟨y9, L, H', ⟨by have := HK.out; omega⟩, ⟨zR_ HOD.out⟩, ⟨zS_ HOL.out⟩, ⟨zb_ HB.out⟩⟩
      ·rw [if_neg c5] at h
       exact absurd h (by simp)
     | false =>
      rw [if_neg Bool.false_ne_true] at h
      by_cases c6 : 0 ≤ a0 ∧ a0 ≤ 4398046511104
      ·rw [if_pos c6] at h
       replace h := Option.bind_eq_some_iff.mp h
       obtain ⟨mm, A4', h⟩ := h
       obtain ⟨rfl, rfl, rfl, rfl⟩ : true = r1 ∧ mm = r2 ∧ L = r3 ∧ true = r4 := by simpa using h
       obtain ⟨m0, hm0⟩ : ∃ m_ : List Bool, m_ = List.replicate a0.toNat false := ⟨_, rfl⟩
       rw [← hm0] at A4'
       have NM := Aside0.mk hm0
       have H' := Aside0.mk A4'
       have c3b0 := eq_true c6.1
       have c3b1 : decide (0 ≤ a0) = true := decide_eq_true c6.1
       have c4b1 : decide (a0.toNat ≤ 281474976710656) = true := decide_eq_true (by omega)
       clear h A4' hm0 c6
       go_wp2_with (first | (go_at_call 71; (with_reducible refine (slices_Concat_two_calls _ _ l1 L y _ ?side1 ?side2 HY.out).mono ?_); (case side1 => exact C_two_ _ _ _ _ _ _ _ _ (Kd.C_below HR1.out HB.out) HC1.out (Kd.S_reads' HOL.out).2.2 (Kd.S_reads' HOL.out).2.1); (case side2 => exact Nat.le_refl _); rintro e w5 ⟨v5, rfl, ho, hb⟩; obtain ⟨A5, c5, e5, hl5, hr5⟩ := R_came_ ho hb; subst e5; have HR5 := Aside0.mk hr5; have HC5 := Aside0.mk hl5; clear hr5 hl5 ho; have mHOD_ := Aside0.mk (Kd.R_below (zR_ HOD.out : Kd.R (Kd.int .i64) 3 _ w.heap.size (fun _ => True) (.slice Ad D.length cd) D) hb); have mHOL_ := Aside0.mk (Kd.S_below (zS_ HOL.out : Kd.S (Kd.slice 3 (Kd.int .i64)) 24 _ w.heap.size (fun k_ => True ∧ some k_ ≠ (.slice Ad D.length cd : Value).ownBlock) (.slice Al L.length cl) L) hb); have mHB_ := Aside0.mk (below_step (zb_ HB.out) hb); clear HOD HOL HB; have HOD := mHOD_; have HOL := mHOL_; have HB := mHB_; clear mHOD_ mHOL_ mHB_; clear hb) | (go_at_call 77; (with_reducible refine (impl_propagate.calls k1 _ _ y _ _ D p1 _ _ ?side1 ?side2 ?side3 ?side4 G1.out).mono ?_); (case side1 => exact zC_ HR5.out); (case side2 => exact HC5.out); (case side3 => exact zC_ (Kd.R_reads' HOD.out).2.2); (case side4 => exact (Kd.R_reads' HOD.out).2.1); rintro e w6 ⟨v6, rfl, ho, hb⟩; have HOP := Aside0.mk (Kd.R_lower ho (below_size (zb_ HB.out))); obtain ⟨Ap, cp, ep⟩ := Kd.R_slice HOP.out; subst ep; have mHOD_ := Aside0.mk (Kd.R_below (zR_ HOD.out : Kd.R (Kd.int .i64) 3 _ w.heap.size (fun _ => True) (.slice Ad D.length cd) D) hb); have mHOL_ := Aside0.mk (Kd.S_below (zS_ HOL.out : Kd.S (Kd.slice 3 (Kd.int .i64)) 24 _ w.heap.size (fun k_ => True ∧ some k_ ≠ (.slice Ad D.length cd : Value).ownBlock) (.slice Al L.length cl) L) hb); have mHB_ := Aside0.mk (below_step (zb_ HB.out) hb); clear HOD HOL HB; have HOD := mHOD_; have HOL := mHOL_; have HB := mHB_; clear mHOD_ mHOL_ mHB_; clear ho hb) | (go_at_call 63; (with_reducible refine (impl_decide.calls k1 a0 _ _ p1 u1 false _ ?side1 ?side2 G3.out).mono ?_); (case side1 => exact zC_ (Kd.R_reads' HOP.out).2.2); (case side2 => exact (Kd.R_reads' HOP.out).2.1); rintro e w' ⟨rfl, ⟨nd, rfl⟩⟩) | ((with_reducible refine gate_dst (N := 56) rfl ?_); refine Kd.R_make Kd.bool _ 4 rfl (N := 56) rfl 40 _ _ rfl a0 rfl rfl Try.underlying40 (.bool false) 1 info4 rfl (by decide) (by omega) false (ok := fun _ => True) (okp := fun _ => True) rfl (fun _ hk => hk) trivial (of_decide_eq_true (by assumption)) (Nat.le_trans (Nat.mul_le_mul_right _ (of_decide_eq_true (by assumption) : a0.toNat ≤ 281474976710656)) (by omega)) (Below.refl _ _) (Nat.le_refl _) ?_; intro v10 w10 ho hb hg_ hnew_; clear hg_ hnew_; (first | rw [← NM.out] at ho | (simp only [Int.reduceToNat] at ho; rw [← NM.out] at ho)); have n1_ := Aside0.mk (Kd.R_lower ho (below_size (zb_ HB.out))); have mHOD_ := Aside0.mk (Kd.R_below (zR_ HOD.out : Kd.R (Kd.int .i64) 3 _ w.heap.size (fun _ => True) (.slice Ad D.length cd) D) hb); have mHOL_ := Aside0.mk (Kd.S_below (zS_ HOL.out : Kd.S (Kd.slice 3 (Kd.int .i64)) 24 _ w.heap.size (fun k_ => True ∧ some k_ ≠ (.slice Ad D.length cd : Value).ownBlock) (.slice Al L.length cl) L) hb); have mHOP_ := Aside0.mk (Kd.R_below (zR_ HOP.out : Kd.R (Kd.int .i64) 3 _ w.heap.size (fun _ => True) (.slice Ap p1.length cp) p1) hb); have mHB_ := Aside0.mk (below_step (zb_ HB.out) hb); clear HOD HOL HOP HB; have HOD := mHOD_; have HOL := mHOL_; have HOP := mHOP_; have HB := mHB_; clear mHOD_ mHOL_ mHOP_ mHB_; have HOM := n1_; clear n1_ hb ho; obtain ⟨Am, cm, em⟩ := Kd.R_slice HOM.out; subst em))
       go_loopg [59] k1 (fun kq v59 w' => ∃ (m : List Bool) (x : Int), v59 = .int .i64 x ∧ Aside0 (impl_solve.l1 kq p1 m x = some mm) ∧ Aside0 (kq ≤ k1) ∧ Aside0 (m.length = m0.length) ∧ Aside0 (Kd.R Kd.bool 4 w' w.heap.size (fun _ => True) (.slice Am m0.length cm) m) ∧ Aside0 (Kd.R (Kd.int .i64) 3 w' w.heap.size (fun _ => True) (.slice Ap p1.length cp) p1) ∧ Aside0 (Kd.S (Kd.slice 3 (Kd.int .i64)) 24 w' w.heap.size (fun k_ => True ∧ some k_ ≠ (.slice Ad D.length cd : Value).ownBlock) (.slice Al L.length cl) L) ∧ Aside0 (Below w.heap.size w w'))
       case atStart => exact ⟨m0, 0, rfl, H', ⟨Nat.le_refl _⟩, ⟨rfl⟩, ⟨zR_ HOM.out⟩, ⟨zR_ HOP.out⟩, ⟨zS_ HOL.out⟩, ⟨zb_ HB.out⟩⟩
       case round =>
        clear H' HB HOM HOP HOL HOD HR5 HC5
        obtain ⟨m, x, rfl, HA, HK2, HML, HOM, HOP, HOL, HB⟩ := hrel
        cases gk with
        | zero => exact absurd HA.out (by simp [impl_solve.l1])
        | succ k2 =>
         have h := HA.out
         clear HA
         simp only [impl_solve.l1] at h
         by_cases c7 : x < (p1.length : Int)
         ·rw [if_pos c7] at h
          have c7b : decide (x < (p1.length : Int)) = true := decide_eq_true c7
          by_cases c8 : 0 ≤ x
          ·rw [if_pos c8] at h
           have HPC := (Kd.R_reads' HOP.out).2.2
           obtain ⟨ad1, e1, hx1⟩ := Kd.at_int HPC x c8 c7
           cases e1
           obtain ⟨n, hn⟩ : ∃ n, rd p1 x = n := ⟨_, rfl⟩
           rw [hn] at hx1 h
           by_cases c9 : 1 ≤ vab n ∧ vab n ≤ (m.length : Int)
           ·rw [if_pos c9] at h
            have hpl : (p1.length : Int) ≤ 9223372036854775807 := by have := HPC.2.1; omega
            have HWX := Aside0.mk (show wrap64 (x + 1) = x + 1 by unfold wrap64; omega)
            have HMLe := HML.out
            have HV := Aside0.mk (impl_variable_val n)
            obtain ⟨q, hq⟩ : ∃ q, vab n = q := ⟨_, rfl⟩
            rw [hq] at HV h c9
            have hcm := (Kd.R_reads HOM.out)
            have hmm : (m0.length : Int) ≤ 9223372036854775807 := by obtain ⟨_, _, _, _, hr_⟩ := hcm; have := hr_.2.1; omega
            have HWQ := Aside0.mk (show wrap64 (q - 1) = q - 1 by unfold wrap64; omega)
            obtain ⟨gm, cm2, em, gb, gl, cl2, HG⟩ := Kd.R_form HOM.out (by omega)
            have em2 : Am = some ⟨gm, 0, none⟩ := by injection em
            subst em2
            obtain ⟨hx12, hf12⟩ := Kd.R_celln false HOM.out (q - 1) (by omega) (by omega)
            have HQN := Aside0.mk (show (q - 1).toNat = q.toNat - 1 by omega)
            rw [HQN.out] at hx12 hf12 h
            obtain ⟨y2, hy2⟩ : ∃ y_, y_ = m.set (q.toNat - 1) (decide (0 < n)) := ⟨_, rfl⟩
            rw [← hy2] at h
            have NY2 := Aside0.mk hy2
            have HY2L := Aside0.mk (show y2.length = m0.length by rw [hy2, List.length_set]; exact HMLe)
            have HGB := Aside0.mk gb
            have H' := Aside0.mk h
            have p12 := eq_true (show 0 ≤ q - 1 by omega)
            have q12 := eq_true (show q - 1 < (m0.length : Int) by omega)
            have p12b := eq_true (show 1 ≤ q by omega)
            have q13 := eq_true (show q ≤ (m0.length : Int) by omega)
            have d1 : (0 : Int) ≤ q := by omega
            have d2 : q ≤ 9223372036854775807 := by omega
            have p101 := eq_true c8
            have q101 := eq_true c7
            clear h c7 c8 c9 hn hq hy2 hcm em HMLe gb gl cl2 HG HPC
            go_wp2_with (first | (go_at_call 99; (with_reducible refine (impl_variable.calls n q _ HV.out).mono ?_); rintro e w' ⟨rfl, ⟨nd, rfl⟩⟩; have HOM2 := Aside0.mk (Kd.R_drewN HOM.out nd); have HOP2 := Aside0.mk (Kd.R_drewN HOP.out nd); have HOL2 := Aside0.mk (Kd.S_drewN HOL.out nd); have HB2 := Aside0.mk (pw_below_drewN HB.out nd); have HP2 := Aside0.mk (HQN.out ▸ Kd.R_putg HOM2.out (q - 1) (decide (0 < n)))) | ((with_reducible refine gate_store (t := 4) (p := 69) rfl ?_); refine store_event (t := 4) (p := 69) (v := ?vo_w14) (w1 := ((wr.drewN nd).setCell ⟨gm, q.toNat - 1, none⟩ (.bool (decide (0 < n))))) ?hg ?ho ?hn ?hr ?_; (case ho => rfl); (case hg => rfl); (case hn => rfl); (case hr => first | (go_simp; done) | (go_simp; rfl)); intro w14 hw; have hgg : (wr.drewN nd).grownBy w14 (some gm) := (by rw [hw]; exact HP2.out.2); have n1_ := Aside0.mk (show Kd.R Kd.bool 4 w14 w.heap.size (fun _ => True) (.slice (some ⟨gm, 0, none⟩) m0.length cm) y2 by rw [hw, NY2.out]; exact HP2.out.1); have n2_ := Aside0.mk ((by rw [hw]; exact below_set HB2.out HGB.out : Below w.heap.size w w14)); have n3_ := Aside0.mk (Kd.R_over' HOP2.out (Kd.R_typed HOM2.out) (by decide) hgg); have n4_ := Aside0.mk (Kd.S_over' HOL2.out (Kd.R_typed HOM2.out) (by decide) hgg); clear HOM HOP HOL HB HOM2 HOP2 HOL2 HB2 HP2 hgg hw; have HOM := n1_; have HB := n2_; have HOP := n3_; have HOL := n4_; clear n1_ n2_ n3_ n4_))
            go_roundg k2
            case measure => have := HK2.out; omega
            case rel => exact ⟨y2, wrap64 (x + 1), by first | rfl | (rw [← HWX.out]; done) | (rw [HWX.out]; done) | simp [HWX.out], H', ⟨by have := HK2.out; omega⟩, HY2L, ⟨zR_ HOM.out⟩, ⟨zR_ HOP.out⟩, ⟨zS_ HOL.out⟩, ⟨zb_ HB.out⟩⟩
           ·rw [if_neg c9] at h
            exact absurd h (by simp)
          ·rw [if_neg c8] at h
           exact absurd h (by simp)
         ·rw [if_neg c7] at h
          have c7b : decide (x < (p1.length : Int)) = false := decide_eq_false c7
          obtain rfl : m = mm := by simpa using h
          clear h c7
          go_wp2
          (try simp only [Exit.inBlock, Exit.then])
          refine bodyPost_ret (results_tmp4_ rfl _ _ _) rfl ?_
          exact ⟨_, _, by first | rfl | simp, zR_ HOM.out, by (with_reducible repeat (first | apply Kd.S_alloc | apply Kd.S_drewN | apply Kd.S_drew)); exact Kd.S_mono HOL.out (fun _ _ => trivial), zb_ HB.out⟩
      ·rw [if_neg c6] at h
       exact absurd h (by simp)
   ·rw [if_neg c0] at h
    exact absurd h (by simp)
def impl_units.l0 : Nat → List (List Int) → List Int → Int → Int → Option ((List (List Int)))
 | 0, _, _, _, _ => none
 | k + 1, x3, x6, x7, x8 => if x8 < x7 then (if 0 ≤ x8 then (if x8 < (x6.length : Int) then (if x3.length < 5864062014805 then (impl_units.l0 k (x3 ++ [(([rd x6 x8] : List Int))]) x6 x7 (wrap64 (x8 + 1))) else (none)) else (none)) else (none)) else (some x3)
def impl_units.f (k : Nat) (l0 : List Int) : Option ((List (List Int))) := impl_units.l0 k ([] : List (List Int)) l0 (l0.length : Int) 0
theorem impl_units.mono_l : ∀ k, (∀ y0 y1 y2 y3, LeO (impl_units.l0 k y0 y1 y2 y3) (impl_units.l0 (k + 1) y0 y1 y2 y3))
 | 0 => fun _ _ _ _ r h => by simp [impl_units.l0] at h
 | k + 1 => by
  have ih0 := impl_units.mono_l k
  ·intro y0 y1 y2 y3
   unfold impl_units.l0
   repeat' first
   | (with_reducible exact ih0 _ _ _ _)
   | (with_reducible exact LeO.refl _)
   | (with_reducible exact LeO.none _)
   | (with_reducible refine LeO.ite ?_ ?_)
   | (with_reducible refine LeO.bind ?_ (fun _ => ?_))
   | exact ih0 _ _ _ _
   | exact LeO.none _
   | refine LeO.ite ?_ ?_
   | refine LeO.bind ?_ (fun _ => ?_)
theorem impl_units.mono : ∀ a0 k, LeO (impl_units.f k a0) (impl_units.f (k + 1) a0) := by
 intro a0 k
 have ih0 := impl_units.mono_l k
 unfold impl_units.f
 repeat' first
   | (with_reducible exact ih0 _ _ _ _)
   | (with_reducible exact LeO.refl _)
   | (with_reducible exact LeO.none _)
   | (with_reducible refine LeO.ite ?_ ?_)
   | (with_reducible refine LeO.bind ?_ (fun _ => ?_))
   | exact ih0 _ _ _ _
   | exact LeO.none _
   | refine LeO.ite ?_ ?_
   | refine LeO.bind ?_ (fun _ => ?_)
set_option maxHeartbeats 8000000 in
set_option maxRecDepth 100000 in
theorem impl_units.calls (k : Nat) (A0 : Option Addr) (c0 : Nat) (l0 : List Int) (r : List (List Int)) (w : World) (hr0 : Kd.C (Kd.int .i64) w A0 l0.length l0) (hc0 : l0.length ≤ c0) (h : impl_units.f k l0 = some r) :
  Calls Try.prog 74 #[.slice A0 l0.length c0] w fun e w' => ∃ v0_ : Value, e = .returned (v0_) ∧ Kd.S (Kd.slice 3 (Kd.int .i64)) 24 w' w.heap.size (fun _ => True) v0_ r ∧ Below w.heap.size w w' := by
 have HR0 := Aside0.mk hr0
 have HC0 := Aside0.mk hc0
 clear hr0 hc0
 have HB := Aside0.mk (Below.refl w.heap.size w)
 have H : (impl_units.l0 k ([] : List (List Int)) l0 (l0.length : Int) 0) = some r := h
 clear h
 have H' := Aside0.mk H
 clear H
 go_enter Try.func74, Try.ntmps74
 go_wp2
 go_loopg [3, 8] k (fun kq v3 v8 w' => ∃ (x3_1 : List (List Int)) (x8_1 : Int), v8 = .int .i64 x8_1 ∧ Aside0 (impl_units.l0 kq x3_1 l0 (l0.length : Int) x8_1 = some r) ∧ Aside0 (kq ≤ k) ∧ Aside0 (Kd.S (Kd.slice 3 (Kd.int .i64)) 24 w' w.heap.size (fun _ => True) v3 x3_1) ∧ Aside0 (Below w.heap.size w w'))
 case atStart => exact ⟨(([] : List (List Int))), (0), (by first | rfl | (simp; done) | (simp [*]; done)), H', ⟨Nat.le_refl _⟩, ⟨by first | exact Kd.S_nil _ _ _ _ _ | exact Kd.N_nil _ _ _ _ _ | exact Kd.V_nil _ _ _ _ _ | exact Kd.Q_nil _ _ _ _ _ | exact Kd.R_nil _ _ _ _ _⟩, ⟨zb_ HB.out⟩⟩
 case round =>
  clear H'
  obtain ⟨x3_1, x8_1, rfl, HA, HK1, HO_3, HB⟩ := hrel
  cases gk with
  | zero => exact absurd HA.out (by simp [impl_units.l0])
  | succ k1 =>
   have H := HA.out
   clear HA
   simp only [impl_units.l0] at H
   by_cases c2 : x8_1 < (l0.length : Int)
   ·rw [if_pos c2] at H
    have c2b0 : decide (x8_1 < (l0.length : Int)) = true := decide_eq_true c2
    clear c2
    by_cases c3 : 0 ≤ x8_1
    ·rw [if_pos c3] at H
     have c3b0 : decide (0 ≤ x8_1) = true := decide_eq_true c3
     clear c3
     by_cases c4 : x8_1 < (l0.length : Int)
     ·rw [if_pos c4] at H
      have c4b0 : decide (x8_1 < (l0.length : Int)) = true := decide_eq_true c4
      clear c4
      obtain ⟨y272, hy272⟩ : ∃ y_ : List Int, y_ = (([rd l0 x8_1] : List Int)) := ⟨_, rfl⟩
      replace H : (if x3_1.length < 5864062014805 then (impl_units.l0 k1 (x3_1 ++ [y272]) l0 (l0.length : Int) (wrap64 (x8_1 + 1))) else (none)) = some r := by first | (rw [hy272]; with_reducible exact H) | (have H2_ := (Option.bind_some _ _).symm.trans H; rw [hy272]; with_reducible exact H2_) | (have H2_ := (Option.bind_some _ _).symm.trans H; with_reducible exact H2_) | with_reducible exact H | (rw [hy272]; exact H) | exact H
      have Ny272 := Aside0.mk hy272
      clear hy272
      by_cases c5 : x3_1.length < 5864062014805
      ·rw [if_pos c5] at H
       have LMc5 := Aside0.mk c5
       clear c5
       obtain ⟨y275, hy275⟩ : ∃ y_ : List (List Int), y_ = (x3_1 ++ [y272]) := ⟨_, rfl⟩
       replace H : (impl_units.l0 k1 y275 l0 (l0.length : Int) (wrap64 (x8_1 + 1))) = some r := by first | (rw [hy275]; with_reducible exact H) | (have H2_ := (Option.bind_some _ _).symm.trans H; rw [hy275]; with_reducible exact H2_) | (have H2_ := (Option.bind_some _ _).symm.trans H; with_reducible exact H2_) | with_reducible exact H | (rw [hy275]; exact H) | exact H
       have Ny275 := Aside0.mk hy275
       clear hy275
       have H' := Aside0.mk H
       clear H
       have p271 : 0 ≤ (x8_1 : Int) := of_decide_eq_true (by assumption)
       have q271 : x8_1 < (l0.length : Int) := of_decide_eq_true (by assumption)
       obtain ⟨ad271, e271, hx271_0⟩ := Kd.at_int HR0.out x8_1 p271 q271
       cases e271
       (try replace hx271_0 := (HB.out.cell (World.block_lt_of_cell? w _ hx271_0)).trans hx271_0)
       replace p271 := eq_true p271
       replace q271 := eq_true q271
       go_wp2_with (first | ((with_reducible refine gate_dst (N := 14) rfl ?_); refine Kd.R_lit (Kd.int .i64) _ 3 ?hg (N := 14) ?hd (xs := ([rd l0 x8_1] : List Int)) (inner := [.int .i64 (rd l0 x8_1)]) (ok := fun _ => True) (okp := fun _ => True) ?hr ?hp (fun _ hk => hk) trivial (Below.refl _ _) (Nat.le_refl _) (by simp) ?_; (case hd => rfl); (case hg => rfl); (case hr => first | (go_simp; done) | (go_simp; rfl)); (case hp => exact (Reps.one (show Kd.M (Kd.int .i64) _ _ _ (rd l0 x8_1) [.int .i64 (rd l0 x8_1)] from rfl) (Reps.none _ _))); intro v273 w6 ho7 hb hg_ hnew_; clear hg_ hnew_; (first | rw [← Ny272.out] at ho7 | (simp only [Int.reduceToNat] at ho7; rw [← Ny272.out] at ho7)); have n0_ := Aside0.mk (Kd.S_elder' (zS_ HO_3.out) (Kd.R_base ho7) hb); have n1_ := Aside0.mk (Kd.R_lower ho7 (below_size (zb_ HB.out))); have n2_ := Aside0.mk (below_step (zb_ HB.out) hb); clear HO_3; clear HB; have HO_3 := n0_; have HO274 := n1_; have HB := n2_; clear n0_ n1_ n2_; clear hb ho7; obtain ⟨Ao9, co9, eo9⟩ := Kd.R_slice HO274.out; subst eo9) | ((with_reducible refine gate_builtin (b := .append) (xs := #[.tmp 12, .tmp 15]) rfl ?_); at_builtin; refine Kd.S_append (Kd.slice 3 (Kd.int .i64)) (w0 := w) w.heap.size rfl (.tmp 12) (.tmp 15) 23 24 (.slice none 0 0) 24 rfl Try.underlying23 info24 rfl (by decide) (by omega) u3 x3_1 y272 [.slice Ao9 y272.length co9] (fun _ => True) (fun k_ => some k_ = (.slice Ao9 y272.length co9 : Value).ownBlock) rfl rfl ?aP (fun k_ hk_ => ((Kd.R_mono (ok' := fun k_ => ((fun _ => True)) k_ ∧ some k_ ≠ (u3 : Value).ownBlock) (Kd.R_apart' (HO274.out) (Kd.S_typed HO_3.out) (by decide)) (fun k_ hk => ⟨trivial, hk.2⟩))).1 k_ hk_.symm) ?aF ?aO ?aB ?aS ?aL ?_; (case aP => exact Kd.M_row (Kd.R_mono (Kd.R_tight rfl (Kd.R_mono (ok' := fun k_ => ((fun _ => True)) k_ ∧ some k_ ≠ (u3 : Value).ownBlock) (Kd.R_apart' (HO274.out) (Kd.S_typed HO_3.out) (by decide)) (fun k_ hk => ⟨trivial, hk.2⟩))) (fun _ h_ => h_))); (case aB => exact (zb_ HB.out)); (case aF => exact (fun _ _ => trivial)); (case aO => exact (by (with_reducible repeat (first | apply Kd.S_alloc | apply Kd.S_drewN | apply Kd.S_drew)); exact Kd.S_mono HO_3.out (fun k_ hk => ⟨trivial, fun e_ => hk.2 e_⟩))); (case aS => exact (below_size (zb_ HB.out))); (case aL => have := LMc5.out; omega); intro v276 w8 ho hb hg hat; rw [← Ny275.out] at ho; have n0_ := Aside0.mk (hb); have n1_ := Aside0.mk (ho); clear HB; clear HO_3; clear HO274; have HB := n0_; have HO277 := n1_; clear n0_ n1_; clear ho hb hg hat))
       go_roundg k1
       case measure => have := HK1.out; omega
       case rel => exact ⟨(y275), (wrap64 (x8_1 + 1)), (by first | rfl | (simp; done) | (simp [*]; done)), H', ⟨by have := HK1.out; omega⟩, ⟨zS_ HO277.out⟩, ⟨zb_ HB.out⟩⟩
      ·rw [if_neg c5] at H
       exact absurd H (by simp)
     ·rw [if_neg c4] at H
      exact absurd H (by simp)
    ·rw [if_neg c3] at H
     exact absurd H (by simp)
   ·rw [if_neg c2] at H
    have c2b0 : decide (x8_1 < (l0.length : Int)) = false := decide_eq_false c2
    clear c2
    obtain rfl := Option.some.inj H
    go_wp2
    go_ret
    exact ⟨_, by first | rfl | (simp [errW_none, errW_some] <;> rfl) | (simp [*, errW_none, errW_some] <;> rfl), zS_ HO_3.out, zb_ HB.out⟩
def impl_SolveWith.f (k : Nat) (a0 : Int) (l1 : List (List Int)) (l2 : List Int) : Option (Bool × List Bool × List (List Int) × Bool) := (impl_units.f k l2).bind fun u => if l1.length + u.length < 4398046511104 then ((impl_GoodClauses.f a0 l1).bind fun t1 => if t1 = true then ((impl_isClause.f l2 a0).bind fun t2 => if t2 = true then (if (l1 ++ u).length > 60 then some (false, [], [], false) else impl_solve.f k a0 (l1 ++ u)) else some (false, [], [], false)) else some (false, [], [], false)) else none
theorem impl_SolveWith.mono : ∀ a0 a1 a2 k, LeO (impl_SolveWith.f k a0 a1 a2) (impl_SolveWith.f (k + 1) a0 a1 a2) := by
 intro a0 a1 a2 k
 unfold impl_SolveWith.f
 repeat' first
 | (with_reducible exact impl_units.mono _ _)
 | (with_reducible exact impl_solve.mono _ _ _)
 | (with_reducible exact LeO.refl _)
 | (with_reducible exact LeO.none _)
 | (with_reducible refine LeO.ite ?_ ?_)
 | (with_reducible refine LeO.bind ?_ (fun _ => ?_))
set_option maxHeartbeats 1000000 in
set_option maxRecDepth 100000 in
theorem impl_SolveWith.calls (k : Nat) (a0 : Int) (A1 : Option Addr) (c1 : Nat) (l1 : List (List Int)) (A2 : Option Addr) (c2 : Nat) (l2 : List Int) (r1 : Bool) (r2 : List Bool) (r3 : List (List Int)) (r4 : Bool) (w : World) (hr1 : Kd.C (Kd.slice 3 (Kd.int .i64)) w A1 l1.length l1) (hc1 : l1.length ≤ c1) (hr2 : Kd.C (Kd.int .i64) w A2 l2.length l2) (hc2 : l2.length ≤ c2) (h : impl_SolveWith.f k a0 l1 l2 = some (r1, r2, r3, r4)) :
  Calls Try.prog 22 #[.int .i64 a0, .slice A1 l1.length c1, .slice A2 l2.length c2] w fun e w' => ∃ v1_ v2_ : Value, e = .returned (.tuple #[.bool r1, v1_, v2_, .bool r4]) ∧ Kd.R Kd.bool 4 w' w.heap.size (fun _ => True) v1_ r2 ∧ Kd.S (Kd.slice 3 (Kd.int .i64)) 24 w' w.heap.size (fun _ => True) v2_ r3 ∧ Below w.heap.size w w' := by
 have HR1 := Aside0.mk hr1
 have HC1 := Aside0.mk hc1
 have HR2 := Aside0.mk hr2
 have HC2 := Aside0.mk hc2
 clear hr1 hc1 hr2 hc2
 have HB := Aside0.mk (Below.refl w.heap.size w)
 unfold impl_SolveWith.f at h
 replace h := Option.bind_eq_some_iff.mp h
 obtain ⟨u, A0', h⟩ := h
 have G0 := Aside0.mk A0'
 clear A0'
 by_cases c0 : l1.length + u.length < 4398046511104
 ·rw [if_pos c0] at h
  obtain ⟨y, hy⟩ : ∃ y, y = l1 ++ u := ⟨_, rfl⟩
  have HY := Aside0.mk (show slices_Concat_rows [l1, u] = some y by unfold slices_Concat_rows; rw [if_pos (by simpa using c0), hy]; simp)
  rw [← hy] at h
  clear c0 hy
  replace h := Option.bind_eq_some_iff.mp h
  obtain ⟨t1, A1', h⟩ := h
  have G1 := Aside0.mk A1'
  clear A1'
  cases t1 with
  | false =>
   obtain ⟨rfl, rfl, rfl, rfl⟩ : false = r1 ∧ [] = r2 ∧ [] = r3 ∧ false = r4 := by simpa using h
   clear h
   go_enter Try.func22, Try.ntmps22
   go_wp2_with (first | (go_at_call 74; (with_reducible refine (impl_units.calls k _ _ l2 u _ ?side1 ?side2 G0.out).mono ?_); (case side1 => exact zC_ HR2.out); (case side2 => exact HC2.out); rintro e w4 ⟨v4, rfl, ho, hb⟩; obtain ⟨A4, c4, e4⟩ := Kd.S_slice ho; subst e4; have HR4 := Aside0.mk (Kd.S_reads' ho).2.2; have HC4 := Aside0.mk (Kd.S_reads' ho).2.1; have n0_ := Aside0.mk (below_step (zb_ HB.out) hb); clear HB; have HB := n0_; clear n0_ ho hb) | (go_at_call 71; (with_reducible refine (slices_Concat_two_calls _ _ l1 u y _ ?side1 ?side2 HY.out).mono ?_); (case side1 => exact C_two_ _ _ _ _ _ _ _ _ (Kd.C_below HR1.out HB.out) HC1.out HR4.out HC4.out); (case side2 => exact Nat.le_refl _); rintro e w5 ⟨v5, rfl, ho, hb⟩; obtain ⟨A5, c5, e5, hl5, hr5⟩ := R_came_ ho hb; subst e5; have HR5 := Aside0.mk hr5; have HC5 := Aside0.mk hl5; have n0_ := Aside0.mk (below_step (zb_ HB.out) hb); clear HB hr5 hl5 ho hb; have HB := n0_; clear n0_) | (go_at_call 26; (with_reducible refine (impl_GoodClauses.calls a0 _ _ l1 false _ ?side1 ?side2 G1.out).mono ?_); (case side1 => exact zC_ (Kd.C_below HR1.out HB.out)); (case side2 => exact HC1.out); rintro e w6 ⟨rfl, hb⟩; have q_ := Aside0.mk (Kd.C_below (show Kd.C (Kd.slice 3 (Kd.int .i64)) _ A5 y.length y by exact zC_ HR5.out) hb); clear HR5; have HR5 := q_; clear q_; have n0_ := Aside0.mk (below_step (zb_ HB.out) hb); clear HB; have HB := n0_; clear n0_ hb))
   (try simp only [Exit.inBlock, Exit.then])
   refine bodyPost_ret (results_tmp4_ rfl _ _ _) rfl ?_
   exact ⟨_, _, by first | rfl | simp, Kd.R_nil _ _ _ _ _, Kd.S_nil _ _ _ _ _, zb_ HB.out⟩
  | true =>
   rw [if_pos rfl] at h
   replace h := Option.bind_eq_some_iff.mp h
   obtain ⟨t2, A2', h⟩ := h
   have G2 := Aside0.mk A2'
   clear A2'
   cases t2 with
   | false =>
    obtain ⟨rfl, rfl, rfl, rfl⟩ : false = r1 ∧ [] = r2 ∧ [] = r3 ∧ false = r4 := by simpa using h
    clear h
    go_enter Try.func22, Try.ntmps22
    go_wp2_with (first | (go_at_call 74; (with_reducible refine (impl_units.calls k _ _ l2 u _ ?side1 ?side2 G0.out).mono ?_); (case side1 => exact zC_ HR2.out); (case side2 => exact HC2.out); rintro e w4 ⟨v4, rfl, ho, hb⟩; obtain ⟨A4, c4, e4⟩ := Kd.S_slice ho; subst e4; have HR4 := Aside0.mk (Kd.S_reads' ho).2.2; have HC4 := Aside0.mk (Kd.S_reads' ho).2.1; have n0_ := Aside0.mk (below_step (zb_ HB.out) hb); clear HB; have HB := n0_; clear n0_ ho hb) | (go_at_call 71; (with_reducible refine (slices_Concat_two_calls _ _ l1 u y _ ?side1 ?side2 HY.out).mono ?_); (case side1 => exact C_two_ _ _ _ _ _ _ _ _ (Kd.C_below HR1.out HB.out) HC1.out HR4.out HC4.out); (case side2 => exact Nat.le_refl _); rintro e w5 ⟨v5, rfl, ho, hb⟩; obtain ⟨A5, c5, e5, hl5, hr5⟩ := R_came_ ho hb; subst e5; have HR5 := Aside0.mk hr5; have HC5 := Aside0.mk hl5; have n0_ := Aside0.mk (below_step (zb_ HB.out) hb); clear HB hr5 hl5 ho hb; have HB := n0_; clear n0_) | (go_at_call 26; (with_reducible refine (impl_GoodClauses.calls a0 _ _ l1 true _ ?side1 ?side2 G1.out).mono ?_); (case side1 => exact zC_ (Kd.C_below HR1.out HB.out)); (case side2 => exact HC1.out); rintro e w6 ⟨rfl, hb⟩; have q_ := Aside0.mk (Kd.C_below (show Kd.C (Kd.slice 3 (Kd.int .i64)) _ A5 y.length y by exact zC_ HR5.out) hb); clear HR5; have HR5 := q_; clear q_; have n0_ := Aside0.mk (below_step (zb_ HB.out) hb); clear HB; have HB := n0_; clear n0_ hb) | (go_at_call 58; (with_reducible refine (impl_isClause.calls _ _ l2 a0 false _ ?side1 ?side2 G2.out).mono ?_); (case side1 => exact zC_ (Kd.C_below HR2.out HB.out)); (case side2 => exact HC2.out); rintro e w7 ⟨rfl, hb⟩; have q_ := Aside0.mk (Kd.C_below (show Kd.C (Kd.slice 3 (Kd.int .i64)) _ A5 y.length y by exact zC_ HR5.out) hb); clear HR5; have HR5 := q_; clear q_; have n0_ := Aside0.mk (below_step (zb_ HB.out) hb); clear HB; have HB := n0_; clear n0_ hb))
    (try simp only [Exit.inBlock, Exit.then])
    refine bodyPost_ret (results_tmp4_ rfl _ _ _) rfl ?_
    exact ⟨_, _, by first | rfl | simp, Kd.R_nil _ _ _ _ _, Kd.S_nil _ _ _ _ _, zb_ HB.out⟩
   | true =>
    rw [if_pos rfl] at h
    by_cases c3 : y.length > 60
    ·rw [if_pos c3] at h
     obtain ⟨rfl, rfl, rfl, rfl⟩ : false = r1 ∧ [] = r2 ∧ [] = r3 ∧ false = r4 := by simpa using h
     have d1 : decide (60 < y.length) = true := decide_eq_true c3
     have d2 : decide (60 < (y.length : Int)) = true := decide_eq_true (by omega)
     clear h c3
     go_enter Try.func22, Try.ntmps22
     go_wp2_with (first | (go_at_call 74; (with_reducible refine (impl_units.calls k _ _ l2 u _ ?side1 ?side2 G0.out).mono ?_); (case side1 => exact zC_ HR2.out); (case side2 => exact HC2.out); rintro e w4 ⟨v4, rfl, ho, hb⟩; obtain ⟨A4, c4, e4⟩ := Kd.S_slice ho; subst e4; have HR4 := Aside0.mk (Kd.S_reads' ho).2.2; have HC4 := Aside0.mk (Kd.S_reads' ho).2.1; have n0_ := Aside0.mk (below_step (zb_ HB.out) hb); clear HB; have HB := n0_; clear n0_ ho hb) | (go_at_call 71; (with_reducible refine (slices_Concat_two_calls _ _ l1 u y _ ?side1 ?side2 HY.out).mono ?_); (case side1 => exact C_two_ _ _ _ _ _ _ _ _ (Kd.C_below HR1.out HB.out) HC1.out HR4.out HC4.out); (case side2 => exact Nat.le_refl _); rintro e w5 ⟨v5, rfl, ho, hb⟩; obtain ⟨A5, c5, e5, hl5, hr5⟩ := R_came_ ho hb; subst e5; have HR5 := Aside0.mk hr5; have HC5 := Aside0.mk hl5; have n0_ := Aside0.mk (below_step (zb_ HB.out) hb); clear HB hr5 hl5 ho hb; have HB := n0_; clear n0_) | (go_at_call 26; (with_reducible refine (impl_GoodClauses.calls a0 _ _ l1 true _ ?side1 ?side2 G1.out).mono ?_); (case side1 => exact zC_ (Kd.C_below HR1.out HB.out)); (case side2 => exact HC1.out); rintro e w6 ⟨rfl, hb⟩; have q_ := Aside0.mk (Kd.C_below (show Kd.C (Kd.slice 3 (Kd.int .i64)) _ A5 y.length y by exact zC_ HR5.out) hb); clear HR5; have HR5 := q_; clear q_; have n0_ := Aside0.mk (below_step (zb_ HB.out) hb); clear HB; have HB := n0_; clear n0_ hb) | (go_at_call 58; (with_reducible refine (impl_isClause.calls _ _ l2 a0 true _ ?side1 ?side2 G2.out).mono ?_); (case side1 => exact zC_ (Kd.C_below HR2.out HB.out)); (case side2 => exact HC2.out); rintro e w7 ⟨rfl, hb⟩; have q_ := Aside0.mk (Kd.C_below (show Kd.C (Kd.slice 3 (Kd.int .i64)) _ A5 y.length y by exact zC_ HR5.out) hb); clear HR5; have HR5 := q_; clear q_; have n0_ := Aside0.mk (below_step (zb_ HB.out) hb); clear HB; have HB := n0_; clear n0_ hb))
     (try simp only [Exit.inBlock, Exit.then])
     refine bodyPost_ret (results_tmp4_ rfl _ _ _) rfl ?_
     exact ⟨_, _, by first | rfl | simp, Kd.R_nil _ _ _ _ _, Kd.S_nil _ _ _ _ _, zb_ HB.out⟩
    ·rw [if_neg c3] at h
     have G3 := Aside0.mk h
     have d1 : decide (60 < y.length) = false := decide_eq_false c3
     have d2 : decide (60 < (y.length : Int)) = false := decide_eq_false (by omega)
     clear h c3
     go_enter Try.func22, Try.ntmps22
     go_wp2_with (first | (go_at_call 74; (with_reducible refine (impl_units.calls k _ _ l2 u _ ?side1 ?side2 G0.out).mono ?_); (case side1 => exact zC_ HR2.out); (case side2 => exact HC2.out); rintro e w4 ⟨v4, rfl, ho, hb⟩; obtain ⟨A4, c4, e4⟩ := Kd.S_slice ho; subst e4; have HR4 := Aside0.mk (Kd.S_reads' ho).2.2; have HC4 := Aside0.mk (Kd.S_reads' ho).2.1; have n0_ := Aside0.mk (below_step (zb_ HB.out) hb); clear HB; have HB := n0_; clear n0_ ho hb) | (go_at_call 71; (with_reducible refine (slices_Concat_two_calls _ _ l1 u y _ ?side1 ?side2 HY.out).mono ?_); (case side1 => exact C_two_ _ _ _ _ _ _ _ _ (Kd.C_below HR1.out HB.out) HC1.out HR4.out HC4.out); (case side2 => exact Nat.le_refl _); rintro e w5 ⟨v5, rfl, ho, hb⟩; obtain ⟨A5, c5, e5, hl5, hr5⟩ := R_came_ ho hb; subst e5; have HR5 := Aside0.mk hr5; have HC5 := Aside0.mk hl5; have n0_ := Aside0.mk (below_step (zb_ HB.out) hb); clear HB hr5 hl5 ho hb; have HB := n0_; clear n0_) | (go_at_call 26; (with_reducible refine (impl_GoodClauses.calls a0 _ _ l1 true _ ?side1 ?side2 G1.out).mono ?_); (case side1 => exact zC_ (Kd.C_below HR1.out HB.out)); (case side2 => exact HC1.out); rintro e w6 ⟨rfl, hb⟩; have q_ := Aside0.mk (Kd.C_below (show Kd.C (Kd.slice 3 (Kd.int .i64)) _ A5 y.length y by exact zC_ HR5.out) hb); clear HR5; have HR5 := q_; clear q_; have n0_ := Aside0.mk (below_step (zb_ HB.out) hb); clear HB; have HB := n0_; clear n0_ hb) | (go_at_call 58; (with_reducible refine (impl_isClause.calls _ _ l2 a0 true _ ?side1 ?side2 G2.out).mono ?_); (case side1 => exact zC_ (Kd.C_below HR2.out HB.out)); (case side2 => exact HC2.out); rintro e w7 ⟨rfl, hb⟩; have q_ := Aside0.mk (Kd.C_below (show Kd.C (Kd.slice 3 (Kd.int .i64)) _ A5 y.length y by exact zC_ HR5.out) hb); clear HR5; have HR5 := q_; clear q_; have n0_ := Aside0.mk (below_step (zb_ HB.out) hb); clear HB; have HB := n0_; clear n0_ hb) | (go_at_call 73; (with_reducible refine (impl_solve.calls k a0 _ _ y r1 r2 r3 r4 _ ?side1 ?side2 G3.out).mono ?_); (case side1 => exact zC_ HR5.out); (case side2 => exact HC5.out); rintro e w8 ⟨v8, v9, rfl, ho, ho2, hb⟩; have HO8 := Aside0.mk (Kd.R_lower ho (below_size (zb_ HB.out))); have HO9 := Aside0.mk (Kd.S_lower ho2 (below_size (zb_ HB.out))); have n0_ := Aside0.mk (below_step (zb_ HB.out) hb); clear HB; have HB := n0_; clear n0_ ho ho2 hb))
     (try simp only [Exit.inBlock, Exit.then])
     refine bodyPost_ret (results_tmp4_ rfl _ _ _) rfl ?_
     exact ⟨_, _, by first | rfl | simp, zR_ HO8.out, zS_ HO9.out, zb_ HB.out⟩
 ·rw [if_neg c0] at h
  exact absurd h (by simp)
def impl_FollowsFrom.j0 : Nat → Int → List (List Int) → List Int → Bool → Option (Bool × Bool)
 | 0, _, _, _, _ => none
 | k + 1, x0, x1, x2, x21 => if x21 = true then (some (false, false)) else ((impl_learn.f k x2).bind fun t280 => ((impl_SolveWith.f k x0 x1 t280).bind fun bt283 => (if bt283.2.2.2 = true then (some (!bt283.1, bt283.2.2.2)) else (some (false, bt283.2.2.2)))))
def impl_FollowsFrom.f (k : Nat) (a0 : Int) (l1 : List (List Int)) (l2 : List Int) : Option (Bool × Bool) := (impl_GoodClauses.f a0 l1).bind fun t278 => (if t278 = true then ((impl_isClause.f l2 a0).bind fun t279 => (impl_FollowsFrom.j0 k a0 l1 l2 (!t279))) else (impl_FollowsFrom.j0 k a0 l1 l2 true))
theorem impl_FollowsFrom.mono_l : ∀ k, (∀ y0 y1 y2 y3, LeO (impl_FollowsFrom.j0 k y0 y1 y2 y3) (impl_FollowsFrom.j0 (k + 1) y0 y1 y2 y3))
 | 0 => fun _ _ _ _ r h => by simp [impl_FollowsFrom.j0] at h
 | k + 1 => by
  have ih0 := impl_FollowsFrom.mono_l k
  ·intro y0 y1 y2 y3
   unfold impl_FollowsFrom.j0
   repeat' first
   | (with_reducible exact ih0 _ _ _ _)
   | (with_reducible exact impl_SolveWith.mono _ _ _ _)
   | (with_reducible exact impl_learn.mono _ _)
   | (with_reducible exact LeO.refl _)
   | (with_reducible exact LeO.none _)
   | (with_reducible refine LeO.ite ?_ ?_)
   | (with_reducible refine LeO.bind ?_ (fun _ => ?_))
   | exact ih0 _ _ _ _
   | exact impl_SolveWith.mono _ _ _ _
   | exact impl_learn.mono _ _
   | exact LeO.none _
   | refine LeO.ite ?_ ?_
   | refine LeO.bind ?_ (fun _ => ?_)
theorem impl_FollowsFrom.mono : ∀ a0 a1 a2 k, LeO (impl_FollowsFrom.f k a0 a1 a2) (impl_FollowsFrom.f (k + 1) a0 a1 a2) := by
 intro a0 a1 a2 k
 have ih0 := impl_FollowsFrom.mono_l k
 unfold impl_FollowsFrom.f
 repeat' first
   | (with_reducible exact ih0 _ _ _ _)
   | (with_reducible exact impl_SolveWith.mono _ _ _ _)
   | (with_reducible exact impl_learn.mono _ _)
   | (with_reducible exact LeO.refl _)
   | (with_reducible exact LeO.none _)
   | (with_reducible refine LeO.ite ?_ ?_)
   | (with_reducible refine LeO.bind ?_ (fun _ => ?_))
   | exact ih0 _ _ _ _
   | exact impl_SolveWith.mono _ _ _ _
   | exact impl_learn.mono _ _
   | exact LeO.none _
   | refine LeO.ite ?_ ?_
   | refine LeO.bind ?_ (fun _ => ?_)
set_option maxHeartbeats 8000000 in
set_option maxRecDepth 100000 in
theorem impl_FollowsFrom.calls (k : Nat) (a0 : Int) (A1 : Option Addr) (c1 : Nat) (l1 : List (List Int)) (A2 : Option Addr) (c2 : Nat) (l2 : List Int) (r1 : Bool) (r2 : Bool) (w : World) (hr1 : Kd.C (Kd.slice 3 (Kd.int .i64)) w A1 l1.length l1) (hc1 : l1.length ≤ c1) (hr2 : Kd.C (Kd.int .i64) w A2 l2.length l2) (hc2 : l2.length ≤ c2) (h : impl_FollowsFrom.f k a0 l1 l2 = some (r1, r2)) :
  Calls Try.prog 8 #[.int .i64 a0, .slice A1 l1.length c1, .slice A2 l2.length c2] w fun e w' => e = .returned (.tuple #[.bool r1, .bool r2]) ∧ Below w.heap.size w w' := by
 have HR1 := Aside0.mk hr1
 have HC1 := Aside0.mk hc1
 clear hr1 hc1
 have HR2 := Aside0.mk hr2
 have HC2 := Aside0.mk hc2
 clear hr2 hc2
 have HB := Aside0.mk (Below.refl w.heap.size w)
 have H : ((impl_GoodClauses.f a0 l1).bind fun t278 => (if t278 = true then ((impl_isClause.f l2 a0).bind fun t279 => (impl_FollowsFrom.j0 k a0 l1 l2 (!t279))) else (impl_FollowsFrom.j0 k a0 l1 l2 true))) = some (r1, r2) := h
 clear h
 have HC4 := Aside0.mk H
 clear H
 go_enter Try.func8, Try.ntmps8
 go_upto_region 1 with (fail)
 go_cut [21] (fun v21 wc => ∃ (kq : Nat) (x21_3 : Bool), v21 = .bool x21_3 ∧ Aside0 (impl_FollowsFrom.j0 kq a0 l1 l2 x21_3 = some (r1, r2)) ∧ Aside0 (kq ≤ k) ∧ Aside0 (Below w.heap.size w wc))
 case first =>
  have H := HC4.out
  clear HC4
  replace H := Option.bind_eq_some_iff.mp H
  obtain ⟨t278, A50, H⟩ := H
  (try dsimp only at H)
  have A5 := Aside0.mk A50
  clear A50
  by_cases c6 : t278 = true
  ·subst c6
   have H1 : ((impl_isClause.f l2 a0).bind fun t279 => (impl_FollowsFrom.j0 k a0 l1 l2 (!t279))) = some (r1, r2) := by rw [if_pos rfl] at H; exact H
   clear H
   have H := H1
   clear H1
   replace H := Option.bind_eq_some_iff.mp H
   obtain ⟨t279, A70, H⟩ := H
   (try dsimp only at H)
   have A7 := Aside0.mk A70
   clear A70
   have H' := Aside0.mk H
   clear H
   go_wp2_with (first | ((with_reducible refine gate_callee (f := 26) rfl ?_); refine goesL_ (some 14) rfl rfl Try.func26 (by kernel_rfl) rfl #[.int .i64 a0, .slice A1 l1.length c1] rfl (by simp only [zA_, zB_, zD_] <;> rfl) ?_; (with_reducible refine (impl_GoodClauses.calls a0 _ _ l1 true _ ?side1 ?side2 A5.out).mono ?_); (case side1 => exact zC_ (Kd.C_below HR1.out HB.out)); (case side2 => exact HC1.out); rintro e w8 ⟨rfl, hb⟩; refine ⟨_, rfl, ?_⟩; have n0_ := Aside0.mk (below_step (zb_ HB.out) hb); clear HB; have HB := n0_; clear n0_; (try clear hb); (try clear hb2); (try clear hk); (try clear hi)) | (go_at_call 58; (with_reducible refine (impl_isClause.calls _ _ l2 a0 t279 _ ?side1 ?side2 A7.out).mono ?_); (case side1 => exact zC_ (Kd.C_below HR2.out HB.out)); (case side2 => exact HC2.out); rintro e w9 ⟨rfl, hb⟩; have n0_ := Aside0.mk (below_step (zb_ HB.out) hb); clear HB; have HB := n0_; clear n0_; (try clear hb); (try clear hb2); (try clear hk); (try clear hi)))
   go_meet
   case rel => exact ⟨_, (!t279), (by first | rfl | (simp; done) | (simp [*]; done)), H', ⟨by first | omega | exact Nat.le_refl _⟩, ⟨zb_ HB.out⟩⟩
  ·replace c6 := Bool.eq_false_iff.mpr c6
   subst c6
   have H1 : (impl_FollowsFrom.j0 k a0 l1 l2 true) = some (r1, r2) := by rw [if_neg (show ¬ (false = true) by decide)] at H; exact H
   clear H
   have H := H1
   clear H1
   have H' := Aside0.mk H
   clear H
   go_wp2_with (first | ((with_reducible refine gate_callee (f := 26) rfl ?_); refine goesL_ (some 14) rfl rfl Try.func26 (by kernel_rfl) rfl #[.int .i64 a0, .slice A1 l1.length c1] rfl (by simp only [zA_, zB_, zD_] <;> rfl) ?_; (with_reducible refine (impl_GoodClauses.calls a0 _ _ l1 false _ ?side1 ?side2 A5.out).mono ?_); (case side1 => exact zC_ (Kd.C_below HR1.out HB.out)); (case side2 => exact HC1.out); rintro e w10 ⟨rfl, hb⟩; refine ⟨_, rfl, ?_⟩; have n0_ := Aside0.mk (below_step (zb_ HB.out) hb); clear HB; have HB := n0_; clear n0_; (try clear hb); (try clear hb2); (try clear hk); (try clear hi)))
   go_meet
   case rel => exact ⟨_, (true), (by first | rfl | (simp; done) | (simp [*]; done)), H', ⟨by first | omega | exact Nat.le_refl _⟩, ⟨zb_ HB.out⟩⟩
 case rest =>
  clear HC4
  try clear c1
  try clear c2
  try clear p2
  try clear c6
  try clear c8
  obtain ⟨kq, x21_3, rfl, HA, HJ3, HB⟩ := hcut
  cases kq with
  | zero => exact absurd HA.out (by simp [impl_FollowsFrom.j0])
  | succ kj3 =>
   have H := HA.out
   clear HA
   simp only [impl_FollowsFrom.j0] at H
   by_cases c11 : x21_3 = true
   ·subst c11
    have H1 : (some (false, false)) = some (r1, r2) := by rw [if_pos rfl] at H; exact H
    clear H
    have H := H1
    clear H1
    simp only [Option.some.injEq, Prod.mk.injEq] at H
    obtain ⟨rfl, rfl⟩ := H
    go_wp2
    go_ret2
    exact ⟨by first | rfl | (simp [errW_none, errW_some] <;> rfl) | (simp [*, errW_none, errW_some] <;> rfl), zb_ HB.out⟩
   ·replace c11 := Bool.eq_false_iff.mpr c11
    subst c11
    have H1 : ((impl_learn.f kj3 l2).bind fun t280 => ((impl_SolveWith.f kj3 a0 l1 t280).bind fun bt283 => (if bt283.2.2.2 = true then (some (!bt283.1, bt283.2.2.2)) else (some (false, bt283.2.2.2))))) = some (r1, r2) := by rw [if_neg (show ¬ (false = true) by decide)] at H; exact H
    clear H
    have H := H1
    clear H1
    replace H := Option.bind_eq_some_iff.mp H
    obtain ⟨t280, A120, H⟩ := H
    (try dsimp only at H)
    have A12 := Aside0.mk A120
    clear A120
    replace H := Option.bind_eq_some_iff.mp H
    obtain ⟨⟨t283, t284, t285, t286⟩, A130, H⟩ := H
    (try dsimp only at H)
    have A13 := Aside0.mk A130
    clear A130
    by_cases c14 : t286 = true
    ·subst c14
     have H1 : (some (!t283, true)) = some (r1, r2) := by rw [if_pos rfl] at H; exact H
     clear H
     have H := H1
     clear H1
     simp only [Option.some.injEq, Prod.mk.injEq] at H
     obtain ⟨rfl, rfl⟩ := H
     go_wp2_with (first | ((with_reducible refine gate_callee (f := 59) rfl ?_); refine goesL_ (some 26) rfl rfl Try.func59 (by kernel_rfl) rfl #[.slice A2 l2.length c2] rfl (by simp only [zA_, zB_, zD_] <;> rfl) ?_; (with_reducible refine (impl_learn.calls kj3 _ _ l2 t280 _ ?side1 ?side2 A12.out).mono ?_); (case side1 => exact zC_ (Kd.C_below HR2.out HB.out)); (case side2 => exact HC2.out); rintro e w15 ⟨v281, rfl, ho0, hb⟩; refine ⟨_, rfl, ?_⟩; have n0_ := Aside0.mk (Kd.R_lower ho0 (below_size (zb_ HB.out))); have n1_ := Aside0.mk (below_step (zb_ HB.out) hb); clear HB; have HO282 := n0_; have HB := n1_; clear n0_ n1_; (try clear hb); (try clear hb2); (try clear hk); (try clear hi); (try clear ho0); obtain ⟨Ao16, co16, eo16⟩ := Kd.R_slice HO282.out; subst eo16) | ((with_reducible refine gate_callee (f := 22) rfl ?_); refine goesL_ (some 27) rfl rfl Try.func22 (by kernel_rfl) rfl #[.int .i64 a0, .slice A1 l1.length c1, .slice Ao16 t280.length co16] rfl (by simp only [zA_, zB_, zD_] <;> rfl) ?_; (with_reducible refine (impl_SolveWith.calls kj3 a0 _ _ l1 _ _ t280 t283 t284 t285 true _ ?side1 ?side2 ?side3 ?side4 A13.out).mono ?_); (case side1 => exact zC_ (Kd.C_below HR1.out HB.out)); (case side2 => exact HC1.out); (case side3 => exact zC_ (Kd.R_reads' HO282.out).2.2); (case side4 => exact (Kd.R_reads' HO282.out).2.1); rintro e w17 ⟨v287, v289, rfl, ho0, ho1, hb⟩; refine ⟨_, rfl, ?_⟩; have n0_ := Aside0.mk (Kd.R_below (zR_ HO282.out) hb); have n1_ := Aside0.mk (Kd.R_lower ho0 (below_size (zb_ HB.out))); have n2_ := Aside0.mk (Kd.S_lower (Kd.S_new' ho1 (Kd.R_lt (zR_ HO282.out))) (below_size (zb_ HB.out))); have n3_ := Aside0.mk (below_step (zb_ HB.out) hb); clear HO282; clear HB; have HO282 := n0_; have HO288 := n1_; have HO290 := n2_; have HB := n3_; clear n0_ n1_ n2_ n3_; (try clear hb); (try clear hb2); (try clear hk); (try clear hi); (try clear ho0); (try clear ho1)))
     go_ret2
     exact ⟨by first | rfl | (simp [errW_none, errW_some] <;> rfl) | (simp [*, errW_none, errW_some] <;> rfl), zb_ HB.out⟩
    ·replace c14 := Bool.eq_false_iff.mpr c14
     subst c14
     have H1 : (some (false, false)) = some (r1, r2) := by rw [if_neg (show ¬ (false = true) by decide)] at H; exact H
     clear H
     have H := H1
     clear H1
     simp only [Option.some.injEq, Prod.mk.injEq] at H
     obtain ⟨rfl, rfl⟩ := H
     go_wp2_with (first | ((with_reducible refine gate_callee (f := 59) rfl ?_); refine goesL_ (some 26) rfl rfl Try.func59 (by kernel_rfl) rfl #[.slice A2 l2.length c2] rfl (by simp only [zA_, zB_, zD_] <;> rfl) ?_; (with_reducible refine (impl_learn.calls kj3 _ _ l2 t280 _ ?side1 ?side2 A12.out).mono ?_); (case side1 => exact zC_ (Kd.C_below HR2.out HB.out)); (case side2 => exact HC2.out); rintro e w18 ⟨v281, rfl, ho0, hb⟩; refine ⟨_, rfl, ?_⟩; have n0_ := Aside0.mk (Kd.R_lower ho0 (below_size (zb_ HB.out))); have n1_ := Aside0.mk (below_step (zb_ HB.out) hb); clear HB; have HO282 := n0_; have HB := n1_; clear n0_ n1_; (try clear hb); (try clear hb2); (try clear hk); (try clear hi); (try clear ho0); obtain ⟨Ao19, co19, eo19⟩ := Kd.R_slice HO282.out; subst eo19) | ((with_reducible refine gate_callee (f := 22) rfl ?_); refine goesL_ (some 27) rfl rfl Try.func22 (by kernel_rfl) rfl #[.int .i64 a0, .slice A1 l1.length c1, .slice Ao19 t280.length co19] rfl (by simp only [zA_, zB_, zD_] <;> rfl) ?_; (with_reducible refine (impl_SolveWith.calls kj3 a0 _ _ l1 _ _ t280 t283 t284 t285 false _ ?side1 ?side2 ?side3 ?side4 A13.out).mono ?_); (case side1 => exact zC_ (Kd.C_below HR1.out HB.out)); (case side2 => exact HC1.out); (case side3 => exact zC_ (Kd.R_reads' HO282.out).2.2); (case side4 => exact (Kd.R_reads' HO282.out).2.1); rintro e w20 ⟨v287, v289, rfl, ho0, ho1, hb⟩; refine ⟨_, rfl, ?_⟩; have n0_ := Aside0.mk (Kd.R_below (zR_ HO282.out) hb); have n1_ := Aside0.mk (Kd.R_lower ho0 (below_size (zb_ HB.out))); have n2_ := Aside0.mk (Kd.S_lower (Kd.S_new' ho1 (Kd.R_lt (zR_ HO282.out))) (below_size (zb_ HB.out))); have n3_ := Aside0.mk (below_step (zb_ HB.out) hb); clear HO282; clear HB; have HO282 := n0_; have HO288 := n1_; have HO290 := n2_; have HB := n3_; clear n0_ n1_ n2_ n3_; (try clear hb); (try clear hb2); (try clear hk); (try clear hi); (try clear ho0); (try clear ho1)))
     go_ret2
     exact ⟨by first | rfl | (simp [errW_none, errW_some] <;> rfl) | (simp [*, errW_none, errW_some] <;> rfl), zb_ HB.out⟩
mutual
def spec_l4Good.j0 : Nat → Int → List (List Int) → Bool → Option (Bool)
 | 0, _, _, _ => none
 | k + 1, x0, x1, x17 => if x17 = true then (some false) else (spec_l4Good.l0 k x0 x1 (x1.length : Int) 0)
def spec_l4Good.l0 : Nat → Int → List (List Int) → Int → Int → Option (Bool)
 | 0, _, _, _, _ => none
 | k + 1, x0, x18, x19, x20 => if x20 < x19 then (if 0 ≤ x20 then (if x20 < (x18.length : Int) then ((spec_l4Clause.f k x0 (rd_L2 x18 x20)).bind fun t293 => (if t293 = true then (spec_l4Good.l0 k x0 x18 x19 (wrap64 (x20 + 1))) else (some false))) else (none)) else (none)) else (some true)
end
def spec_l4Good.f (k : Nat) (a0 : Int) (l1 : List (List Int)) (a2 : Int) : Option (Bool) := (spec_l1In.f a0 0 12).bind fun t291 => (if t291 = true then (spec_l4Good.j0 k a0 l1 (decide ((l1.length : Int) > a2))) else (spec_l4Good.j0 k a0 l1 true))
theorem spec_l4Good.mono_l : ∀ k, (∀ y0 y1 y2, LeO (spec_l4Good.j0 k y0 y1 y2) (spec_l4Good.j0 (k + 1) y0 y1 y2)) ∧ (∀ y0 y1 y2 y3, LeO (spec_l4Good.l0 k y0 y1 y2 y3) (spec_l4Good.l0 (k + 1) y0 y1 y2 y3))
 | 0 => ⟨fun _ _ _ r h => by simp [spec_l4Good.j0] at h, fun _ _ _ _ r h => by simp [spec_l4Good.l0] at h⟩
 | k + 1 => by
  obtain ⟨ih0, ih1⟩ := spec_l4Good.mono_l k
  refine ⟨?_, ?_⟩
  ·intro y0 y1 y2
   unfold spec_l4Good.j0
   repeat' first
   | (with_reducible exact ih0 _ _ _)
   | (with_reducible exact ih1 _ _ _ _)
   | (with_reducible exact spec_l4Clause.mono _ _ _)
   | (with_reducible exact LeO.refl _)
   | (with_reducible exact LeO.none _)
   | (with_reducible refine LeO.ite ?_ ?_)
   | (with_reducible refine LeO.bind ?_ (fun _ => ?_))
   | exact ih0 _ _ _
   | exact ih1 _ _ _ _
   | exact spec_l4Clause.mono _ _ _
   | exact LeO.none _
   | refine LeO.ite ?_ ?_
   | refine LeO.bind ?_ (fun _ => ?_)
  ·intro y0 y1 y2 y3
   unfold spec_l4Good.l0
   repeat' first
   | (with_reducible exact ih0 _ _ _)
   | (with_reducible exact ih1 _ _ _ _)
   | (with_reducible exact spec_l4Clause.mono _ _ _)
   | (with_reducible exact LeO.refl _)
   | (with_reducible exact LeO.none _)
   | (with_reducible refine LeO.ite ?_ ?_)
   | (with_reducible refine LeO.bind ?_ (fun _ => ?_))
   | exact ih0 _ _ _
   | exact ih1 _ _ _ _
   | exact spec_l4Clause.mono _ _ _
   | exact LeO.none _
   | refine LeO.ite ?_ ?_
   | refine LeO.bind ?_ (fun _ => ?_)
theorem spec_l4Good.mono : ∀ a0 a1 a2 k, LeO (spec_l4Good.f k a0 a1 a2) (spec_l4Good.f (k + 1) a0 a1 a2) := by
 intro a0 a1 a2 k
 obtain ⟨ih0, ih1⟩ := spec_l4Good.mono_l k
 unfold spec_l4Good.f
 repeat' first
   | (with_reducible exact ih0 _ _ _)
   | (with_reducible exact ih1 _ _ _ _)
   | (with_reducible exact spec_l4Clause.mono _ _ _)
   | (with_reducible exact LeO.refl _)
   | (with_reducible exact LeO.none _)
   | (with_reducible refine LeO.ite ?_ ?_)
   | (with_reducible refine LeO.bind ?_ (fun _ => ?_))
   | exact ih0 _ _ _
   | exact ih1 _ _ _ _
   | exact spec_l4Clause.mono _ _ _
   | exact LeO.none _
   | refine LeO.ite ?_ ?_
   | refine LeO.bind ?_ (fun _ => ?_)
set_option maxHeartbeats 8000000 in
set_option maxRecDepth 100000 in
theorem spec_l4Good.calls (k : Nat) (a0 : Int) (A1 : Option Addr) (c1 : Nat) (l1 : List (List Int)) (a2 : Int) (r : Bool) (w : World) (hr1 : Kd.C (Kd.slice 3 (Kd.int .i64)) w A1 l1.length l1) (hc1 : l1.length ≤ c1) (h : spec_l4Good.f k a0 l1 a2 = some r) :
  Calls Try.prog 81 #[.int .i64 a0, .slice A1 l1.length c1, .int .i64 a2] w fun e w' => e = .returned (.bool r) ∧ Drawn0 w w' := by
 have HR1 := Aside0.mk hr1
 have HC1 := Aside0.mk hc1
 clear hr1 hc1
 have H : ((spec_l1In.f a0 0 12).bind fun t291 => (if t291 = true then (spec_l4Good.j0 k a0 l1 (decide ((l1.length : Int) > a2))) else (spec_l4Good.j0 k a0 l1 true))) = some r := h
 clear h
 have HC4 := Aside0.mk H
 clear H
 go_enter Try.func81, Try.ntmps81
 go_upto_region 1 with (fail)
 go_cut [17] (fun v17 wc => ∃ (kq : Nat) (x17_3 : Bool), v17 = .bool x17_3 ∧ Aside0 (spec_l4Good.j0 kq a0 l1 x17_3 = some r) ∧ Aside0 (kq ≤ k) ∧ Drawn0 w wc)
 case first =>
  have H := HC4.out
  clear HC4
  replace H := Option.bind_eq_some_iff.mp H
  obtain ⟨t291, A50, H⟩ := H
  (try dsimp only at H)
  have A5 := Aside0.mk A50
  clear A50
  by_cases c6 : t291 = true
  ·subst c6
   have H1 : (spec_l4Good.j0 k a0 l1 (decide ((l1.length : Int) > a2))) = some r := by rw [if_pos rfl] at H; exact H
   clear H
   have H := H1
   clear H1
   have H' := Aside0.mk H
   clear H
   go_wp2_with (first | ((with_reducible refine gate_callee (f := 88) rfl ?_); refine goesL_ (some 10) rfl rfl Try.func88 (by kernel_rfl) rfl #[.int .i64 a0, .int .i64 0, .int .i64 12] rfl (by simp only [zA_, zB_, zD_] <;> rfl) ?_; (with_reducible refine (spec_l1In.calls a0 0 12 true _ A5.out).mono ?_); rintro e w' ⟨rfl, ⟨nd, rfl⟩⟩; refine ⟨_, rfl, ?_⟩))
   go_meet
   case rel => exact ⟨_, (decide ((l1.length : Int) > a2)), (by first | rfl | (simp; done) | (simp [*]; done)), H', ⟨by first | omega | exact Nat.le_refl _⟩, by repeat (first | exact Drawn0.refl _ | apply Drawn0.step)⟩
  ·replace c6 := Bool.eq_false_iff.mpr c6
   subst c6
   have H1 : (spec_l4Good.j0 k a0 l1 true) = some r := by rw [if_neg (show ¬ (false = true) by decide)] at H; exact H
   clear H
   have H := H1
   clear H1
   have H' := Aside0.mk H
   clear H
   go_wp2_with (first | ((with_reducible refine gate_callee (f := 88) rfl ?_); refine goesL_ (some 10) rfl rfl Try.func88 (by kernel_rfl) rfl #[.int .i64 a0, .int .i64 0, .int .i64 12] rfl (by simp only [zA_, zB_, zD_] <;> rfl) ?_; (with_reducible refine (spec_l1In.calls a0 0 12 false _ A5.out).mono ?_); rintro e w' ⟨rfl, ⟨nd, rfl⟩⟩; refine ⟨_, rfl, ?_⟩))
   go_meet
   case rel => exact ⟨_, (true), (by first | rfl | (simp; done) | (simp [*]; done)), H', ⟨by first | omega | exact Nat.le_refl _⟩, by repeat (first | exact Drawn0.refl _ | apply Drawn0.step)⟩
 case rest =>
  clear HC4
  try clear c1
  try clear p2
  try clear c6
  obtain ⟨kq, x17_3, rfl, HA, HJ3, ⟨mc3, rfl⟩⟩ := hcut
  cases kq with
  | zero => exact absurd HA.out (by simp [spec_l4Good.j0])
  | succ kj3 =>
   have H := HA.out
   clear HA
   simp only [spec_l4Good.j0] at H
   by_cases c7 : x17_3 = true
   ·subst c7
    have H1 : (some false) = some r := by rw [if_pos rfl] at H; exact H
    clear H
    have H := H1
    clear H1
    obtain rfl := Option.some.inj H
    go_wp2
    go_ret
    exact ⟨by first | rfl | (simp; done) | (simp [*]; done), by repeat (first | exact Drawn0.refl _ | apply Drawn0.step)⟩
   ·replace c7 := Bool.eq_false_iff.mpr c7
    subst c7
    have H1 : (spec_l4Good.l0 kj3 a0 l1 (l1.length : Int) 0) = some r := by rw [if_neg (show ¬ (false = true) by decide)] at H; exact H
    clear H
    have H := H1
    clear H1
    have H' := Aside0.mk H
    clear H
    go_wp2
    go_loopg [20] kj3 (fun kq v20 w' => ∃ (x20_2 : Int), v20 = .int .i64 x20_2 ∧ Aside0 (spec_l4Good.l0 kq a0 l1 (l1.length : Int) x20_2 = some r) ∧ Aside0 (kq ≤ kj3) ∧ Drawn0 w w')
    case atStart => exact ⟨(0), (by first | rfl | (simp; done) | (simp [*]; done)), H', ⟨Nat.le_refl _⟩, by repeat (first | exact Drawn0.refl _ | apply Drawn0.step)⟩
    case round =>
     clear H'
     try clear c1
     try clear p2
     try clear c3
     try clear c6
     try clear c7
     try clear p2
     obtain ⟨x20_2, rfl, HA, HK2, ⟨m2, rfl⟩⟩ := hrel
     cases gk with
     | zero => exact absurd HA.out (by simp [spec_l4Good.l0])
     | succ k2 =>
      have H := HA.out
      clear HA
      simp only [spec_l4Good.l0] at H
      by_cases c8 : x20_2 < (l1.length : Int)
      ·rw [if_pos c8] at H
       have c8b0 : decide (x20_2 < (l1.length : Int)) = true := decide_eq_true c8
       clear c8
       by_cases c9 : 0 ≤ x20_2
       ·rw [if_pos c9] at H
        have c9b0 : decide (0 ≤ x20_2) = true := decide_eq_true c9
        clear c9
        by_cases c10 : x20_2 < (l1.length : Int)
        ·rw [if_pos c10] at H
         have c10b0 : decide (x20_2 < (l1.length : Int)) = true := decide_eq_true c10
         clear c10
         replace H := Option.bind_eq_some_iff.mp H
         obtain ⟨t293, A110, H⟩ := H
         (try dsimp only at H)
         have A11 := Aside0.mk A110
         clear A110
         by_cases c12 : t293 = true
         ·subst c12
          have H1 : (spec_l4Good.l0 k2 a0 l1 (l1.length : Int) (wrap64 (x20_2 + 1))) = some r := by rw [if_pos rfl] at H; exact H
          clear H
          have H := H1
          clear H1
          have H' := Aside0.mk H
          clear H
          have p292 : 0 ≤ (x20_2 : Int) := of_decide_eq_true (by assumption)
          have q292 : x20_2 < (l1.length : Int) := of_decide_eq_true (by assumption)
          obtain ⟨ad292, A292_0, c292_0, e292, hx292_0, hl292_0, hi292_0⟩ := at_L2 HR1.out x20_2 p292 q292
          cases e292
          have HR292_0 := Aside0.mk hi292_0
          have HC292_0 := Aside0.mk hl292_0
          clear hi292_0 hl292_0
          replace p292 := eq_true p292
          replace q292 := eq_true q292
          go_wp2_with (first | ((with_reducible refine gate_callee (f := 87) rfl ?_); refine goesL_ (some 26) rfl rfl Try.func87 (by kernel_rfl) rfl #[.int .i64 a0, .slice A292_0 (rd_L2 l1 x20_2).length c292_0] rfl (by simp only [zA_, zB_, zD_] <;> rfl) ?_; (with_reducible refine (spec_l4Clause.calls k2 a0 _ _ (rd_L2 l1 x20_2) true _ ?side1 ?side2 A11.out).mono ?_); (case side1 => exact zC_ HR292_0.out); (case side2 => exact HC292_0.out); rintro e w' ⟨rfl, ⟨nd, rfl⟩⟩; refine ⟨_, rfl, ?_⟩))
          go_roundg k2
          case measure => have := HJ3.out; have := HK2.out; omega
          case rel => exact ⟨(wrap64 (x20_2 + 1)), (by first | rfl | (simp; done) | (simp [*]; done)), H', ⟨by have := HJ3.out; have := HK2.out; omega⟩, by repeat (first | exact Drawn0.refl _ | apply Drawn0.step)⟩
         ·replace c12 := Bool.eq_false_iff.mpr c12
          subst c12
          have H1 : (some false) = some r := by rw [if_neg (show ¬ (false = true) by decide)] at H; exact H
          clear H
          have H := H1
          clear H1
          obtain rfl := Option.some.inj H
          have p292 : 0 ≤ (x20_2 : Int) := of_decide_eq_true (by assumption)
          have q292 : x20_2 < (l1.length : Int) := of_decide_eq_true (by assumption)
          obtain ⟨ad292, A292_0, c292_0, e292, hx292_0, hl292_0, hi292_0⟩ := at_L2 HR1.out x20_2 p292 q292
          cases e292
          have HR292_0 := Aside0.mk hi292_0
          have HC292_0 := Aside0.mk hl292_0
          clear hi292_0 hl292_0
          replace p292 := eq_true p292
          replace q292 := eq_true q292
          go_wp2_with (first | ((with_reducible refine gate_callee (f := 87) rfl ?_); refine goesL_ (some 26) rfl rfl Try.func87 (by kernel_rfl) rfl #[.int .i64 a0, .slice A292_0 (rd_L2 l1 x20_2).length c292_0] rfl (by simp only [zA_, zB_, zD_] <;> rfl) ?_; (with_reducible refine (spec_l4Clause.calls k2 a0 _ _ (rd_L2 l1 x20_2) false _ ?side1 ?side2 A11.out).mono ?_); (case side1 => exact zC_ HR292_0.out); (case side2 => exact HC292_0.out); rintro e w' ⟨rfl, ⟨nd, rfl⟩⟩; refine ⟨_, rfl, ?_⟩))
          go_ret
          exact ⟨by first | rfl | (simp; done) | (simp [*]; done), by repeat (first | exact Drawn0.refl _ | apply Drawn0.step)⟩
        ·rw [if_neg c10] at H
         exact absurd H (by simp)
       ·rw [if_neg c9] at H
        exact absurd H (by simp)
      ·rw [if_neg c8] at H
       have c8b0 : decide (x20_2 < (l1.length : Int)) = false := decide_eq_false c8
       clear c8
       obtain rfl := Option.some.inj H
       go_wp2
       go_ret
       exact ⟨by first | rfl | (simp; done) | (simp [*]; done), by repeat (first | exact Drawn0.refl _ | apply Drawn0.step)⟩
def spec_GoodClauses.f (k : Nat) (a0 : Int) (l1 : List (List Int)) : Option (Bool) := (spec_l4Good.f k a0 l1 60).bind fun t294 => (some t294)
theorem spec_GoodClauses.mono : ∀ a0 a1 k, LeO (spec_GoodClauses.f k a0 a1) (spec_GoodClauses.f (k + 1) a0 a1) := by
 intro a0 a1 k
 unfold spec_GoodClauses.f
 repeat' first
   | (with_reducible exact spec_l4Good.mono _ _ _ _)
   | (with_reducible exact LeO.refl _)
   | (with_reducible exact LeO.none _)
   | (with_reducible refine LeO.ite ?_ ?_)
   | (with_reducible refine LeO.bind ?_ (fun _ => ?_))
   | exact spec_l4Good.mono _ _ _ _
   | exact LeO.none _
   | refine LeO.ite ?_ ?_
   | refine LeO.bind ?_ (fun _ => ?_)
set_option maxHeartbeats 8000000 in
set_option maxRecDepth 100000 in
theorem spec_GoodClauses.calls (k : Nat) (a0 : Int) (A1 : Option Addr) (c1 : Nat) (l1 : List (List Int)) (r : Bool) (w : World) (hr1 : Kd.C (Kd.slice 3 (Kd.int .i64)) w A1 l1.length l1) (hc1 : l1.length ≤ c1) (h : spec_GoodClauses.f k a0 l1 = some r) :
  Calls Try.prog 27 #[.int .i64 a0, .slice A1 l1.length c1] w fun e w' => e = .returned (.bool r) ∧ Drawn0 w w' := by
 have HR1 := Aside0.mk hr1
 have HC1 := Aside0.mk hc1
 clear hr1 hc1
 have H : ((spec_l4Good.f k a0 l1 60).bind fun t294 => (some t294)) = some r := h
 clear h
 replace H := Option.bind_eq_some_iff.mp H
 obtain ⟨t294, A30, H⟩ := H
 (try dsimp only at H)
 have A3 := Aside0.mk A30
 clear A30
 obtain rfl := Option.some.inj H
 go_enter Try.func27, Try.ntmps27
 go_wp2_with (first | ((with_reducible refine gate_callee (f := 81) rfl ?_); refine goesL_ (some 7) rfl rfl Try.func81 (by kernel_rfl) rfl #[.int .i64 a0, .slice A1 l1.length c1, .int .i64 60] rfl (by simp only [zA_, zB_, zD_] <;> rfl) ?_; (with_reducible refine (spec_l4Good.calls k a0 _ _ l1 60 t294 _ ?side1 ?side2 A3.out).mono ?_); (case side1 => exact zC_ HR1.out); (case side2 => exact HC1.out); rintro e w' ⟨rfl, ⟨nd, rfl⟩⟩; refine ⟨_, rfl, ?_⟩))
 go_ret
 exact ⟨by first | rfl | (simp; done) | (simp [*]; done), by repeat (first | exact Drawn0.refl _ | apply Drawn0.step)⟩
def spec_l4Given.f (k : Nat) (a0 : Int) (l1 : List Int) : Option (Bool) := (spec_l4Clause.f k a0 l1).bind fun t295 => (some t295)
theorem spec_l4Given.mono : ∀ a0 a1 k, LeO (spec_l4Given.f k a0 a1) (spec_l4Given.f (k + 1) a0 a1) := by
 intro a0 a1 k
 unfold spec_l4Given.f
 repeat' first
   | (with_reducible exact spec_l4Clause.mono _ _ _)
   | (with_reducible exact LeO.refl _)
   | (with_reducible exact LeO.none _)
   | (with_reducible refine LeO.ite ?_ ?_)
   | (with_reducible refine LeO.bind ?_ (fun _ => ?_))
   | exact spec_l4Clause.mono _ _ _
   | exact LeO.none _
   | refine LeO.ite ?_ ?_
   | refine LeO.bind ?_ (fun _ => ?_)
set_option maxHeartbeats 8000000 in
set_option maxRecDepth 100000 in
theorem spec_l4Given.calls (k : Nat) (a0 : Int) (A1 : Option Addr) (c1 : Nat) (l1 : List Int) (r : Bool) (w : World) (hr1 : Kd.C (Kd.int .i64) w A1 l1.length l1) (hc1 : l1.length ≤ c1) (h : spec_l4Given.f k a0 l1 = some r) :
  Calls Try.prog 60 #[.int .i64 a0, .slice A1 l1.length c1] w fun e w' => e = .returned (.bool r) ∧ Drawn0 w w' := by
 have HR1 := Aside0.mk hr1
 have HC1 := Aside0.mk hc1
 clear hr1 hc1
 have H : ((spec_l4Clause.f k a0 l1).bind fun t295 => (some t295)) = some r := h
 clear h
 replace H := Option.bind_eq_some_iff.mp H
 obtain ⟨t295, A30, H⟩ := H
 (try dsimp only at H)
 have A3 := Aside0.mk A30
 clear A30
 obtain rfl := Option.some.inj H
 go_enter Try.func60, Try.ntmps60
 go_wp2_with (first | ((with_reducible refine gate_callee (f := 87) rfl ?_); refine goesL_ (some 7) rfl rfl Try.func87 (by kernel_rfl) rfl #[.int .i64 a0, .slice A1 l1.length c1] rfl (by simp only [zA_, zB_, zD_] <;> rfl) ?_; (with_reducible refine (spec_l4Clause.calls k a0 _ _ l1 t295 _ ?side1 ?side2 A3.out).mono ?_); (case side1 => exact zC_ HR1.out); (case side2 => exact HC1.out); rintro e w' ⟨rfl, ⟨nd, rfl⟩⟩; refine ⟨_, rfl, ?_⟩))
 go_ret
 exact ⟨by first | rfl | (simp; done) | (simp [*]; done), by repeat (first | exact Drawn0.refl _ | apply Drawn0.step)⟩
end Go.Proofs.Ytpkbjgmeejlchab.PFnFollows
-- squeezed
