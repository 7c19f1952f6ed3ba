-- Made by a program of this session (wip/tools), which leans on the kit's print: checked by Lean alone.
import Derived.Test.YtpkbjgmeejlchabPFnFollowsx0
import Derived.Test.YtpkbjgmeejlchabPFnFollowsx6
import Derived.Test.YtpkbjgmeejlchabPFnFollowsx8
import Derived.Test.YtpkbjgmeejlchabPFnFollowsx9
namespace Go.Proofs.Ytpkbjgmeejlchab.PFnFollows
open Go.RowKit Go.Proofs.YtpkbjgmeejlchabW.PrintWords Go.Proofs.YtpkbjgmeejlchabW.PrintLast Go.Proofs.YtpkbjgmeejlchabW.PrintMore
attribute [local go_sem] max2_int min2_int max_two min_two max_three min_three max_four min_four   -- for this text's walks alone
set_option linter.unusedVariables false
set_option linter.unusedSimpArgs false
def spec_l5Solve.l1 : Nat → List Int → List Bool → Int → Option (List Bool)
 | 0, _, _, _ => none
 | k + 1, y, m, x => if x < (y.length : Int) then (if 0 ≤ x then (if 0 < rd y x then (if rd y x ≤ (m.length : Int) then spec_l5Solve.l1 k y (m.set ((rd y x).toNat - 1) true) (wrap64 (x + 1)) else none) else spec_l5Solve.l1 k y m (wrap64 (x + 1))) else none) else some m
def spec_l5Solve.l0 : Nat → Int → List (List Int) → List (List Int) → List Int → Option (Bool × List Bool × List (List Int) × Bool)
 | 0, _, _, _, _ => none
 | k + 1, v, a, L, D => (spec_l4Propagate.f k a D).bind fun p => (spec_l5First.f k v p.1).bind fun u => if p.2 = true then (if L.length = 300 then some (false, [], [], false) else ((spec_l5Negate.f k D).bind fun c => if L.length < 4398046511104 ∧ a.length < 4398046511104 then (if D.length = 0 then ((spec_l5Copy.f k (L ++ [c])).bind fun z => some (false, [], z, true)) else spec_l5Solve.l0 k v (a ++ [c]) (L ++ [c]) (D.take (D.length - 1))) else none)) else (if 0 < u then (if D.length < 4398046511104 then spec_l5Solve.l0 k v a L (D ++ [u]) else none) else (if 0 ≤ v ∧ v ≤ 4398046511104 then ((spec_l5Solve.l1 k p.1 (List.replicate v.toNat false) 0).bind fun m => (spec_l5Copy.f k L).bind fun z => some (true, m, z, true)) else none))
def spec_l5Solve.f (k : Nat) (a0 : Int) (l1 : List (List Int)) : Option (Bool × List Bool × List (List Int) × Bool) := (spec_l5Copy.f k l1).bind fun a => spec_l5Solve.l0 k a0 a [] []
theorem spec_l5Solve.mono_l1 : ∀ k, (∀ y0 y1 y2, LeO (spec_l5Solve.l1 k y0 y1 y2) (spec_l5Solve.l1 (k + 1) y0 y1 y2))
 | 0 => fun _ _ _ r h => by simp [spec_l5Solve.l1] at h
 | k + 1 => by
  have ih0 := spec_l5Solve.mono_l1 k
  ·intro y0 y1 y2
   unfold spec_l5Solve.l1
   repeat' first
   | (with_reducible exact ih0 _ _ _)
   | (with_reducible exact LeO.refl _)
   | (with_reducible exact LeO.none _)
   | (with_reducible refine LeO.ite ?_ ?_)
   | (with_reducible refine LeO.bind ?_ (fun _ => ?_))
theorem spec_l5Solve.mono_l : ∀ k, (∀ y0 y1 y2 y3, LeO (spec_l5Solve.l0 k y0 y1 y2 y3) (spec_l5Solve.l0 (k + 1) y0 y1 y2 y3))
 | 0 => fun _ _ _ _ r h => by simp [spec_l5Solve.l0] at h
 | k + 1 => by
  have ih0 := spec_l5Solve.mono_l k
  ·intro y0 y1 y2 y3
   unfold spec_l5Solve.l0
   repeat' first
   | (with_reducible exact ih0 _ _ _ _)
   | (with_reducible exact spec_l5Solve.mono_l1 _ _ _ _)
   | (with_reducible exact spec_l4Propagate.mono _ _ _)
   | (with_reducible exact spec_l5First.mono _ _ _)
   | (with_reducible exact spec_l5Negate.mono _ _)
   | (with_reducible exact spec_l5Copy.mono _ _)
   | (with_reducible exact LeO.refl _)
   | (with_reducible exact LeO.none _)
   | (with_reducible refine LeO.ite ?_ ?_)
   | (with_reducible refine LeO.bind ?_ (fun _ => ?_))
theorem spec_l5Solve.mono : ∀ a0 a1 k, LeO (spec_l5Solve.f k a0 a1) (spec_l5Solve.f (k + 1) a0 a1) := by
 intro a0 a1 k
 exact LeO.bind (spec_l5Copy.mono _ _) (fun _ => spec_l5Solve.mono_l k _ _ _ _)
set_option maxHeartbeats 2000000 in
set_option maxRecDepth 100000 in
theorem spec_l5Solve.calls (k : Nat) (a0 : Int) (A1 : Option Addr) (c1 : Nat) (l1 : List (List Int)) (r1 : Bool) (r2 : List Bool) (r3 : List (List Int)) (r4 : Bool) (w : World) (hr1 : Kd.C (Kd.slice 3 (Kd.int .i64)) w A1 l1.length l1) (hc1 : l1.length ≤ c1) (h : spec_l5Solve.f k a0 l1 = some (r1, r2, r3, r4)) :
  Calls Try.prog 97 #[.int .i64 a0, .slice A1 l1.length c1] w fun e w' => ∃ v1_ v2_ : Value, e = .returned (.tuple #[.bool r1, v1_, v2_, .bool r4]) ∧ Kd.R Kd.bool 4 w' w.heap.size (fun _ => True) v1_ r2 ∧ Kd.S (Kd.slice 3 (Kd.int .i64)) 24 w' w.heap.size (fun _ => True) v2_ r3 ∧ Below w.heap.size w w' := by
 have HR1 := Aside0.mk hr1
 have HC1 := Aside0.mk hc1
 clear hr1 hc1
 have HB := Aside0.mk (Below.refl w.heap.size w)
 unfold spec_l5Solve.f at h
 replace h := Option.bind_eq_some_iff.mp h
 obtain ⟨b0, A0', h⟩ := h
 have G0 := Aside0.mk A0'
 have H' := Aside0.mk h
 clear h A0'
 go_enter Try.func97, Try.ntmps97
 go_wp2_with (go_at_call 72; (with_reducible refine (spec_l5Copy.calls k _ _ l1 b0 _ ?side1 ?side2 G0.out).mono ?_); (case side1 => exact zC_ HR1.out); (case side2 => exact HC1.out); rintro e w4 ⟨v4, rfl, ho, hb⟩; have n1_ := Aside0.mk (Kd.R_apart_nil (Kd.R_lower (Kd.S_R ho) (below_size (zb_ HB.out)))); have n0_ := Aside0.mk (below_step (zb_ HB.out) hb); clear HB; have HB := n0_; have HO4 := n1_; clear n0_ n1_ ho hb)
 go_loopg [8, 9, 10] k (fun kq v8 v9 v10 w' => ∃ (a : List (List Int)) (L : List (List Int)) (D : List Int), Aside0 (spec_l5Solve.l0 kq a0 a L D = some (r1, r2, r3, r4)) ∧ Aside0 (kq ≤ k) ∧ Aside0 (Kd.R (Kd.slice 3 (Kd.int .i64)) 24 w' w.heap.size (fun k_ => True ∧ some k_ ≠ v9.ownBlock) v8 a) ∧ Aside0 (Kd.R (Kd.slice 3 (Kd.int .i64)) 24 w' w.heap.size (fun k_ => True ∧ some k_ ≠ v8.ownBlock) v9 L) ∧ Aside0 (Kd.R (Kd.int .i64) 3 w' w.heap.size (fun _ => True) v10 D) ∧ Aside0 (Below w.heap.size w w'))
 case atStart => exact ⟨b0, [], [], H', ⟨Nat.le_refl _⟩, ⟨zR_ HO4.out⟩, ⟨Kd.R_nil _ _ _ _ _⟩, ⟨Kd.R_nil _ _ _ _ _⟩, ⟨zb_ HB.out⟩⟩
 case round =>
  clear H' HB HO4
  obtain ⟨a, L, D, HA, HK, HOA, HOL, HOD, HB⟩ := hrel
  obtain ⟨Ad, cd, ed⟩ := Kd.R_slice HOD.out
  subst ed
  obtain ⟨Al, cl, el⟩ := Kd.R_slice HOL.out
  subst el
  obtain ⟨Aa, ca, ea⟩ := Kd.R_slice HOA.out
  subst ea
  cases gk with
  | zero => exact absurd HA.out (by simp [spec_l5Solve.l0])
  | succ k1 =>
   have h := HA.out
   clear HA
   simp only [spec_l5Solve.l0] at h
   replace h := Option.bind_eq_some_iff.mp h
   obtain ⟨⟨p1, p2⟩, A1', h⟩ := h
   have G1 := Aside0.mk A1'
   replace h := Option.bind_eq_some_iff.mp h
   obtain ⟨u, A2', h⟩ := h
   have G2 := Aside0.mk A2'
   clear A1' A2'
   cases p2 with
   | true =>
    replace h : (if L.length = 300 then some (false, [], [], false) else ((spec_l5Negate.f k1 D).bind fun c => if L.length < 4398046511104 ∧ a.length < 4398046511104 then (if D.length = 0 then ((spec_l5Copy.f k1 (L ++ [c])).bind fun z => some (false, [], z, true)) else spec_l5Solve.l0 k1 a0 (a ++ [c]) (L ++ [c]) (D.take (D.length - 1))) else none)) = some (r1, r2, r3, r4) := h
    by_cases c3 : L.length = 300
    ·rw [if_pos c3] at h
     obtain ⟨rfl, rfl, rfl, rfl⟩ : false = r1 ∧ [] = r2 ∧ [] = r3 ∧ false = r4 := by simpa using h
     have d1 : ((L.length : Int) == 300) = true := by rw [c3]; rfl
     have HC3 := Aside0.mk c3
     clear h c3
     go_wp2_with (first | (go_at_call 78; (with_reducible refine (spec_l4Propagate.calls k1 _ _ a _ _ D p1 _ _ ?side1 ?side2 ?side3 ?side4 G1.out).mono ?_); (case side1 => exact zC_ (Kd.R_reads' HOA.out).2.2); (case side2 => exact (Kd.R_reads' HOA.out).2.1); (case side3 => exact zC_ (Kd.R_reads' HOD.out).2.2); (case side4 => exact (Kd.R_reads' HOD.out).2.1); rintro e w6 ⟨v6, rfl, ho, hb⟩; have HOP := Aside0.mk (Kd.R_lower ho (below_size (zb_ HB.out))); obtain ⟨Ap, cp, ep⟩ := Kd.R_slice HOP.out; subst ep; have mHOD_ := Aside0.mk (Kd.R_below (zR_ HOD.out : Kd.R (Kd.int .i64) 3 _ w.heap.size (fun _ => True) (.slice Ad D.length cd) D) hb); have mHOL_ := Aside0.mk (Kd.R_below (zR_ HOL.out : Kd.R (Kd.slice 3 (Kd.int .i64)) 24 _ w.heap.size (fun k_ => True ∧ some k_ ≠ (.slice Aa a.length ca : Value).ownBlock) (.slice Al L.length cl) L) hb); have mHOA_ := Aside0.mk (Kd.R_below (zR_ HOA.out : Kd.R (Kd.slice 3 (Kd.int .i64)) 24 _ w.heap.size (fun k_ => True ∧ some k_ ≠ (.slice Al L.length cl : Value).ownBlock) (.slice Aa a.length ca) a) hb); have mHB_ := Aside0.mk (below_step (zb_ HB.out) hb); clear HOD HOL HOA HB; have HOD := mHOD_; have HOL := mHOL_; have HOA := mHOA_; have HB := mHB_; clear mHOD_ mHOL_ mHOA_ mHB_; clear ho hb) | (go_at_call 64; (with_reducible refine (spec_l5First.calls k1 a0 _ _ p1 u _ ?side1 ?side2 G2.out).mono ?_); (case side1 => exact zC_ (Kd.R_reads' HOP.out).2.2); (case side2 => exact (Kd.R_reads' HOP.out).2.1); rintro e w7 ⟨rfl, hd⟩; have hb := Drawn0.below hd; have mHOP_ := Aside0.mk (Kd.R_below (zR_ HOP.out : Kd.R (Kd.int .i64) 3 _ w.heap.size (fun _ => True) (.slice Ap p1.length cp) p1) hb); have mHOD_ := Aside0.mk (Kd.R_below (zR_ HOD.out : Kd.R (Kd.int .i64) 3 _ w.heap.size (fun _ => True) (.slice Ad D.length cd) D) hb); have mHOL_ := Aside0.mk (Kd.R_below (zR_ HOL.out : Kd.R (Kd.slice 3 (Kd.int .i64)) 24 _ w.heap.size (fun k_ => True ∧ some k_ ≠ (.slice Aa a.length ca : Value).ownBlock) (.slice Al L.length cl) L) hb); have mHOA_ := Aside0.mk (Kd.R_below (zR_ HOA.out : Kd.R (Kd.slice 3 (Kd.int .i64)) 24 _ w.heap.size (fun k_ => True ∧ some k_ ≠ (.slice Al L.length cl : Value).ownBlock) (.slice Aa a.length ca) a) hb); have mHB_ := Aside0.mk (below_step (zb_ HB.out) hb); clear HOP HOD HOL HOA HB; have HOP := mHOP_; have HOD := mHOD_; have HOL := mHOL_; have HOA := mHOA_; have HB := mHB_; clear mHOP_ mHOD_ mHOL_ mHOA_ mHB_; have HS7 := Aside0.mk (Below.refl w7.heap.size w7); clear hb hd))
     (try simp only [Exit.inBlock, Exit.then])
     refine bodyPost_ret (results_tmp4_ rfl _ _ _) rfl ?_
     exact ⟨_, _, by first | rfl | simp, Kd.R_nil _ _ _ _ _, Kd.S_nil _ _ _ _ _, zb_ HB.out⟩
    ·rw [if_neg c3] at h
     have d1 : ((L.length : Int) == 300) = false := beq_eq_false_iff_ne.2 (by omega)
     clear c3
     replace h := Option.bind_eq_some_iff.mp h
     obtain ⟨c, A3', h⟩ := h
     have G3 := Aside0.mk A3'
     clear A3'
     by_cases c4 : L.length < 4398046511104 ∧ a.length < 4398046511104
     ·rw [if_pos c4] at h
      have LMA := Aside0.mk c4
      obtain ⟨y8, hy8⟩ : ∃ y_, y_ = L ++ [c] := ⟨_, rfl⟩
      obtain ⟨y9, hy9⟩ : ∃ y_, y_ = a ++ [c] := ⟨_, rfl⟩
      rw [← hy8, ← hy9] at h
      have NY8 := Aside0.mk hy8
      have NY9 := Aside0.mk hy9
      clear c4 hy8 hy9
      by_cases c5 : D.length = 0
      ·rw [if_pos c5] at h
       replace h := Option.bind_eq_some_iff.mp h
       obtain ⟨z, A4', h⟩ := h
       have G4 := Aside0.mk A4'
       obtain ⟨rfl, rfl, rfl, rfl⟩ : false = r1 ∧ [] = r2 ∧ z = r3 ∧ true = r4 := by simpa using h
       have HD0 := Aside0.mk (show D = [] from List.eq_nil_of_length_eq_zero c5)
       have d3 : ((D.length : Int) == 0) = true := by simp [c5]
       have d4 : (D.length == 0) = true := by simp [c5]
       have d5 := eq_true (show D = [] from HD0.out)
       clear h c5 A4'
       go_wp2_with (first | (go_at_call 78; (with_reducible refine (spec_l4Propagate.calls k1 _ _ a _ _ D p1 _ _ ?side1 ?side2 ?side3 ?side4 G1.out).mono ?_); (case side1 => exact zC_ (Kd.R_reads' HOA.out).2.2); (case side2 => exact (Kd.R_reads' HOA.out).2.1); (case side3 => exact zC_ (Kd.R_reads' HOD.out).2.2); (case side4 => exact (Kd.R_reads' HOD.out).2.1); rintro e w6 ⟨v6, rfl, ho, hb⟩; have HOP := Aside0.mk (Kd.R_lower ho (below_size (zb_ HB.out))); obtain ⟨Ap, cp, ep⟩ := Kd.R_slice HOP.out; subst ep; have mHOD_ := Aside0.mk (Kd.R_below (zR_ HOD.out : Kd.R (Kd.int .i64) 3 _ w.heap.size (fun _ => True) (.slice Ad D.length cd) D) hb); have mHOL_ := Aside0.mk (Kd.R_below (zR_ HOL.out : Kd.R (Kd.slice 3 (Kd.int .i64)) 24 _ w.heap.size (fun k_ => True ∧ some k_ ≠ (.slice Aa a.length ca : Value).ownBlock) (.slice Al L.length cl) L) hb); have mHOA_ := Aside0.mk (Kd.R_below (zR_ HOA.out : Kd.R (Kd.slice 3 (Kd.int .i64)) 24 _ w.heap.size (fun k_ => True ∧ some k_ ≠ (.slice Al L.length cl : Value).ownBlock) (.slice Aa a.length ca) a) hb); have mHB_ := Aside0.mk (below_step (zb_ HB.out) hb); clear HOD HOL HOA HB; have HOD := mHOD_; have HOL := mHOL_; have HOA := mHOA_; have HB := mHB_; clear mHOD_ mHOL_ mHOA_ mHB_; clear ho hb) | (go_at_call 64; (with_reducible refine (spec_l5First.calls k1 a0 _ _ p1 u _ ?side1 ?side2 G2.out).mono ?_); (case side1 => exact zC_ (Kd.R_reads' HOP.out).2.2); (case side2 => exact (Kd.R_reads' HOP.out).2.1); rintro e w7 ⟨rfl, hd⟩; have hb := Drawn0.below hd; have mHOP_ := Aside0.mk (Kd.R_below (zR_ HOP.out : Kd.R (Kd.int .i64) 3 _ w.heap.size (fun _ => True) (.slice Ap p1.length cp) p1) hb); have mHOD_ := Aside0.mk (Kd.R_below (zR_ HOD.out : Kd.R (Kd.int .i64) 3 _ w.heap.size (fun _ => True) (.slice Ad D.length cd) D) hb); have mHOL_ := Aside0.mk (Kd.R_below (zR_ HOL.out : Kd.R (Kd.slice 3 (Kd.int .i64)) 24 _ w.heap.size (fun k_ => True ∧ some k_ ≠ (.slice Aa a.length ca : Value).ownBlock) (.slice Al L.length cl) L) hb); have mHOA_ := Aside0.mk (Kd.R_below (zR_ HOA.out : Kd.R (Kd.slice 3 (Kd.int .i64)) 24 _ w.heap.size (fun k_ => True ∧ some k_ ≠ (.slice Al L.length cl : Value).ownBlock) (.slice Aa a.length ca) a) hb); have mHB_ := Aside0.mk (below_step (zb_ HB.out) hb); clear HOP HOD HOL HOA HB; have HOP := mHOP_; have HOD := mHOD_; have HOL := mHOL_; have HOA := mHOA_; have HB := mHB_; clear mHOP_ mHOD_ mHOL_ mHOA_ mHB_; have HS7 := Aside0.mk (Below.refl w7.heap.size w7); clear hb hd) | (go_at_call 61; (with_reducible refine (spec_l5Negate.calls k1 _ _ D c _ ?side1 ?side2 G3.out).mono ?_); (case side1 => exact zC_ (Kd.R_reads' HOD.out).2.2); (case side2 => exact (Kd.R_reads' HOD.out).2.1); rintro e w8 ⟨v8, rfl, ho, hb⟩; have HO7 := Aside0.mk (Kd.R_lower ho (below_size (zb_ HB.out))); obtain ⟨A7, c7, e7⟩ := Kd.R_slice HO7.out; subst e7; have mHOD_ := Aside0.mk (Kd.R_below (zR_ HOD.out : Kd.R (Kd.int .i64) 3 _ w.heap.size (fun _ => True) (.slice Ad D.length cd) D) hb); have mHOL_ := Aside0.mk (Kd.R_below (zR_ HOL.out : Kd.R (Kd.slice 3 (Kd.int .i64)) 24 _ w.heap.size (fun k_ => True ∧ some k_ ≠ (.slice Aa a.length ca : Value).ownBlock) (.slice Al L.length cl) L) hb); have mHOA_ := Aside0.mk (Kd.R_below (zR_ HOA.out : Kd.R (Kd.slice 3 (Kd.int .i64)) 24 _ w.heap.size (fun k_ => True ∧ some k_ ≠ (.slice Al L.length cl : Value).ownBlock) (.slice Aa a.length ca) a) hb); have mHB_ := Aside0.mk (below_step (zb_ HB.out) hb); clear HOD HOL HOA HB; have HOD := mHOD_; have HOL := mHOL_; have HOA := mHOA_; have HB := mHB_; clear mHOD_ mHOL_ mHOA_ mHB_; clear ho hb) | ((with_reducible refine gate_builtin (b := .append) (xs := #[.tmp 58, .tmp 60]) rfl ?_); at_builtin; refine Kd.R_append (Kd.slice 3 (Kd.int .i64)) (w0 := w) w.heap.size rfl (.tmp 58) (.tmp 60) 23 24 (.slice none 0 0) 24 rfl Try.underlying23 info24 rfl (by decide) (by omega) (.slice Al L.length cl) L c [.slice A7 c.length c7] (fun k_ => True ∧ some k_ ≠ (.slice Aa a.length ca : Value).ownBlock) (fun k_ => some k_ = (.slice A7 c.length c7 : Value).ownBlock) rfl rfl ?aP ?aK ?aF ?aO ?aB ?aS ?aL ?_; (case aP => exact Kd.M_row (Kd.R_tight rfl (zR_ HO7.out : Kd.R (Kd.int .i64) 3 _ w.heap.size (fun _ => True) (.slice A7 c.length c7) c))); (case aK => exact fun k_ hk_ => ⟨⟨trivial, typed_ne_ (Kd.R_typed HO7.out) (Kd.R_typed HOA.out) (by decide) k_ hk_⟩, typed_ne_ (Kd.R_typed HO7.out) (Kd.R_typed HOL.out) (by decide) k_ hk_⟩); (case aF => exact fun k_ hk_ => ⟨trivial, fun e_ => Nat.lt_irrefl _ (Nat.lt_of_lt_of_le (Kd.R_lt HOA.out k_ e_.symm) hk_)⟩); (case aO => exact (zR_ HOL.out)); (case aB => exact (zb_ HB.out)); (case aS => exact (below_size (zb_ HB.out))); (case aL => have := LMA.out; omega); intro v8 w8 ho hb hg hat; rw [← NY8.out] at ho; have n1_ := Aside0.mk (Kd.R_over' (zR_ HOD.out : Kd.R (Kd.int .i64) 3 _ w.heap.size (fun _ => True) (.slice Ad D.length cd) D) (Kd.R_typed (zR_ HOL.out : Kd.R (Kd.slice 3 (Kd.int .i64)) 24 _ w.heap.size (fun k_ => True ∧ some k_ ≠ (.slice Aa a.length ca : Value).ownBlock) (.slice Al L.length cl) L)) (by decide) hg); have n2_ := Aside0.mk ho; have n3_ := Aside0.mk hb; have n4_ := Aside0.mk (Kd.R_after (zR_ HOA.out : Kd.R (Kd.slice 3 (Kd.int .i64)) 24 _ w.heap.size (fun k_ => True ∧ some k_ ≠ (.slice Al L.length cl : Value).ownBlock) (.slice Aa a.length ca) a) hg hat); have n5_ := Aside0.mk (Kd.R_over' (zR_ HO7.out : Kd.R (Kd.int .i64) 3 _ w.heap.size (fun _ => True) (.slice A7 c.length c7) c) (Kd.R_typed (zR_ HOL.out : Kd.R (Kd.slice 3 (Kd.int .i64)) 24 _ w.heap.size (fun k_ => True ∧ some k_ ≠ (.slice Aa a.length ca : Value).ownBlock) (.slice Al L.length cl) L)) (by decide) hg); clear HB HOD HOL HOA HO7; have HOD := n1_; have HB := n3_; have HO7 := n5_; obtain ⟨A8, c8, e8⟩ := Kd.R_slice n2_.out; subst e8; have HOL8 := n2_; have HOA := n4_; clear n1_ n2_ n3_ n4_ n5_ ho hb hg hat) | ((with_reducible refine gate_builtin (b := .append) (xs := #[.tmp 62, .tmp 64]) rfl ?_); at_builtin; refine Kd.R_append (Kd.slice 3 (Kd.int .i64)) (w0 := w) w.heap.size rfl (.tmp 62) (.tmp 64) 23 24 (.slice none 0 0) 24 rfl Try.underlying23 info24 rfl (by decide) (by omega) (.slice Aa a.length ca) a c [.slice A7 c.length c7] (fun k_ => True ∧ some k_ ≠ (.slice A8 y8.length c8 : Value).ownBlock) (fun k_ => some k_ = (.slice A7 c.length c7 : Value).ownBlock) rfl rfl ?aP ?aK ?aF ?aO ?aB ?aS ?aL ?_; (case aP => exact Kd.M_row (Kd.R_tight rfl (zR_ HO7.out : Kd.R (Kd.int .i64) 3 _ w.heap.size (fun _ => True) (.slice A7 c.length c7) c))); (case aK => exact fun k_ hk_ => ⟨⟨trivial, typed_ne_ (Kd.R_typed HO7.out) (Kd.R_typed HOL8.out) (by decide) k_ hk_⟩, typed_ne_ (Kd.R_typed HO7.out) (Kd.R_typed HOA.out) (by decide) k_ hk_⟩); (case aF => exact fun k_ hk_ => ⟨trivial, fun e_ => Nat.lt_irrefl _ (Nat.lt_of_lt_of_le (Kd.R_lt HOL8.out k_ e_.symm) hk_)⟩); (case aO => exact (zR_ HOA.out)); (case aB => exact (zb_ HB.out)); (case aS => exact (below_size (zb_ HB.out))); (case aL => have := LMA.out; omega); intro v8 w8 ho hb hg hat; rw [← NY9.out] at ho; have n1_ := Aside0.mk (Kd.R_over' (zR_ HOD.out : Kd.R (Kd.int .i64) 3 _ w.heap.size (fun _ => True) (.slice Ad D.length cd) D) (Kd.R_typed (zR_ HOA.out : Kd.R (Kd.slice 3 (Kd.int .i64)) 24 _ w.heap.size (fun k_ => True ∧ some k_ ≠ (.slice A8 y8.length c8 : Value).ownBlock) (.slice Aa a.length ca) a)) (by decide) hg); have n2_ := Aside0.mk ho; have n3_ := Aside0.mk hb; have n4_ := Aside0.mk (Kd.R_after (zR_ HOL8.out : Kd.R (Kd.slice 3 (Kd.int .i64)) 24 _ w.heap.size (fun k_ => True ∧ some k_ ≠ (.slice Aa a.length ca : Value).ownBlock) (.slice A8 y8.length c8) y8) hg hat); have n5_ := Aside0.mk (Kd.R_over' (zR_ HO7.out : Kd.R (Kd.int .i64) 3 _ w.heap.size (fun _ => True) (.slice A7 c.length c7) c) (Kd.R_typed (zR_ HOA.out : Kd.R (Kd.slice 3 (Kd.int .i64)) 24 _ w.heap.size (fun k_ => True ∧ some k_ ≠ (.slice A8 y8.length c8 : Value).ownBlock) (.slice Aa a.length ca) a)) (by decide) hg); clear HB HOD HOA HOL8 HO7; have HOD := n1_; have HB := n3_; have HO7 := n5_; obtain ⟨A9, c9, e8⟩ := Kd.R_slice n2_.out; subst e8; have HOA9 := n2_; have HOL8 := n4_; clear n1_ n2_ n3_ n4_ n5_ ho hb hg hat) | (go_at_call 72; (with_reducible refine (spec_l5Copy.calls k1 _ _ y8 z _ ?side1 ?side2 G4.out).mono ?_); (case side1 => exact zC_ (Kd.R_reads' HOL8.out).2.2); (case side2 => exact (Kd.R_reads' HOL8.out).2.1); rintro e w10 ⟨v10, rfl, ho, hb⟩; have HOZ := Aside0.mk (Kd.S_lower ho (below_size (zb_ HB.out))); have n0_ := Aside0.mk (below_step (zb_ HB.out) hb); clear HB; have HB := n0_; clear n0_ ho hb))
       (try simp only [Exit.inBlock, Exit.then])
       refine bodyPost_ret (results_tmp4_ rfl _ _ _) rfl ?_
       exact ⟨_, _, by first | rfl | simp, Kd.R_nil _ _ _ _ _, zS_ HOZ.out, zb_ HB.out⟩
      ·rw [if_neg c5] at h
       have H' := Aside0.mk h
       have HDL := Aside0.mk (show D.length - 1 ≤ D.length by omega)
       have d3 : ((D.length : Int) == 0) = false := beq_eq_false_iff_ne.2 (by omega)
       have d4 : (D.length == 0) = false := beq_eq_false_iff_ne.2 (by omega)
       have d5 := eq_false (show ¬ D.length = 0 from c5)
       have d6 : 1 ≤ (D.length : Int) := by omega
       have d7 : (D.length : Int) ≤ 9223372036854775807 := by have := (Kd.R_reads' HOD.out).2.2.2.1; omega
       have d8 := eq_true (show (0 : Int) ≤ (D.length : Int) - 1 by omega)
       have d9 := eq_true (show (D.length : Int) - 1 ≤ (cd : Int) by have := (Kd.R_reads' HOD.out).2.1; omega)
       have d10 := eq_true (show (D.length : Int) ≤ (cd : Int) + 1 by have := (Kd.R_reads' HOD.out).2.1; omega)
       have d11 := eq_true (show D.length - 1 ≤ cd by have := (Kd.R_reads' HOD.out).2.1; omega)
       have d12 := eq_false (show ¬ D = [] by intro e; apply c5; rw [e]; rfl)
       clear h c5
       go_wp2_with (first | (go_at_call 78; (with_reducible refine (spec_l4Propagate.calls k1 _ _ a _ _ D p1 _ _ ?side1 ?side2 ?side3 ?side4 G1.out).mono ?_); (case side1 => exact zC_ (Kd.R_reads' HOA.out).2.2); (case side2 => exact (Kd.R_reads' HOA.out).2.1); (case side3 => exact zC_ (Kd.R_reads' HOD.out).2.2); (case side4 => exact (Kd.R_reads' HOD.out).2.1); rintro e w6 ⟨v6, rfl, ho, hb⟩; have HOP := Aside0.mk (Kd.R_lower ho (below_size (zb_ HB.out))); obtain ⟨Ap, cp, ep⟩ := Kd.R_slice HOP.out; subst ep; have mHOD_ := Aside0.mk (Kd.R_below (zR_ HOD.out : Kd.R (Kd.int .i64) 3 _ w.heap.size (fun _ => True) (.slice Ad D.length cd) D) hb); have mHOL_ := Aside0.mk (Kd.R_below (zR_ HOL.out : Kd.R (Kd.slice 3 (Kd.int .i64)) 24 _ w.heap.size (fun k_ => True ∧ some k_ ≠ (.slice Aa a.length ca : Value).ownBlock) (.slice Al L.length cl) L) hb); have mHOA_ := Aside0.mk (Kd.R_below (zR_ HOA.out : Kd.R (Kd.slice 3 (Kd.int .i64)) 24 _ w.heap.size (fun k_ => True ∧ some k_ ≠ (.slice Al L.length cl : Value).ownBlock) (.slice Aa a.length ca) a) hb); have mHB_ := Aside0.mk (below_step (zb_ HB.out) hb); clear HOD HOL HOA HB; have HOD := mHOD_; have HOL := mHOL_; have HOA := mHOA_; have HB := mHB_; clear mHOD_ mHOL_ mHOA_ mHB_; clear ho hb) | (go_at_call 64; (with_reducible refine (spec_l5First.calls k1 a0 _ _ p1 u _ ?side1 ?side2 G2.out).mono ?_); (case side1 => exact zC_ (Kd.R_reads' HOP.out).2.2); (case side2 => exact (Kd.R_reads' HOP.out).2.1); rintro e w7 ⟨rfl, hd⟩; have hb := Drawn0.below hd; have mHOP_ := Aside0.mk (Kd.R_below (zR_ HOP.out : Kd.R (Kd.int .i64) 3 _ w.heap.size (fun _ => True) (.slice Ap p1.length cp) p1) hb); have mHOD_ := Aside0.mk (Kd.R_below (zR_ HOD.out : Kd.R (Kd.int .i64) 3 _ w.heap.size (fun _ => True) (.slice Ad D.length cd) D) hb); have mHOL_ := Aside0.mk (Kd.R_below (zR_ HOL.out : Kd.R (Kd.slice 3 (Kd.int .i64)) 24 _ w.heap.size (fun k_ => True ∧ some k_ ≠ (.slice Aa a.length ca : Value).ownBlock) (.slice Al L.length cl) L) hb); have mHOA_ := Aside0.mk (Kd.R_below (zR_ HOA.out : Kd.R (Kd.slice 3 (Kd.int .i64)) 24 _ w.heap.size (fun k_ => True ∧ some k_ ≠ (.slice Al L.length cl : Value).ownBlock) (.slice Aa a.length ca) a) hb); have mHB_ := Aside0.mk (below_step (zb_ HB.out) hb); clear HOP HOD HOL HOA HB; have HOP := mHOP_; have HOD := mHOD_; have HOL := mHOL_; have HOA := mHOA_; have HB := mHB_; clear mHOP_ mHOD_ mHOL_ mHOA_ mHB_; have HS7 := Aside0.mk (Below.refl w7.heap.size w7); clear hb hd) | (go_at_call 61; (with_reducible refine (spec_l5Negate.calls k1 _ _ D c _ ?side1 ?side2 G3.out).mono ?_); (case side1 => exact zC_ (Kd.R_reads' HOD.out).2.2); (case side2 => exact (Kd.R_reads' HOD.out).2.1); rintro e w8 ⟨v8, rfl, ho, hb⟩; have HO7 := Aside0.mk (Kd.R_lower ho (below_size (zb_ HB.out))); obtain ⟨A7, c7, e7⟩ := Kd.R_slice HO7.out; subst e7; have mHOD_ := Aside0.mk (Kd.R_below (zR_ HOD.out : Kd.R (Kd.int .i64) 3 _ w.heap.size (fun _ => True) (.slice Ad D.length cd) D) hb); have mHOL_ := Aside0.mk (Kd.R_below (zR_ HOL.out : Kd.R (Kd.slice 3 (Kd.int .i64)) 24 _ w.heap.size (fun k_ => True ∧ some k_ ≠ (.slice Aa a.length ca : Value).ownBlock) (.slice Al L.length cl) L) hb); have mHOA_ := Aside0.mk (Kd.R_below (zR_ HOA.out : Kd.R (Kd.slice 3 (Kd.int .i64)) 24 _ w.heap.size (fun k_ => True ∧ some k_ ≠ (.slice Al L.length cl : Value).ownBlock) (.slice Aa a.length ca) a) hb); have mHB_ := Aside0.mk (below_step (zb_ HB.out) hb); clear HOD HOL HOA HB; have HOD := mHOD_; have HOL := mHOL_; have HOA := mHOA_; have HB := mHB_; clear mHOD_ mHOL_ mHOA_ mHB_; clear ho hb) | ((with_reducible refine gate_builtin (b := .append) (xs := #[.tmp 58, .tmp 60]) rfl ?_); at_builtin; refine Kd.R_append (Kd.slice 3 (Kd.int .i64)) (w0 := w) w.heap.size rfl (.tmp 58) (.tmp 60) 23 24 (.slice none 0 0) 24 rfl Try.underlying23 info24 rfl (by decide) (by omega) (.slice Al L.length cl) L c [.slice A7 c.length c7] (fun k_ => True ∧ some k_ ≠ (.slice Aa a.length ca : Value).ownBlock) (fun k_ => some k_ = (.slice A7 c.length c7 : Value).ownBlock) rfl rfl ?aP ?aK ?aF ?aO ?aB ?aS ?aL ?_; (case aP => exact Kd.M_row (Kd.R_tight rfl (zR_ HO7.out : Kd.R (Kd.int .i64) 3 _ w.heap.size (fun _ => True) (.slice A7 c.length c7) c))); (case aK => exact fun k_ hk_ => ⟨⟨trivial, typed_ne_ (Kd.R_typed HO7.out) (Kd.R_typed HOA.out) (by decide) k_ hk_⟩, typed_ne_ (Kd.R_typed HO7.out) (Kd.R_typed HOL.out) (by decide) k_ hk_⟩); (case aF => exact fun k_ hk_ => ⟨trivial, fun e_ => Nat.lt_irrefl _ (Nat.lt_of_lt_of_le (Kd.R_lt HOA.out k_ e_.symm) hk_)⟩); (case aO => exact (zR_ HOL.out)); (case aB => exact (zb_ HB.out)); (case aS => exact (below_size (zb_ HB.out))); (case aL => have := LMA.out; omega); intro v8 w8 ho hb hg hat; rw [← NY8.out] at ho; have n1_ := Aside0.mk (Kd.R_over' (zR_ HOD.out : Kd.R (Kd.int .i64) 3 _ w.heap.size (fun _ => True) (.slice Ad D.length cd) D) (Kd.R_typed (zR_ HOL.out : Kd.R (Kd.slice 3 (Kd.int .i64)) 24 _ w.heap.size (fun k_ => True ∧ some k_ ≠ (.slice Aa a.length ca : Value).ownBlock) (.slice Al L.length cl) L)) (by decide) hg); have n2_ := Aside0.mk ho; have n3_ := Aside0.mk hb; have n4_ := Aside0.mk (Kd.R_after (zR_ HOA.out : Kd.R (Kd.slice 3 (Kd.int .i64)) 24 _ w.heap.size (fun k_ => True ∧ some k_ ≠ (.slice Al L.length cl : Value).ownBlock) (.slice Aa a.length ca) a) hg hat); have n5_ := Aside0.mk (Kd.R_over' (zR_ HO7.out : Kd.R (Kd.int .i64) 3 _ w.heap.size (fun _ => True) (.slice A7 c.length c7) c) (Kd.R_typed (zR_ HOL.out : Kd.R (Kd.slice 3 (Kd.int .i64)) 24 _ w.heap.size (fun k_ => True ∧ some k_ ≠ (.slice Aa a.length ca : Value).ownBlock) (.slice Al L.length cl) L)) (by decide) hg); clear HB HOD HOL HOA HO7; have HOD := n1_; have HB := n3_; have HO7 := n5_; obtain ⟨A8, c8, e8⟩ := Kd.R_slice n2_.out; subst e8; have HOL8 := n2_; have HOA := n4_; clear n1_ n2_ n3_ n4_ n5_ ho hb hg hat) | ((with_reducible refine gate_builtin (b := .append) (xs := #[.tmp 62, .tmp 64]) rfl ?_); at_builtin; refine Kd.R_append (Kd.slice 3 (Kd.int .i64)) (w0 := w) w.heap.size rfl (.tmp 62) (.tmp 64) 23 24 (.slice none 0 0) 24 rfl Try.underlying23 info24 rfl (by decide) (by omega) (.slice Aa a.length ca) a c [.slice A7 c.length c7] (fun k_ => True ∧ some k_ ≠ (.slice A8 y8.length c8 : Value).ownBlock) (fun k_ => some k_ = (.slice A7 c.length c7 : Value).ownBlock) rfl rfl ?aP ?aK ?aF ?aO ?aB ?aS ?aL ?_; (case aP => exact Kd.M_row (Kd.R_tight rfl (zR_ HO7.out : Kd.R (Kd.int .i64) 3 _ w.heap.size (fun _ => True) (.slice A7 c.length c7) c))); (case aK => exact fun k_ hk_ => ⟨⟨trivial, typed_ne_ (Kd.R_typed HO7.out) (Kd.R_typed HOL8.out) (by decide) k_ hk_⟩, typed_ne_ (Kd.R_typed HO7.out) (Kd.R_typed HOA.out) (by decide) k_ hk_⟩); (case aF => exact fun k_ hk_ => ⟨trivial, fun e_ => Nat.lt_irrefl _ (Nat.lt_of_lt_of_le (Kd.R_lt HOL8.out k_ e_.symm) hk_)⟩); (case aO => exact (zR_ HOA.out)); (case aB => exact (zb_ HB.out)); (case aS => exact (below_size (zb_ HB.out))); (case aL => have := LMA.out; omega); intro v8 w8 ho hb hg hat; rw [← NY9.out] at ho; have n1_ := Aside0.mk (Kd.R_over' (zR_ HOD.out : Kd.R (Kd.int .i64) 3 _ w.heap.size (fun _ => True) (.slice Ad D.length cd) D) (Kd.R_typed (zR_ HOA.out : Kd.R (Kd.slice 3 (Kd.int .i64)) 24 _ w.heap.size (fun k_ => True ∧ some k_ ≠ (.slice A8 y8.length c8 : Value).ownBlock) (.slice Aa a.length ca) a)) (by decide) hg); have n2_ := Aside0.mk ho; have n3_ := Aside0.mk hb; have n4_ := Aside0.mk (Kd.R_after (zR_ HOL8.out : Kd.R (Kd.slice 3 (Kd.int .i64)) 24 _ w.heap.size (fun k_ => True ∧ some k_ ≠ (.slice Aa a.length ca : Value).ownBlock) (.slice A8 y8.length c8) y8) hg hat); have n5_ := Aside0.mk (Kd.R_over' (zR_ HO7.out : Kd.R (Kd.int .i64) 3 _ w.heap.size (fun _ => True) (.slice A7 c.length c7) c) (Kd.R_typed (zR_ HOA.out : Kd.R (Kd.slice 3 (Kd.int .i64)) 24 _ w.heap.size (fun k_ => True ∧ some k_ ≠ (.slice A8 y8.length c8 : Value).ownBlock) (.slice Aa a.length ca) a)) (by decide) hg); clear HB HOD HOA HOL8 HO7; have HOD := n1_; have HB := n3_; have HO7 := n5_; obtain ⟨A9, c9, e8⟩ := Kd.R_slice n2_.out; subst e8; have HOA9 := n2_; have HOL8 := n4_; clear n1_ n2_ n3_ n4_ n5_ ho hb hg hat))
       go_roundg k1
       case measure => have := HK.out; omega
       case rel => exact ⟨y9, y8, D.take (D.length - 1), H', ⟨by have := HK.out; omega⟩, ⟨zR_ HOA9.out⟩, ⟨zR_ HOL8.out⟩, ⟨by (with_reducible repeat (first | apply Kd.R_alloc | apply Kd.R_drewN | apply Kd.R_drew)); exact Kd.R_take HOD.out HDL.out⟩, ⟨zb_ HB.out⟩⟩
     ·rw [if_neg c4] at h
      exact absurd h (by simp)
   | false =>
    replace h : (if 0 < u then (if D.length < 4398046511104 then spec_l5Solve.l0 k1 a0 a L (D ++ [u]) else none) else (if 0 ≤ a0 ∧ a0 ≤ 4398046511104 then ((spec_l5Solve.l1 k1 p1 (List.replicate a0.toNat false) 0).bind fun m => (spec_l5Copy.f k1 L).bind fun z => some (true, m, z, true)) else none)) = some (r1, r2, r3, r4) := h
    by_cases c5 : 0 < u
    ·rw [if_pos c5] at h
     have d1 : decide (0 < u) = true := decide_eq_true c5
     by_cases c6 : D.length < 4398046511104
     ·rw [if_pos c6] at h
      have LMD := Aside0.mk c6
      obtain ⟨e0, he0⟩ : ∃ y_ : List Int, y_ = [] := ⟨_, rfl⟩
      obtain ⟨e1, he1⟩ : ∃ y_ : List Int, y_ = e0 ++ D := ⟨_, rfl⟩
      obtain ⟨e2, he2⟩ : ∃ y_ : List Int, y_ = e1 ++ [u] := ⟨_, rfl⟩
      have N0L := Aside0.mk (show e0.length = 0 by rw [he0]; rfl)
      have N1L := Aside0.mk (show e1.length = D.length by rw [he1, he0]; rfl)
      have H' := Aside0.mk (show spec_l5Solve.l0 k1 a0 a L e2 = some (r1, r2, r3, r4) by rw [he2, he1, he0]; exact h)
      have N0 := Aside0.mk he0
      have N1 := Aside0.mk he1
      have N2 := Aside0.mk he2
      clear h c5 c6 he0 he1 he2
      go_wp2_with (first | (go_at_call 78; (with_reducible refine (spec_l4Propagate.calls k1 _ _ a _ _ D p1 _ _ ?side1 ?side2 ?side3 ?side4 G1.out).mono ?_); (case side1 => exact zC_ (Kd.R_reads' HOA.out).2.2); (case side2 => exact (Kd.R_reads' HOA.out).2.1); (case side3 => exact zC_ (Kd.R_reads' HOD.out).2.2); (case side4 => exact (Kd.R_reads' HOD.out).2.1); rintro e w6 ⟨v6, rfl, ho, hb⟩; have HOP := Aside0.mk (Kd.R_lower ho (below_size (zb_ HB.out))); obtain ⟨Ap, cp, ep⟩ := Kd.R_slice HOP.out; subst ep; have mHOD_ := Aside0.mk (Kd.R_below (zR_ HOD.out : Kd.R (Kd.int .i64) 3 _ w.heap.size (fun _ => True) (.slice Ad D.length cd) D) hb); have mHOL_ := Aside0.mk (Kd.R_below (zR_ HOL.out : Kd.R (Kd.slice 3 (Kd.int .i64)) 24 _ w.heap.size (fun k_ => True ∧ some k_ ≠ (.slice Aa a.length ca : Value).ownBlock) (.slice Al L.length cl) L) hb); have mHOA_ := Aside0.mk (Kd.R_below (zR_ HOA.out : Kd.R (Kd.slice 3 (Kd.int .i64)) 24 _ w.heap.size (fun k_ => True ∧ some k_ ≠ (.slice Al L.length cl : Value).ownBlock) (.slice Aa a.length ca) a) hb); have mHB_ := Aside0.mk (below_step (zb_ HB.out) hb); clear HOD HOL HOA HB; have HOD := mHOD_; have HOL := mHOL_; have HOA := mHOA_; have HB := mHB_; clear mHOD_ mHOL_ mHOA_ mHB_; clear ho hb) | (go_at_call 64; (with_reducible refine (spec_l5First.calls k1 a0 _ _ p1 u _ ?side1 ?side2 G2.out).mono ?_); (case side1 => exact zC_ (Kd.R_reads' HOP.out).2.2); (case side2 => exact (Kd.R_reads' HOP.out).2.1); rintro e w7 ⟨rfl, hd⟩; have hb := Drawn0.below hd; have mHOP_ := Aside0.mk (Kd.R_below (zR_ HOP.out : Kd.R (Kd.int .i64) 3 _ w.heap.size (fun _ => True) (.slice Ap p1.length cp) p1) hb); have mHOD_ := Aside0.mk (Kd.R_below (zR_ HOD.out : Kd.R (Kd.int .i64) 3 _ w.heap.size (fun _ => True) (.slice Ad D.length cd) D) hb); have mHOL_ := Aside0.mk (Kd.R_below (zR_ HOL.out : Kd.R (Kd.slice 3 (Kd.int .i64)) 24 _ w.heap.size (fun k_ => True ∧ some k_ ≠ (.slice Aa a.length ca : Value).ownBlock) (.slice Al L.length cl) L) hb); have mHOA_ := Aside0.mk (Kd.R_below (zR_ HOA.out : Kd.R (Kd.slice 3 (Kd.int .i64)) 24 _ w.heap.size (fun k_ => True ∧ some k_ ≠ (.slice Al L.length cl : Value).ownBlock) (.slice Aa a.length ca) a) hb); have mHB_ := Aside0.mk (below_step (zb_ HB.out) hb); clear HOP HOD HOL HOA HB; have HOP := mHOP_; have HOD := mHOD_; have HOL := mHOL_; have HOA := mHOA_; have HB := mHB_; clear mHOP_ mHOD_ mHOL_ mHOA_ mHB_; have HS7 := Aside0.mk (Below.refl w7.heap.size w7); have HOA7 := HOA; have HOL7 := HOL; have HB7 := HB; clear hb hd) | ((with_reducible refine gate_dst (N := 79) rfl ?_); refine Kd.R_lit (Kd.int .i64) _ 3 ?hg (N := 79) ?hd (xs := ([] : List Int)) (inner := []) (ok := fun _ => True) (okp := fun _ => True) ?hr ?hp (fun _ hk => hk) trivial (Below.refl _ _) (Nat.le_refl _) (by simp) ?_; (case hd => rfl); (case hg => rfl); (case hr => first | (go_simp; done) | (go_simp; rfl)); (case hp => exact (Reps.none _ _)); intro v140 w4 ho hb hg_ hnew_; clear hg_ hnew_; rw [← N0.out] at ho; have n1_ := Aside0.mk (Kd.R_lower ho (below_size (by repeat (first | (with_reducible first | exact HS7.out | apply below_alloc | apply pw_below_drewN | apply below_drew1) | exact HS7.out)))); have n2_ := Aside0.mk (below_step (by repeat (first | (with_reducible first | exact HS7.out | apply below_alloc | apply pw_below_drewN | apply below_drew1) | exact HS7.out)) hb); have n3_ := Aside0.mk (Kd.R_below (zR_ HOD.out : Kd.R (Kd.int .i64) 3 _ w.heap.size (fun _ => True) (.slice Ad D.length cd) D) hb); clear HS7 HOD; have HOE := n1_; have HS7 := n2_; have HOD := n3_; clear n1_ n2_ n3_ ho hb) | ((with_reducible refine gate_builtin (b := .append) (xs := #[.tmp 79, .tmp 80]) rfl ?_); at_builtin; refine Kd.R_append_rows (Kd.int .i64) (w0 := w7) w7.heap.size rfl (.tmp 79) (.tmp 80) 24 3 (.int .i64 0) 8 rfl Try.underlying24 info3 rfl (by decide) (by omega) v140 e0 D _ _ _ (fun _ => True) (fun _ => False) rfl rfl ?aO ?aR (fun _ _ h => h) (fun _ h => h.elim) ?aF ?aB ?aS ?aL ?_; (case aR => exact zC_ (Kd.R_reads' HOD.out).2.2); (case aB => exact (by repeat (first | (with_reducible first | exact HS7.out | apply below_alloc | apply pw_below_drewN | apply below_drew1) | exact HS7.out))); (case aF => exact (fun _ _ => trivial)); (case aO => exact (zR_ HOE.out)); (case aS => exact (below_size (by repeat (first | (with_reducible first | exact HS7.out | apply below_alloc | apply pw_below_drewN | apply below_drew1) | exact HS7.out)))); (case aL => have h1 := LMD.out; have h2 := N0L.out; omega); intro v143 w6 ho hb hg hat; rw [← N1.out] at ho; have n1_ := Aside0.mk hb; have n2_ := Aside0.mk ho; clear HS7 HOE; have HS7 := n1_; have HOE := n2_; clear n1_ n2_ ho hb hg hat) | ((with_reducible refine gate_builtin (b := .append) (xs := #[.tmp 81, .tmp 83]) rfl ?_); at_builtin; refine Kd.R_append (Kd.int .i64) (w0 := w7) w7.heap.size rfl (.tmp 81) (.tmp 83) 24 3 (.int .i64 0) 8 rfl Try.underlying24 info3 rfl (by decide) (by omega) v143 e1 u [.int .i64 u] (fun _ => True) (fun _ => False) rfl rfl ?aP (fun _ hk => hk.elim) ?aF ?aO ?aB ?aS ?aL ?_; (case aP => exact rfl); (case aB => exact (by repeat (first | (with_reducible first | exact HS7.out | apply below_alloc | apply pw_below_drewN | apply below_drew1) | exact HS7.out))); (case aF => exact (fun _ _ => trivial)); (case aO => exact (zR_ HOE.out)); (case aS => exact (below_size (by repeat (first | (with_reducible first | exact HS7.out | apply below_alloc | apply pw_below_drewN | apply below_drew1) | exact HS7.out)))); (case aL => have h1 := LMD.out; have h2 := N1L.out; omega); intro v9 w9 ho hb hg hat; rw [← N2.out] at ho; have n1_ := Aside0.mk (Kd.R_below HOA7.out hb); have n2_ := Aside0.mk (Kd.R_below HOL7.out hb); have n3_ := Aside0.mk (below_step HB7.out hb); have n4_ := Aside0.mk (Kd.R_lower ho (below_size HB7.out)); clear HB HOD HOL HOA HOE HS7; have HOA := n1_; have HOL := n2_; have HB := n3_; have HOD := n4_; clear n1_ n2_ n3_ n4_ ho hb hg hat))
      go_roundg k1
      case measure => have := HK.out; omega
      case rel => exact ⟨a, L, e2, H', ⟨by have := HK.out; omega⟩, ⟨zR_ HOA.out⟩, ⟨zR_ HOL.out⟩, ⟨zR_ HOD.out⟩, ⟨zb_ HB.out⟩⟩
     ·rw [if_neg c6] at h
      exact absurd h (by simp)
    ·rw [if_neg c5] at h
     have d1 : decide (0 < u) = false := decide_eq_false c5
     clear c5
     by_cases c6 : 0 ≤ a0 ∧ a0 ≤ 4398046511104
     ·rw [if_pos c6] at h
      replace h := Option.bind_eq_some_iff.mp h
      obtain ⟨mm, A4', h⟩ := h
      replace h := Option.bind_eq_some_iff.mp h
      obtain ⟨z, A5', h⟩ := h
      have G5 := Aside0.mk A5'
      obtain ⟨rfl, rfl, rfl, rfl⟩ : true = r1 ∧ mm = r2 ∧ z = r3 ∧ true = r4 := by simpa using h
      obtain ⟨m0, hm0⟩ : ∃ m_ : List Bool, m_ = List.replicate a0.toNat false := ⟨_, rfl⟩
      rw [← hm0] at A4'
      have NM := Aside0.mk hm0
      have H' := Aside0.mk A4'
      have c3b0 := eq_true c6.1
      have c3b1 : decide (0 ≤ a0) = true := decide_eq_true c6.1
      have c4b1 : decide (a0.toNat ≤ 281474976710656) = true := decide_eq_true (by omega)
      clear h A4' A5' hm0 c6
      go_wp2_with (first | (go_at_call 78; (with_reducible refine (spec_l4Propagate.calls k1 _ _ a _ _ D p1 _ _ ?side1 ?side2 ?side3 ?side4 G1.out).mono ?_); (case side1 => exact zC_ (Kd.R_reads' HOA.out).2.2); (case side2 => exact (Kd.R_reads' HOA.out).2.1); (case side3 => exact zC_ (Kd.R_reads' HOD.out).2.2); (case side4 => exact (Kd.R_reads' HOD.out).2.1); rintro e w6 ⟨v6, rfl, ho, hb⟩; have HOP := Aside0.mk (Kd.R_lower ho (below_size (zb_ HB.out))); obtain ⟨Ap, cp, ep⟩ := Kd.R_slice HOP.out; subst ep; have mHOD_ := Aside0.mk (Kd.R_below (zR_ HOD.out : Kd.R (Kd.int .i64) 3 _ w.heap.size (fun _ => True) (.slice Ad D.length cd) D) hb); have mHOL_ := Aside0.mk (Kd.R_below (zR_ HOL.out : Kd.R (Kd.slice 3 (Kd.int .i64)) 24 _ w.heap.size (fun k_ => True ∧ some k_ ≠ (.slice Aa a.length ca : Value).ownBlock) (.slice Al L.length cl) L) hb); have mHOA_ := Aside0.mk (Kd.R_below (zR_ HOA.out : Kd.R (Kd.slice 3 (Kd.int .i64)) 24 _ w.heap.size (fun k_ => True ∧ some k_ ≠ (.slice Al L.length cl : Value).ownBlock) (.slice Aa a.length ca) a) hb); have mHB_ := Aside0.mk (below_step (zb_ HB.out) hb); clear HOD HOL HOA HB; have HOD := mHOD_; have HOL := mHOL_; have HOA := mHOA_; have HB := mHB_; clear mHOD_ mHOL_ mHOA_ mHB_; clear ho hb) | (go_at_call 64; (with_reducible refine (spec_l5First.calls k1 a0 _ _ p1 u _ ?side1 ?side2 G2.out).mono ?_); (case side1 => exact zC_ (Kd.R_reads' HOP.out).2.2); (case side2 => exact (Kd.R_reads' HOP.out).2.1); rintro e w7 ⟨rfl, hd⟩; have hb := Drawn0.below hd; have mHOP_ := Aside0.mk (Kd.R_below (zR_ HOP.out : Kd.R (Kd.int .i64) 3 _ w.heap.size (fun _ => True) (.slice Ap p1.length cp) p1) hb); have mHOD_ := Aside0.mk (Kd.R_below (zR_ HOD.out : Kd.R (Kd.int .i64) 3 _ w.heap.size (fun _ => True) (.slice Ad D.length cd) D) hb); have mHOL_ := Aside0.mk (Kd.R_below (zR_ HOL.out : Kd.R (Kd.slice 3 (Kd.int .i64)) 24 _ w.heap.size (fun k_ => True ∧ some k_ ≠ (.slice Aa a.length ca : Value).ownBlock) (.slice Al L.length cl) L) hb); have mHOA_ := Aside0.mk (Kd.R_below (zR_ HOA.out : Kd.R (Kd.slice 3 (Kd.int .i64)) 24 _ w.heap.size (fun k_ => True ∧ some k_ ≠ (.slice Al L.length cl : Value).ownBlock) (.slice Aa a.length ca) a) hb); have mHB_ := Aside0.mk (below_step (zb_ HB.out) hb); clear HOP HOD HOL HOA HB; have HOP := mHOP_; have HOD := mHOD_; have HOL := mHOL_; have HOA := mHOA_; have HB := mHB_; clear mHOP_ mHOD_ mHOL_ mHOA_ mHB_; have HS7 := Aside0.mk (Below.refl w7.heap.size w7); clear hb hd) | ((with_reducible refine gate_dst (N := 30) rfl ?_); refine Kd.R_make Kd.bool _ 4 rfl (N := 30) rfl 40 _ _ rfl a0 rfl rfl Try.underlying40 (.bool false) 1 info4 rfl (by decide) (by omega) false (ok := fun _ => True) (okp := fun _ => True) rfl (fun _ hk => hk) trivial (of_decide_eq_true (by assumption)) (Nat.le_trans (Nat.mul_le_mul_right _ (of_decide_eq_true (by assumption) : a0.toNat ≤ 281474976710656)) (by omega)) (Below.refl _ _) (Nat.le_refl _) ?_; intro v10 w10 ho hb hg_ hnew_; clear hg_ hnew_; (first | rw [← NM.out] at ho | (simp only [Int.reduceToNat] at ho; rw [← NM.out] at ho)); have n1_ := Aside0.mk (Kd.R_lower ho (below_size (zb_ HB.out))); have mHOD_ := Aside0.mk (Kd.R_below (zR_ HOD.out : Kd.R (Kd.int .i64) 3 _ w.heap.size (fun _ => True) (.slice Ad D.length cd) D) hb); have mHOL_ := Aside0.mk (Kd.R_below (zR_ HOL.out : Kd.R (Kd.slice 3 (Kd.int .i64)) 24 _ w.heap.size (fun k_ => True ∧ some k_ ≠ (.slice Aa a.length ca : Value).ownBlock) (.slice Al L.length cl) L) hb); have mHOP_ := Aside0.mk (Kd.R_below (zR_ HOP.out : Kd.R (Kd.int .i64) 3 _ w.heap.size (fun _ => True) (.slice Ap p1.length cp) p1) hb); have mHB_ := Aside0.mk (below_step (zb_ HB.out) hb); clear HOD HOL HOP HB; have HOD := mHOD_; have HOL := mHOL_; have HOP := mHOP_; have HB := mHB_; clear mHOD_ mHOL_ mHOP_ mHB_; have HOM := n1_; clear n1_ hb ho; obtain ⟨Am, cm, em⟩ := Kd.R_slice HOM.out; subst em))
      go_loopg [33] k1 (fun kq v33 w' => ∃ (m : List Bool) (x : Int), v33 = .int .i64 x ∧ Aside0 (spec_l5Solve.l1 kq p1 m x = some mm) ∧ Aside0 (kq ≤ k1) ∧ Aside0 (m.length = m0.length) ∧ Aside0 (Kd.R Kd.bool 4 w' w.heap.size (fun _ => True) (.slice Am m0.length cm) m) ∧ Aside0 (Kd.R (Kd.int .i64) 3 w' w.heap.size (fun _ => True) (.slice Ap p1.length cp) p1) ∧ Aside0 (Kd.R (Kd.slice 3 (Kd.int .i64)) 24 w' w.heap.size (fun k_ => True ∧ some k_ ≠ (.slice Aa a.length ca : Value).ownBlock) (.slice Al L.length cl) L) ∧ Aside0 (Below w.heap.size w w'))
      case atStart => exact ⟨m0, 0, rfl, H', ⟨Nat.le_refl _⟩, ⟨rfl⟩, ⟨zR_ HOM.out⟩, ⟨zR_ HOP.out⟩, ⟨zR_ HOL.out⟩, ⟨zb_ HB.out⟩⟩
      case round =>
       clear H' HB HOM HOP HOL HOD HOA HS7
       obtain ⟨m, x, rfl, HA, HK2, HML, HOM, HOP, HOL, HB⟩ := hrel
       cases gk with
       | zero => exact absurd HA.out (by simp [spec_l5Solve.l1])
       | succ k2 =>
        have h := HA.out
        clear HA
        simp only [spec_l5Solve.l1] at h
        by_cases c7 : x < (p1.length : Int)
        ·rw [if_pos c7] at h
         have c7b : decide (x < (p1.length : Int)) = true := decide_eq_true c7
         by_cases c8 : 0 ≤ x
         ·rw [if_pos c8] at h
          have HPC := (Kd.R_reads' HOP.out).2.2
          obtain ⟨ad1, e1, hx1⟩ := Kd.at_int HPC x c8 c7
          cases e1
          obtain ⟨n, hn⟩ : ∃ n, rd p1 x = n := ⟨_, rfl⟩
          rw [hn] at hx1 h
          have hpl : (p1.length : Int) ≤ 9223372036854775807 := by have := HPC.2.1; omega
          have HWX := Aside0.mk (show wrap64 (x + 1) = x + 1 by unfold wrap64; omega)
          by_cases c9 : 0 < n
          ·rw [if_pos c9] at h
           have c9b : decide (0 < n) = true := decide_eq_true c9
           by_cases c10 : n ≤ (m.length : Int)
           ·rw [if_pos c10] at h
            have HMLe := HML.out
            have hcm := (Kd.R_reads HOM.out)
            have hmm : (m0.length : Int) ≤ 9223372036854775807 := by obtain ⟨_, _, _, _, hr_⟩ := hcm; have := hr_.2.1; omega
            obtain ⟨gm, cm2, em, gb, gl, cl2, HG⟩ := Kd.R_form HOM.out (by omega)
            have em2 : Am = some ⟨gm, 0, none⟩ := by injection em
            subst em2
            obtain ⟨hx12, hf12⟩ := Kd.R_celln false HOM.out (n - 1) (by omega) (by omega)
            have HQN := Aside0.mk (show (n - 1).toNat = n.toNat - 1 by omega)
            rw [HQN.out] at hx12 hf12
            obtain ⟨y2, hy2⟩ : ∃ y_, y_ = m.set (n.toNat - 1) true := ⟨_, rfl⟩
            rw [← hy2] at h
            have NY2 := Aside0.mk hy2
            have HY2L := Aside0.mk (show y2.length = m0.length by rw [hy2, List.length_set]; exact HMLe)
            have HGB := Aside0.mk gb
            have HP2 := Aside0.mk (HQN.out ▸ Kd.R_putg HOM.out (n - 1) true)
            have H' := Aside0.mk h
            have p12 := eq_true (show 0 ≤ n - 1 by omega)
            have q12 := eq_true (show n - 1 < (m0.length : Int) by omega)
            have p12b := eq_true (show 1 ≤ n by omega)
            have q13 := eq_true (show n ≤ (m0.length : Int) by omega)
            have d1 : (0 : Int) ≤ n := by omega
            have d2 : n ≤ 9223372036854775807 := by omega
            have p101 := eq_true c8
            have q101 := eq_true c7
            clear h c7 c8 c9 c10 hn hy2 hcm em HMLe gb gl cl2 HG HPC
            go_wp2_with ((with_reducible refine gate_store (t := 4) (p := 42) rfl ?_); refine store_event (t := 4) (p := 42) (v := ?vo_w14) (w1 := (wr.setCell ⟨gm, n.toNat - 1, none⟩ (.bool true))) ?hg ?ho ?hn ?hr ?_; (case ho => rfl); (case hg => rfl); (case hn => rfl); (case hr => first | (go_simp; done) | (go_simp; rfl)); intro w14 hw; have hgg : wr.grownBy w14 (some gm) := (by rw [hw]; exact HP2.out.2); have n1_ := Aside0.mk (show Kd.R Kd.bool 4 w14 w.heap.size (fun _ => True) (.slice (some ⟨gm, 0, none⟩) m0.length cm) y2 by rw [hw, NY2.out]; exact HP2.out.1); have n2_ := Aside0.mk ((by rw [hw]; exact below_set HB.out HGB.out : Below w.heap.size w w14)); have n3_ := Aside0.mk (Kd.R_over' HOP.out (Kd.R_typed HOM.out) (by decide) hgg); have n4_ := Aside0.mk (Kd.R_over' HOL.out (Kd.R_typed HOM.out) (by decide) hgg); clear HOM HOP HOL HB HP2 hgg hw; have HOM := n1_; have HB := n2_; have HOP := n3_; have HOL := n4_; clear n1_ n2_ n3_ n4_)
            go_roundg k2
            case measure => have := HK2.out; omega
            case rel => exact ⟨y2, wrap64 (x + 1), by first | rfl | (rw [← HWX.out]; done) | (rw [HWX.out]; done) | simp [HWX.out], H', ⟨by have := HK2.out; omega⟩, HY2L, ⟨zR_ HOM.out⟩, ⟨zR_ HOP.out⟩, ⟨zR_ HOL.out⟩, ⟨zb_ HB.out⟩⟩
           ·rw [if_neg c10] at h
            exact absurd h (by simp)
          ·rw [if_neg c9] at h
           have c9b : decide (0 < n) = false := decide_eq_false c9
           have H' := Aside0.mk h
           have p101 := eq_true c8
           have q101 := eq_true c7
           clear h c7 c8 c9 hn HPC
           go_wp2
           go_roundg k2
           case measure => have := HK2.out; omega
           case rel => exact ⟨m, wrap64 (x + 1), by first | rfl | (rw [← HWX.out]; done) | (rw [HWX.out]; done) | simp [HWX.out], H', ⟨by have := HK2.out; omega⟩, HML, ⟨zR_ HOM.out⟩, ⟨zR_ HOP.out⟩, ⟨zR_ HOL.out⟩, ⟨zb_ HB.out⟩⟩
         ·rw [if_neg c8] at h
          exact absurd h (by simp)
        ·rw [if_neg c7] at h
         have c7b : decide (x < (p1.length : Int)) = false := decide_eq_false c7
         obtain rfl : m = mm := by simpa using h
         clear h c7
         go_wp2_with (go_at_call 72; (with_reducible refine (spec_l5Copy.calls k1 _ _ L z _ ?side1 ?side2 G5.out).mono ?_); (case side1 => exact zC_ (Kd.R_reads' HOL.out).2.2); (case side2 => exact (Kd.R_reads' HOL.out).2.1); rintro e w11 ⟨v11, rfl, ho, hb⟩; have HOZ := Aside0.mk (Kd.S_lower ho (below_size (zb_ HB.out))); have n1_ := Aside0.mk (Kd.R_below (zR_ HOM.out : Kd.R Kd.bool 4 _ w.heap.size (fun _ => True) (.slice Am m0.length cm) m) hb); have n0_ := Aside0.mk (below_step (zb_ HB.out) hb); clear HB HOM; have HB := n0_; have HOM := n1_; clear n0_ n1_ ho hb)
         (try simp only [Exit.inBlock, Exit.then])
         refine bodyPost_ret (results_tmp4_ rfl _ _ _) rfl ?_
         exact ⟨_, _, by first | rfl | simp, zR_ HOM.out, zS_ HOZ.out, zb_ HB.out⟩
     ·rw [if_neg c6] at h
      exact absurd h (by simp)
mutual
def spec_SolveWith.j0 : Nat → Int → List (List Int) → List Int → Bool → Option (Bool × List Bool × (List (List Int)) × Bool)
 | 0, _, _, _, _ => none
 | k + 1, x0, x1, x2, x30 => if x30 = true then (some (false, ([] : List Bool), ([] : List (List Int)), false)) else ((spec_l5Copy.f k x1).bind fun t329 => (spec_SolveWith.l0 k x0 t329 x2 (x2.length : Int) 0))
def spec_SolveWith.l0 : Nat → Int → List (List Int) → List Int → Int → Int → Option (Bool × List Bool × (List (List Int)) × Bool)
 | 0, _, _, _, _, _ => none
 | k + 1, x0, x10, x33, x34, x35 => if x35 < x34 then (if 0 ≤ x35 then (if x35 < (x33.length : Int) then (if x10.length < 5864062014805 then (spec_SolveWith.l0 k x0 (x10 ++ [(([rd x33 x35] : List Int))]) x33 x34 (wrap64 (x35 + 1))) else (none)) else (none)) else (none)) else ((spec_l5Solve.f k x0 x10).bind fun bt339 => (some (bt339.1, bt339.2.1, bt339.2.2.1, bt339.2.2.2)))
end
def spec_SolveWith.f (k : Nat) (a0 : Int) (l1 : List (List Int)) (l2 : List Int) : Option (Bool × List Bool × (List (List Int)) × Bool) := (spec_GoodClauses.f k a0 l1).bind fun t327 => (if t327 = true then ((spec_l4Given.f k a0 l2).bind fun t328 => (if t328 = true then (spec_SolveWith.j0 k a0 l1 l2 (decide ((wrap64 ((l1.length : Int) + (l2.length : Int))) > 60))) else (spec_SolveWith.j0 k a0 l1 l2 true))) else (spec_SolveWith.j0 k a0 l1 l2 true))
theorem spec_SolveWith.mono_l : ∀ k, (∀ y0 y1 y2 y3, LeO (spec_SolveWith.j0 k y0 y1 y2 y3) (spec_SolveWith.j0 (k + 1) y0 y1 y2 y3)) ∧ (∀ y0 y1 y2 y3 y4, LeO (spec_SolveWith.l0 k y0 y1 y2 y3 y4) (spec_SolveWith.l0 (k + 1) y0 y1 y2 y3 y4))
 | 0 => ⟨fun _ _ _ _ r h => by simp [spec_SolveWith.j0] at h, fun _ _ _ _ _ r h => by simp [spec_SolveWith.l0] at h⟩
 | k + 1 => by
  obtain ⟨ih0, ih1⟩ := spec_SolveWith.mono_l k
  refine ⟨?_, ?_⟩
  ·intro y0 y1 y2 y3
   unfold spec_SolveWith.j0
   repeat' first
   | (with_reducible exact ih0 _ _ _ _)
   | (with_reducible exact ih1 _ _ _ _ _)
   | (with_reducible exact spec_GoodClauses.mono _ _ _)
   | (with_reducible exact spec_l4Given.mono _ _ _)
   | (with_reducible exact spec_l5Copy.mono _ _)
   | (with_reducible exact spec_l5Solve.mono _ _ _)
   | (with_reducible exact LeO.refl _)
   | (with_reducible exact LeO.none _)
   | (with_reducible refine LeO.ite ?_ ?_)
   | (with_reducible refine LeO.bind ?_ (fun _ => ?_))
   | exact ih0 _ _ _ _
   | exact ih1 _ _ _ _ _
   | exact spec_GoodClauses.mono _ _ _
   | exact spec_l4Given.mono _ _ _
   | exact spec_l5Copy.mono _ _
   | exact spec_l5Solve.mono _ _ _
   | exact LeO.none _
   | refine LeO.ite ?_ ?_
   | refine LeO.bind ?_ (fun _ => ?_)
  ·intro y0 y1 y2 y3 y4
   unfold spec_SolveWith.l0
   repeat' first
   | (with_reducible exact ih0 _ _ _ _)
   | (with_reducible exact ih1 _ _ _ _ _)
   | (with_reducible exact spec_GoodClauses.mono _ _ _)
   | (with_reducible exact spec_l4Given.mono _ _ _)
   | (with_reducible exact spec_l5Copy.mono _ _)
   | (with_reducible exact spec_l5Solve.mono _ _ _)
   | (with_reducible exact LeO.refl _)
   | (with_reducible exact LeO.none _)
   | (with_reducible refine LeO.ite ?_ ?_)
   | (with_reducible refine LeO.bind ?_ (fun _ => ?_))
   | exact ih0 _ _ _ _
   | exact ih1 _ _ _ _ _
   | exact spec_GoodClauses.mono _ _ _
   | exact spec_l4Given.mono _ _ _
   | exact spec_l5Copy.mono _ _
   | exact spec_l5Solve.mono _ _ _
   | exact LeO.none _
   | refine LeO.ite ?_ ?_
   | refine LeO.bind ?_ (fun _ => ?_)
theorem spec_SolveWith.mono : ∀ a0 a1 a2 k, LeO (spec_SolveWith.f k a0 a1 a2) (spec_SolveWith.f (k + 1) a0 a1 a2) := by
 intro a0 a1 a2 k
 obtain ⟨ih0, ih1⟩ := spec_SolveWith.mono_l k
 unfold spec_SolveWith.f
 repeat' first
   | (with_reducible exact ih0 _ _ _ _)
   | (with_reducible exact ih1 _ _ _ _ _)
   | (with_reducible exact spec_GoodClauses.mono _ _ _)
   | (with_reducible exact spec_l4Given.mono _ _ _)
   | (with_reducible exact spec_l5Copy.mono _ _)
   | (with_reducible exact spec_l5Solve.mono _ _ _)
   | (with_reducible exact LeO.refl _)
   | (with_reducible exact LeO.none _)
   | (with_reducible refine LeO.ite ?_ ?_)
   | (with_reducible refine LeO.bind ?_ (fun _ => ?_))
   | exact ih0 _ _ _ _
   | exact ih1 _ _ _ _ _
   | exact spec_GoodClauses.mono _ _ _
   | exact spec_l4Given.mono _ _ _
   | exact spec_l5Copy.mono _ _
   | exact spec_l5Solve.mono _ _ _
   | exact LeO.none _
   | refine LeO.ite ?_ ?_
   | refine LeO.bind ?_ (fun _ => ?_)
set_option maxHeartbeats 8000000 in
set_option maxRecDepth 100000 in
theorem spec_SolveWith.calls (k : Nat) (a0 : Int) (A1 : Option Addr) (c1 : Nat) (l1 : List (List Int)) (A2 : Option Addr) (c2 : Nat) (l2 : List Int) (r1 : Bool) (r2 : List Bool) (r3 : List (List Int)) (r4 : Bool) (w : World) (hr1 : Kd.C (Kd.slice 3 (Kd.int .i64)) w A1 l1.length l1) (hc1 : l1.length ≤ c1) (hr2 : Kd.C (Kd.int .i64) w A2 l2.length l2) (hc2 : l2.length ≤ c2) (h : spec_SolveWith.f k a0 l1 l2 = some (r1, r2, r3, r4)) :
  Calls Try.prog 51 #[.int .i64 a0, .slice A1 l1.length c1, .slice A2 l2.length c2] w fun e w' => ∃ v1_ v2_ : Value, e = .returned (.tuple #[.bool r1, v1_, v2_, .bool r4]) ∧ Kd.R Kd.bool 4 w' w.heap.size (fun _ => True) v1_ r2 ∧ Kd.S (Kd.slice 3 (Kd.int .i64)) 24 w' w.heap.size (fun _ => True) v2_ r3 ∧ Below w.heap.size w w' := by
 have HR1 := Aside0.mk hr1
 have HC1 := Aside0.mk hc1
 clear hr1 hc1
 have HR2 := Aside0.mk hr2
 have HC2 := Aside0.mk hc2
 clear hr2 hc2
 have HB := Aside0.mk (Below.refl w.heap.size w)
 have H : ((spec_GoodClauses.f k a0 l1).bind fun t327 => (if t327 = true then ((spec_l4Given.f k a0 l2).bind fun t328 => (if t328 = true then (spec_SolveWith.j0 k a0 l1 l2 (decide ((wrap64 ((l1.length : Int) + (l2.length : Int))) > 60))) else (spec_SolveWith.j0 k a0 l1 l2 true))) else (spec_SolveWith.j0 k a0 l1 l2 true))) = some (r1, r2, r3, r4) := h
 clear h
 have HC4 := Aside0.mk H
 clear H
 go_enter Try.func51, Try.ntmps51
 go_upto_region 1 with (fail)
 go_cut [30] (fun v30 wc => ∃ (kq : Nat) (x30_3 : Bool), v30 = .bool x30_3 ∧ Aside0 (spec_SolveWith.j0 kq a0 l1 l2 x30_3 = some (r1, r2, r3, r4)) ∧ Aside0 (kq ≤ k) ∧ Aside0 (Below w.heap.size w wc))
 case first =>
  have H := HC4.out
  clear HC4
  replace H := Option.bind_eq_some_iff.mp H
  obtain ⟨t327, A50, H⟩ := H
  (try dsimp only at H)
  have A5 := Aside0.mk A50
  clear A50
  by_cases c6 : t327 = true
  ·subst c6
   have H1 : ((spec_l4Given.f k a0 l2).bind fun t328 => (if t328 = true then (spec_SolveWith.j0 k a0 l1 l2 (decide ((wrap64 ((l1.length : Int) + (l2.length : Int))) > 60))) else (spec_SolveWith.j0 k a0 l1 l2 true))) = some (r1, r2, r3, r4) := by rw [if_pos rfl] at H; exact H
   clear H
   have H := H1
   clear H1
   replace H := Option.bind_eq_some_iff.mp H
   obtain ⟨t328, A70, H⟩ := H
   (try dsimp only at H)
   have A7 := Aside0.mk A70
   clear A70
   by_cases c8 : t328 = true
   ·subst c8
    have H1 : (spec_SolveWith.j0 k a0 l1 l2 (decide ((wrap64 ((l1.length : Int) + (l2.length : Int))) > 60))) = some (r1, r2, r3, r4) := by rw [if_pos rfl] at H; exact H
    clear H
    have H := H1
    clear H1
    have H' := Aside0.mk H
    clear H
    go_wp2_with (first | ((with_reducible refine gate_callee (f := 27) rfl ?_); refine goesL_ (some 15) rfl rfl Try.func27 (by kernel_rfl) rfl #[.int .i64 a0, .slice A1 l1.length c1] rfl (by simp only [zA_, zB_, zD_] <;> rfl) ?_; (with_reducible refine (spec_GoodClauses.calls k a0 _ _ l1 true _ ?side1 ?side2 A5.out).mono ?_); (case side1 => exact zC_ (Kd.C_below HR1.out HB.out)); (case side2 => exact HC1.out); rintro e w' ⟨rfl, ⟨nd, rfl⟩⟩; refine ⟨_, rfl, ?_⟩) | (go_at_call 60; (with_reducible refine (spec_l4Given.calls k a0 _ _ l2 true _ ?side1 ?side2 A7.out).mono ?_); (case side1 => exact Kd.C_below HR2.out (zb_ HB.out)); (case side2 => exact HC2.out); rintro e w' ⟨rfl, ⟨nd, rfl⟩⟩))
    go_meet
    case rel => exact ⟨_, (decide ((wrap64 ((l1.length : Int) + (l2.length : Int))) > 60)), (by first | rfl | (simp; done) | (simp [*]; done)), H', ⟨by first | omega | exact Nat.le_refl _⟩, ⟨zb_ HB.out⟩⟩
   ·replace c8 := Bool.eq_false_iff.mpr c8
    subst c8
    have H1 : (spec_SolveWith.j0 k a0 l1 l2 true) = some (r1, r2, r3, r4) := by rw [if_neg (show ¬ (false = true) by decide)] at H; exact H
    clear H
    have H := H1
    clear H1
    have H' := Aside0.mk H
    clear H
    go_wp2_with (first | ((with_reducible refine gate_callee (f := 27) rfl ?_); refine goesL_ (some 15) rfl rfl Try.func27 (by kernel_rfl) rfl #[.int .i64 a0, .slice A1 l1.length c1] rfl (by simp only [zA_, zB_, zD_] <;> rfl) ?_; (with_reducible refine (spec_GoodClauses.calls k a0 _ _ l1 true _ ?side1 ?side2 A5.out).mono ?_); (case side1 => exact zC_ (Kd.C_below HR1.out HB.out)); (case side2 => exact HC1.out); rintro e w' ⟨rfl, ⟨nd, rfl⟩⟩; refine ⟨_, rfl, ?_⟩) | (go_at_call 60; (with_reducible refine (spec_l4Given.calls k a0 _ _ l2 false _ ?side1 ?side2 A7.out).mono ?_); (case side1 => exact Kd.C_below HR2.out (zb_ HB.out)); (case side2 => exact HC2.out); rintro e w' ⟨rfl, ⟨nd, rfl⟩⟩))
    go_meet
    case rel => exact ⟨_, (true), (by first | rfl | (simp; done) | (simp [*]; done)), H', ⟨by first | omega | exact Nat.le_refl _⟩, ⟨zb_ HB.out⟩⟩
  ·replace c6 := Bool.eq_false_iff.mpr c6
   subst c6
   have H1 : (spec_SolveWith.j0 k a0 l1 l2 true) = some (r1, r2, r3, r4) := by rw [if_neg (show ¬ (false = true) by decide)] at H; exact H
   clear H
   have H := H1
   clear H1
   have H' := Aside0.mk H
   clear H
   go_wp2_with (first | ((with_reducible refine gate_callee (f := 27) rfl ?_); refine goesL_ (some 15) rfl rfl Try.func27 (by kernel_rfl) rfl #[.int .i64 a0, .slice A1 l1.length c1] rfl (by simp only [zA_, zB_, zD_] <;> rfl) ?_; (with_reducible refine (spec_GoodClauses.calls k a0 _ _ l1 false _ ?side1 ?side2 A5.out).mono ?_); (case side1 => exact zC_ (Kd.C_below HR1.out HB.out)); (case side2 => exact HC1.out); rintro e w' ⟨rfl, ⟨nd, rfl⟩⟩; refine ⟨_, rfl, ?_⟩))
   go_meet
   case rel => exact ⟨_, (true), (by first | rfl | (simp; done) | (simp [*]; done)), H', ⟨by first | omega | exact Nat.le_refl _⟩, ⟨zb_ HB.out⟩⟩
 case rest =>
  clear HC4
  try clear c1
  try clear c2
  try clear p2
  try clear c5
  try clear c6
  try clear p6
  try clear c8
  obtain ⟨kq, x30_3, rfl, HA, HJ3, HB⟩ := hcut
  cases kq with
  | zero => exact absurd HA.out (by simp [spec_SolveWith.j0])
  | succ kj3 =>
   have H := HA.out
   clear HA
   simp only [spec_SolveWith.j0] at H
   by_cases c9 : x30_3 = true
   ·subst c9
    have H1 : (some (false, ([] : List Bool), ([] : List (List Int)), false)) = some (r1, r2, r3, r4) := by rw [if_pos rfl] at H; exact H
    clear H
    have H := H1
    clear H1
    simp only [Option.some.injEq, Prod.mk.injEq] at H
    obtain ⟨rfl, rfl, rfl, rfl⟩ := H
    go_wp2
    refine bodyPost_ret (results_list (rs := [.tmp 6, .tmp 7, .tmp 8, .tmp 9]) rfl (by simp) (.tmp (.tmp (.tmp (.tmp .nil))))) rfl ?_
    exact ⟨_, _, by first | rfl | (simp [errW_none, errW_some] <;> rfl) | (simp [*, errW_none, errW_some] <;> rfl), by first | exact Kd.R_nil _ _ _ _ _ | exact Kd.N_nil _ _ _ _ _ | exact Kd.V_nil _ _ _ _ _ | exact Kd.Q_nil _ _ _ _ _ | exact Kd.S_nil _ _ _ _ _, by first | exact Kd.S_nil _ _ _ _ _ | exact Kd.N_nil _ _ _ _ _ | exact Kd.V_nil _ _ _ _ _ | exact Kd.Q_nil _ _ _ _ _ | exact Kd.R_nil _ _ _ _ _, zb_ HB.out⟩
   ·replace c9 := Bool.eq_false_iff.mpr c9
    subst c9
    have H1 : ((spec_l5Copy.f kj3 l1).bind fun t329 => (spec_SolveWith.l0 kj3 a0 t329 l2 (l2.length : Int) 0)) = some (r1, r2, r3, r4) := by rw [if_neg (show ¬ (false = true) by decide)] at H; exact H
    clear H
    have H := H1
    clear H1
    replace H := Option.bind_eq_some_iff.mp H
    obtain ⟨t329, A100, H⟩ := H
    (try dsimp only at H)
    have A10 := Aside0.mk A100
    clear A100
    have H' := Aside0.mk H
    clear H
    go_wp2_with (first | ((with_reducible refine gate_callee (f := 72) rfl ?_); refine goesL_ (some 32) rfl rfl Try.func72 (by kernel_rfl) rfl #[.slice A1 l1.length c1] rfl (by simp only [zA_, zB_, zD_] <;> rfl) ?_; (with_reducible refine (spec_l5Copy.calls kj3 _ _ l1 t329 _ ?side1 ?side2 A10.out).mono ?_); (case side1 => exact zC_ (Kd.C_below HR1.out HB.out)); (case side2 => exact HC1.out); rintro e w11 ⟨v330, rfl, ho0, hb⟩; refine ⟨_, rfl, ?_⟩; have n0_ := Aside0.mk (Kd.S_lower ho0 (below_size (zb_ HB.out))); have n1_ := Aside0.mk (below_step (zb_ HB.out) hb); clear HB; have HO331 := n0_; have HB := n1_; clear n0_ n1_; (try clear hb); (try clear hb2); (try clear hk); (try clear hi); (try clear ho0)))
    go_loopg [10, 35] kj3 (fun kq v10 v35 w' => ∃ (x10_2 : List (List Int)) (x35_2 : Int), v35 = .int .i64 x35_2 ∧ Aside0 (spec_SolveWith.l0 kq a0 x10_2 l2 (l2.length : Int) x35_2 = some (r1, r2, r3, r4)) ∧ Aside0 (kq ≤ kj3) ∧ Aside0 (Kd.S (Kd.slice 3 (Kd.int .i64)) 24 w' w.heap.size (fun _ => True) v10 x10_2) ∧ Aside0 (Below w.heap.size w w'))
    case atStart => exact ⟨(t329), (0), (by first | rfl | (simp; done) | (simp [*]; done)), H', ⟨Nat.le_refl _⟩, ⟨zS_ HO331.out⟩, ⟨zb_ HB.out⟩⟩
    case round =>
     clear H'
     try clear c1
     try clear c2
     try clear p2
     try clear c5
     try clear c6
     try clear p6
     try clear c7
     try clear c8
     try clear c9
     try clear p2
     try clear p6
     obtain ⟨x10_2, x35_2, rfl, HA, HK2, HO_10, HB⟩ := hrel
     cases gk with
     | zero => exact absurd HA.out (by simp [spec_SolveWith.l0])
     | succ k2 =>
      have H := HA.out
      clear HA
      simp only [spec_SolveWith.l0] at H
      by_cases c12 : x35_2 < (l2.length : Int)
      ·rw [if_pos c12] at H
       have c12b0 : decide (x35_2 < (l2.length : Int)) = true := decide_eq_true c12
       clear c12
       by_cases c13 : 0 ≤ x35_2
       ·rw [if_pos c13] at H
        have c13b0 : decide (0 ≤ x35_2) = true := decide_eq_true c13
        clear c13
        by_cases c14 : x35_2 < (l2.length : Int)
        ·rw [if_pos c14] at H
         have c14b0 : decide (x35_2 < (l2.length : Int)) = true := decide_eq_true c14
         clear c14
         obtain ⟨y333, hy333⟩ : ∃ y_ : List Int, y_ = (([rd l2 x35_2] : List Int)) := ⟨_, rfl⟩
         replace H : (if x10_2.length < 5864062014805 then (spec_SolveWith.l0 k2 a0 (x10_2 ++ [y333]) l2 (l2.length : Int) (wrap64 (x35_2 + 1))) else (none)) = some (r1, r2, r3, r4) := by first | (rw [hy333]; with_reducible exact H) | (have H2_ := (Option.bind_some _ _).symm.trans H; rw [hy333]; with_reducible exact H2_) | (have H2_ := (Option.bind_some _ _).symm.trans H; with_reducible exact H2_) | with_reducible exact H | (rw [hy333]; exact H) | exact H
         have Ny333 := Aside0.mk hy333
         clear hy333
         by_cases c15 : x10_2.length < 5864062014805
         ·rw [if_pos c15] at H
          have LMc15 := Aside0.mk c15
          clear c15
          obtain ⟨y336, hy336⟩ : ∃ y_ : List (List Int), y_ = (x10_2 ++ [y333]) := ⟨_, rfl⟩
          replace H : (spec_SolveWith.l0 k2 a0 y336 l2 (l2.length : Int) (wrap64 (x35_2 + 1))) = some (r1, r2, r3, r4) := by first | (rw [hy336]; with_reducible exact H) | (have H2_ := (Option.bind_some _ _).symm.trans H; rw [hy336]; with_reducible exact H2_) | (have H2_ := (Option.bind_some _ _).symm.trans H; with_reducible exact H2_) | with_reducible exact H | (rw [hy336]; exact H) | exact H
          have Ny336 := Aside0.mk hy336
          clear hy336
          have H' := Aside0.mk H
          clear H
          have p332 : 0 ≤ (x35_2 : Int) := of_decide_eq_true (by assumption)
          have q332 : x35_2 < (l2.length : Int) := of_decide_eq_true (by assumption)
          obtain ⟨ad332, e332, hx332_0⟩ := Kd.at_int HR2.out x35_2 p332 q332
          cases e332
          (try replace hx332_0 := (HB.out.cell (World.block_lt_of_cell? w _ hx332_0)).trans hx332_0)
          replace p332 := eq_true p332
          replace q332 := eq_true q332
          go_wp2_with (first | ((with_reducible refine gate_dst (N := 41) rfl ?_); (try (refine gate_guard (by rfl) ?_; dsimp only)); refine Kd.R_lit (Kd.int .i64) _ 3 ?hg (N := 41) ?hd (xs := ([rd l2 x35_2] : List Int)) (inner := [.int .i64 (rd l2 x35_2)]) (ok := fun _ => True) (okp := fun _ => True) ?hr ?hp (fun _ hk => hk) trivial (Below.refl _ _) (Nat.le_refl _) (by simp) ?_; (case hd => rfl); (case hg => rfl); (case hr => first | (go_simp; done) | (go_simp; rfl)); (case hp => exact (Reps.one (show Kd.M (Kd.int .i64) _ _ _ (rd l2 x35_2) [.int .i64 (rd l2 x35_2)] from rfl) (Reps.none _ _))); intro v334 w16 ho17 hb hg_ hnew_; clear hg_ hnew_; (first | rw [← Ny333.out] at ho17 | (simp only [Int.reduceToNat] at ho17; rw [← Ny333.out] at ho17)); have n0_ := Aside0.mk (Kd.S_elder' (zS_ HO_10.out) (Kd.R_base ho17) hb); have n1_ := Aside0.mk (Kd.R_lower ho17 (below_size (zb_ HB.out))); have n2_ := Aside0.mk (below_step (zb_ HB.out) hb); clear HO_10; clear HB; have HO_10 := n0_; have HO335 := n1_; have HB := n2_; clear n0_ n1_ n2_; clear hb ho17; obtain ⟨Ao19, co19, eo19⟩ := Kd.R_slice HO335.out; subst eo19) | ((with_reducible refine gate_builtin (b := .append) (xs := #[.tmp 39, .tmp 42]) rfl ?_); (try (refine gate_guard (by rfl) ?_; dsimp only)); at_builtin; refine Kd.S_append (Kd.slice 3 (Kd.int .i64)) (w0 := w) w.heap.size rfl (.tmp 39) (.tmp 42) 23 24 (.slice none 0 0) 24 rfl Try.underlying23 info24 rfl (by decide) (by omega) u10 x10_2 y333 [.slice Ao19 y333.length co19] (fun _ => True) (fun k_ => some k_ = (.slice Ao19 y333.length co19 : Value).ownBlock) rfl rfl ?aP (fun k_ hk_ => ((Kd.R_mono (ok' := fun k_ => ((fun _ => True)) k_ ∧ some k_ ≠ (u10 : Value).ownBlock) (Kd.R_apart' (HO335.out) (Kd.S_typed HO_10.out) (by decide)) (fun k_ hk => ⟨trivial, hk.2⟩))).1 k_ hk_.symm) ?aF ?aO ?aB ?aS ?aL ?_; (case aP => exact Kd.M_row (Kd.R_mono (Kd.R_tight rfl (Kd.R_mono (ok' := fun k_ => ((fun _ => True)) k_ ∧ some k_ ≠ (u10 : Value).ownBlock) (Kd.R_apart' (HO335.out) (Kd.S_typed HO_10.out) (by decide)) (fun k_ hk => ⟨trivial, hk.2⟩))) (fun _ h_ => h_))); (case aB => exact (zb_ HB.out)); (case aF => exact (fun _ _ => trivial)); (case aO => exact (by (with_reducible repeat (first | apply Kd.S_alloc | apply Kd.S_drewN | apply Kd.S_drew)); exact Kd.S_mono HO_10.out (fun k_ hk => ⟨trivial, fun e_ => hk.2 e_⟩))); (case aS => exact (below_size (zb_ HB.out))); (case aL => have := LMc15.out; omega); intro v337 w18 ho hb hg hat; rw [← Ny336.out] at ho; have n0_ := Aside0.mk (hb); have n1_ := Aside0.mk (ho); clear HB; clear HO_10; clear HO335; have HB := n0_; have HO338 := n1_; clear n0_ n1_; clear ho hb hg hat))
          go_roundg k2
          case measure => have := HJ3.out; have := HK2.out; omega
          case rel => exact ⟨(y336), (wrap64 (x35_2 + 1)), (by first | rfl | (simp; done) | (simp [*]; done)), H', ⟨by have := HJ3.out; have := HK2.out; omega⟩, ⟨zS_ HO338.out⟩, ⟨zb_ HB.out⟩⟩
         ·rw [if_neg c15] at H
          exact absurd H (by simp)
        ·rw [if_neg c14] at H
         exact absurd H (by simp)
       ·rw [if_neg c13] at H
        exact absurd H (by simp)
      ·rw [if_neg c12] at H
       have c12b0 : decide (x35_2 < (l2.length : Int)) = false := decide_eq_false c12
       clear c12
       replace H := Option.bind_eq_some_iff.mp H
       obtain ⟨⟨t339, t340, t341, t342⟩, A200, H⟩ := H
       (try dsimp only at H)
       have A20 := Aside0.mk A200
       clear A200
       simp only [Option.some.injEq, Prod.mk.injEq] at H
       obtain ⟨rfl, rfl, rfl, rfl⟩ := H
       obtain ⟨Ao21, co21, eo21⟩ := Kd.S_slice HO_10.out
       subst eo21
       go_wp2_with (first | ((with_reducible refine gate_callee (f := 97) rfl ?_); refine goesL_ (some 47) rfl rfl Try.func97 (by kernel_rfl) rfl #[.int .i64 a0, .slice Ao21 x10_2.length co21] rfl (by simp only [zA_, zB_, zD_] <;> rfl) ?_; (with_reducible refine (spec_l5Solve.calls k2 a0 _ _ x10_2 t339 t340 t341 t342 _ ?side1 ?side2 A20.out).mono ?_); (case side1 => exact zC_ (Kd.S_reads' HO_10.out).2.2); (case side2 => exact (Kd.S_reads' HO_10.out).2.1); rintro e w22 ⟨v343, v345, rfl, ho0, ho1, hb⟩; refine ⟨_, rfl, ?_⟩; have n0_ := Aside0.mk (Kd.S_elder' (zS_ HO_10.out) (Kd.S_base ho1) hb); have n1_ := Aside0.mk (Kd.R_lower ho0 (below_size (zb_ HB.out))); have n2_ := Aside0.mk (Kd.S_lower (Kd.S_new' ho1 (Kd.S_lt (zS_ HO_10.out))) (below_size (zb_ HB.out))); have n3_ := Aside0.mk (below_step (zb_ HB.out) hb); clear HO_10; clear HB; have HO_10 := n0_; have HO344 := n1_; have HO346 := n2_; have HB := n3_; clear n0_ n1_ n2_ n3_; (try clear hb); (try clear hb2); (try clear hk); (try clear hi); (try clear ho0); (try clear ho1)))
       refine bodyPost_ret (results_list (rs := [.tmp 6, .tmp 7, .tmp 8, .tmp 9]) rfl (by simp) (.tmp (.tmp (.tmp (.tmp .nil))))) rfl ?_
       exact ⟨_, _, by first | rfl | (simp [errW_none, errW_some] <;> rfl) | (simp [*, errW_none, errW_some] <;> rfl), zR_ HO344.out, by (with_reducible repeat (first | apply Kd.S_alloc | apply Kd.S_drewN | apply Kd.S_drew)); exact Kd.S_mono HO346.out (fun _ hk => trivial), zb_ HB.out⟩
def spec_FollowsFrom.j0 : Nat → Int → List (List Int) → List Int → Bool → Option (Bool × Bool)
 | 0, _, _, _, _ => none
 | k + 1, x0, x1, x2, x21 => if x21 = true then (some (false, false)) else ((spec_l5Negate.f k x2).bind fun t349 => ((spec_SolveWith.f k x0 x1 t349).bind fun bt352 => (if bt352.2.2.2 = true then (some (!bt352.1, true)) else (some (false, false)))))
def spec_FollowsFrom.f (k : Nat) (a0 : Int) (l1 : List (List Int)) (l2 : List Int) : Option (Bool × Bool) := (spec_GoodClauses.f k a0 l1).bind fun t347 => (if t347 = true then ((spec_l4Given.f k a0 l2).bind fun t348 => (spec_FollowsFrom.j0 k a0 l1 l2 (!t348))) else (spec_FollowsFrom.j0 k a0 l1 l2 true))
theorem spec_FollowsFrom.mono_l : ∀ k, (∀ y0 y1 y2 y3, LeO (spec_FollowsFrom.j0 k y0 y1 y2 y3) (spec_FollowsFrom.j0 (k + 1) y0 y1 y2 y3))
 | 0 => fun _ _ _ _ r h => by simp [spec_FollowsFrom.j0] at h
 | k + 1 => by
  have ih0 := spec_FollowsFrom.mono_l k
  ·intro y0 y1 y2 y3
   unfold spec_FollowsFrom.j0
   repeat' first
   | (with_reducible exact ih0 _ _ _ _)
   | (with_reducible exact spec_GoodClauses.mono _ _ _)
   | (with_reducible exact spec_SolveWith.mono _ _ _ _)
   | (with_reducible exact spec_l4Given.mono _ _ _)
   | (with_reducible exact spec_l5Negate.mono _ _)
   | (with_reducible exact LeO.refl _)
   | (with_reducible exact LeO.none _)
   | (with_reducible refine LeO.ite ?_ ?_)
   | (with_reducible refine LeO.bind ?_ (fun _ => ?_))
   | exact ih0 _ _ _ _
   | exact spec_GoodClauses.mono _ _ _
   | exact spec_SolveWith.mono _ _ _ _
   | exact spec_l4Given.mono _ _ _
   | exact spec_l5Negate.mono _ _
   | exact LeO.none _
   | refine LeO.ite ?_ ?_
   | refine LeO.bind ?_ (fun _ => ?_)
theorem spec_FollowsFrom.mono : ∀ a0 a1 a2 k, LeO (spec_FollowsFrom.f k a0 a1 a2) (spec_FollowsFrom.f (k + 1) a0 a1 a2) := by
 intro a0 a1 a2 k
 have ih0 := spec_FollowsFrom.mono_l k
 unfold spec_FollowsFrom.f
 repeat' first
   | (with_reducible exact ih0 _ _ _ _)
   | (with_reducible exact spec_GoodClauses.mono _ _ _)
   | (with_reducible exact spec_SolveWith.mono _ _ _ _)
   | (with_reducible exact spec_l4Given.mono _ _ _)
   | (with_reducible exact spec_l5Negate.mono _ _)
   | (with_reducible exact LeO.refl _)
   | (with_reducible exact LeO.none _)
   | (with_reducible refine LeO.ite ?_ ?_)
   | (with_reducible refine LeO.bind ?_ (fun _ => ?_))
   | exact ih0 _ _ _ _
   | exact spec_GoodClauses.mono _ _ _
   | exact spec_SolveWith.mono _ _ _ _
   | exact spec_l4Given.mono _ _ _
   | exact spec_l5Negate.mono _ _
   | exact LeO.none _
   | refine LeO.ite ?_ ?_
   | refine LeO.bind ?_ (fun _ => ?_)
set_option maxHeartbeats 8000000 in
set_option maxRecDepth 100000 in
theorem spec_FollowsFrom.calls (k : Nat) (a0 : Int) (A1 : Option Addr) (c1 : Nat) (l1 : List (List Int)) (A2 : Option Addr) (c2 : Nat) (l2 : List Int) (r1 : Bool) (r2 : Bool) (w : World) (hr1 : Kd.C (Kd.slice 3 (Kd.int .i64)) w A1 l1.length l1) (hc1 : l1.length ≤ c1) (hr2 : Kd.C (Kd.int .i64) w A2 l2.length l2) (hc2 : l2.length ≤ c2) (h : spec_FollowsFrom.f k a0 l1 l2 = some (r1, r2)) :
  Calls Try.prog 9 #[.int .i64 a0, .slice A1 l1.length c1, .slice A2 l2.length c2] w fun e w' => e = .returned (.tuple #[.bool r1, .bool r2]) ∧ Below w.heap.size w w' := by
 have HR1 := Aside0.mk hr1
 have HC1 := Aside0.mk hc1
 clear hr1 hc1
 have HR2 := Aside0.mk hr2
 have HC2 := Aside0.mk hc2
 clear hr2 hc2
 have HB := Aside0.mk (Below.refl w.heap.size w)
 have H : ((spec_GoodClauses.f k a0 l1).bind fun t347 => (if t347 = true then ((spec_l4Given.f k a0 l2).bind fun t348 => (spec_FollowsFrom.j0 k a0 l1 l2 (!t348))) else (spec_FollowsFrom.j0 k a0 l1 l2 true))) = some (r1, r2) := h
 clear h
 have HC4 := Aside0.mk H
 clear H
 go_enter Try.func9, Try.ntmps9
 go_upto_region 1 with (fail)
 go_cut [21] (fun v21 wc => ∃ (kq : Nat) (x21_3 : Bool), v21 = .bool x21_3 ∧ Aside0 (spec_FollowsFrom.j0 kq a0 l1 l2 x21_3 = some (r1, r2)) ∧ Aside0 (kq ≤ k) ∧ Aside0 (Below w.heap.size w wc))
 case first =>
  have H := HC4.out
  clear HC4
  replace H := Option.bind_eq_some_iff.mp H
  obtain ⟨t347, A50, H⟩ := H
  (try dsimp only at H)
  have A5 := Aside0.mk A50
  clear A50
  by_cases c6 : t347 = true
  ·subst c6
   have H1 : ((spec_l4Given.f k a0 l2).bind fun t348 => (spec_FollowsFrom.j0 k a0 l1 l2 (!t348))) = some (r1, r2) := by rw [if_pos rfl] at H; exact H
   clear H
   have H := H1
   clear H1
   replace H := Option.bind_eq_some_iff.mp H
   obtain ⟨t348, A70, H⟩ := H
   (try dsimp only at H)
   have A7 := Aside0.mk A70
   clear A70
   have H' := Aside0.mk H
   clear H
   go_wp2_with (first | ((with_reducible refine gate_callee (f := 27) rfl ?_); refine goesL_ (some 14) rfl rfl Try.func27 (by kernel_rfl) rfl #[.int .i64 a0, .slice A1 l1.length c1] rfl (by simp only [zA_, zB_, zD_] <;> rfl) ?_; (with_reducible refine (spec_GoodClauses.calls k a0 _ _ l1 true _ ?side1 ?side2 A5.out).mono ?_); (case side1 => exact zC_ (Kd.C_below HR1.out HB.out)); (case side2 => exact HC1.out); rintro e w' ⟨rfl, ⟨nd, rfl⟩⟩; refine ⟨_, rfl, ?_⟩) | (go_at_call 60; (with_reducible refine (spec_l4Given.calls k a0 _ _ l2 t348 _ ?side1 ?side2 A7.out).mono ?_); (case side1 => exact Kd.C_below HR2.out (zb_ HB.out)); (case side2 => exact HC2.out); rintro e w' ⟨rfl, ⟨nd, rfl⟩⟩))
   go_meet
   case rel => exact ⟨_, (!t348), (by first | rfl | (simp; done) | (simp [*]; done)), H', ⟨by first | omega | exact Nat.le_refl _⟩, ⟨zb_ HB.out⟩⟩
  ·replace c6 := Bool.eq_false_iff.mpr c6
   subst c6
   have H1 : (spec_FollowsFrom.j0 k a0 l1 l2 true) = some (r1, r2) := by rw [if_neg (show ¬ (false = true) by decide)] at H; exact H
   clear H
   have H := H1
   clear H1
   have H' := Aside0.mk H
   clear H
   go_wp2_with (first | ((with_reducible refine gate_callee (f := 27) rfl ?_); refine goesL_ (some 14) rfl rfl Try.func27 (by kernel_rfl) rfl #[.int .i64 a0, .slice A1 l1.length c1] rfl (by simp only [zA_, zB_, zD_] <;> rfl) ?_; (with_reducible refine (spec_GoodClauses.calls k a0 _ _ l1 false _ ?side1 ?side2 A5.out).mono ?_); (case side1 => exact zC_ (Kd.C_below HR1.out HB.out)); (case side2 => exact HC1.out); rintro e w' ⟨rfl, ⟨nd, rfl⟩⟩; refine ⟨_, rfl, ?_⟩))
   go_meet
   case rel => exact ⟨_, (true), (by first | rfl | (simp; done) | (simp [*]; done)), H', ⟨by first | omega | exact Nat.le_refl _⟩, ⟨zb_ HB.out⟩⟩
 case rest =>
  clear HC4
  try clear c1
  try clear c2
  try clear p2
  try clear c6
  obtain ⟨kq, x21_3, rfl, HA, HJ3, HB⟩ := hcut
  cases kq with
  | zero => exact absurd HA.out (by simp [spec_FollowsFrom.j0])
  | succ kj3 =>
   have H := HA.out
   clear HA
   simp only [spec_FollowsFrom.j0] at H
   by_cases c8 : x21_3 = true
   ·subst c8
    have H1 : (some (false, false)) = some (r1, r2) := by rw [if_pos rfl] at H; exact H
    clear H
    have H := H1
    clear H1
    simp only [Option.some.injEq, Prod.mk.injEq] at H
    obtain ⟨rfl, rfl⟩ := H
    go_wp2
    go_ret2
    exact ⟨by first | rfl | (simp [errW_none, errW_some] <;> rfl) | (simp [*, errW_none, errW_some] <;> rfl), zb_ HB.out⟩
   ·replace c8 := Bool.eq_false_iff.mpr c8
    subst c8
    have H1 : ((spec_l5Negate.f kj3 l2).bind fun t349 => ((spec_SolveWith.f kj3 a0 l1 t349).bind fun bt352 => (if bt352.2.2.2 = true then (some (!bt352.1, true)) else (some (false, false))))) = some (r1, r2) := by rw [if_neg (show ¬ (false = true) by decide)] at H; exact H
    clear H
    have H := H1
    clear H1
    replace H := Option.bind_eq_some_iff.mp H
    obtain ⟨t349, A90, H⟩ := H
    (try dsimp only at H)
    have A9 := Aside0.mk A90
    clear A90
    replace H := Option.bind_eq_some_iff.mp H
    obtain ⟨⟨t352, t353, t354, t355⟩, A100, H⟩ := H
    (try dsimp only at H)
    have A10 := Aside0.mk A100
    clear A100
    by_cases c11 : t355 = true
    ·subst c11
     have H1 : (some (!t352, true)) = some (r1, r2) := by rw [if_pos rfl] at H; exact H
     clear H
     have H := H1
     clear H1
     simp only [Option.some.injEq, Prod.mk.injEq] at H
     obtain ⟨rfl, rfl⟩ := H
     go_wp2_with (first | ((with_reducible refine gate_callee (f := 61) rfl ?_); refine goesL_ (some 26) rfl rfl Try.func61 (by kernel_rfl) rfl #[.slice A2 l2.length c2] rfl (by simp only [zA_, zB_, zD_] <;> rfl) ?_; (with_reducible refine (spec_l5Negate.calls kj3 _ _ l2 t349 _ ?side1 ?side2 A9.out).mono ?_); (case side1 => exact zC_ (Kd.C_below HR2.out HB.out)); (case side2 => exact HC2.out); rintro e w12 ⟨v350, rfl, ho0, hb⟩; refine ⟨_, rfl, ?_⟩; have n0_ := Aside0.mk (Kd.R_lower ho0 (below_size (zb_ HB.out))); have n1_ := Aside0.mk (below_step (zb_ HB.out) hb); clear HB; have HO351 := n0_; have HB := n1_; clear n0_ n1_; (try clear hb); (try clear hb2); (try clear hk); (try clear hi); (try clear ho0); obtain ⟨Ao13, co13, eo13⟩ := Kd.R_slice HO351.out; subst eo13) | ((with_reducible refine gate_callee (f := 51) rfl ?_); refine goesL_ (some 27) rfl rfl Try.func51 (by kernel_rfl) rfl #[.int .i64 a0, .slice A1 l1.length c1, .slice Ao13 t349.length co13] rfl (by simp only [zA_, zB_, zD_] <;> rfl) ?_; (with_reducible refine (spec_SolveWith.calls kj3 a0 _ _ l1 _ _ t349 t352 t353 t354 true _ ?side1 ?side2 ?side3 ?side4 A10.out).mono ?_); (case side1 => exact zC_ (Kd.C_below HR1.out HB.out)); (case side2 => exact HC1.out); (case side3 => exact zC_ (Kd.R_reads' HO351.out).2.2); (case side4 => exact (Kd.R_reads' HO351.out).2.1); rintro e w14 ⟨v356, v358, rfl, ho0, ho1, hb⟩; refine ⟨_, rfl, ?_⟩; have n0_ := Aside0.mk (Kd.R_below (zR_ HO351.out) hb); have n1_ := Aside0.mk (Kd.R_lower ho0 (below_size (zb_ HB.out))); have n2_ := Aside0.mk (Kd.S_lower (Kd.S_new' ho1 (Kd.R_lt (zR_ HO351.out))) (below_size (zb_ HB.out))); have n3_ := Aside0.mk (below_step (zb_ HB.out) hb); clear HO351; clear HB; have HO351 := n0_; have HO357 := n1_; have HO359 := n2_; have HB := n3_; clear n0_ n1_ n2_ n3_; (try clear hb); (try clear hb2); (try clear hk); (try clear hi); (try clear ho0); (try clear ho1)))
     go_ret2
     exact ⟨by first | rfl | (simp [errW_none, errW_some] <;> rfl) | (simp [*, errW_none, errW_some] <;> rfl), zb_ HB.out⟩
    ·replace c11 := Bool.eq_false_iff.mpr c11
     subst c11
     have H1 : (some (false, false)) = some (r1, r2) := by rw [if_neg (show ¬ (false = true) by decide)] at H; exact H
     clear H
     have H := H1
     clear H1
     simp only [Option.some.injEq, Prod.mk.injEq] at H
     obtain ⟨rfl, rfl⟩ := H
     go_wp2_with (first | ((with_reducible refine gate_callee (f := 61) rfl ?_); refine goesL_ (some 26) rfl rfl Try.func61 (by kernel_rfl) rfl #[.slice A2 l2.length c2] rfl (by simp only [zA_, zB_, zD_] <;> rfl) ?_; (with_reducible refine (spec_l5Negate.calls kj3 _ _ l2 t349 _ ?side1 ?side2 A9.out).mono ?_); (case side1 => exact zC_ (Kd.C_below HR2.out HB.out)); (case side2 => exact HC2.out); rintro e w15 ⟨v350, rfl, ho0, hb⟩; refine ⟨_, rfl, ?_⟩; have n0_ := Aside0.mk (Kd.R_lower ho0 (below_size (zb_ HB.out))); have n1_ := Aside0.mk (below_step (zb_ HB.out) hb); clear HB; have HO351 := n0_; have HB := n1_; clear n0_ n1_; (try clear hb); (try clear hb2); (try clear hk); (try clear hi); (try clear ho0); obtain ⟨Ao16, co16, eo16⟩ := Kd.R_slice HO351.out; subst eo16) | ((with_reducible refine gate_callee (f := 51) rfl ?_); refine goesL_ (some 27) rfl rfl Try.func51 (by kernel_rfl) rfl #[.int .i64 a0, .slice A1 l1.length c1, .slice Ao16 t349.length co16] rfl (by simp only [zA_, zB_, zD_] <;> rfl) ?_; (with_reducible refine (spec_SolveWith.calls kj3 a0 _ _ l1 _ _ t349 t352 t353 t354 false _ ?side1 ?side2 ?side3 ?side4 A10.out).mono ?_); (case side1 => exact zC_ (Kd.C_below HR1.out HB.out)); (case side2 => exact HC1.out); (case side3 => exact zC_ (Kd.R_reads' HO351.out).2.2); (case side4 => exact (Kd.R_reads' HO351.out).2.1); rintro e w17 ⟨v356, v358, rfl, ho0, ho1, hb⟩; refine ⟨_, rfl, ?_⟩; have n0_ := Aside0.mk (Kd.R_below (zR_ HO351.out) hb); have n1_ := Aside0.mk (Kd.R_lower ho0 (below_size (zb_ HB.out))); have n2_ := Aside0.mk (Kd.S_lower (Kd.S_new' ho1 (Kd.R_lt (zR_ HO351.out))) (below_size (zb_ HB.out))); have n3_ := Aside0.mk (below_step (zb_ HB.out) hb); clear HO351; clear HB; have HO351 := n0_; have HO357 := n1_; have HO359 := n2_; have HB := n3_; clear n0_ n1_ n2_ n3_; (try clear hb); (try clear hb2); (try clear hk); (try clear hi); (try clear ho0); (try clear ho1)))
     go_ret2
     exact ⟨by first | rfl | (simp [errW_none, errW_some] <;> rfl) | (simp [*, errW_none, errW_some] <;> rfl), zb_ HB.out⟩
theorem given_quiet2 {P : Program} {f : FuncId} {args : Array Value} {w : World} {n : Nat} {v : Value} (h : Calls P f args (w.drewN n) fun e w' => e = .returned v ∧ Drawn0 (w.drewN n) w') :
  Calls P f args (w.drewN n) fun e w'' => e = .returned v ∧ ∃ m, w'' = w.drewN m := by
 refine h.mono ?_
 rintro e w' ⟨he, ⟨m, rfl⟩⟩
 exact ⟨he, n + m, by rw [World.drewN_drewN]⟩
def litAt (m : List Bool) (n : Int) : Bool := rdOf false m (vab n - 1) == decide (0 < n)
set_option maxHeartbeats 8000000 in
set_option maxRecDepth 100000 in
theorem impl_holds_1_calls (n : Int) (B : Nat) (A : Option Addr) (c : Nat) (m : List Bool) (w : World) (hr : Kd.C Kd.bool w A m.length m) (hc : w.cell? ⟨B, 0, none⟩ = some (.slice A m.length c)) (h0 : 1 ≤ vab n) (h1 : vab n ≤ (m.length : Int)) :
  Calls Try.prog 112 (#[.int .i64 n] ++ #[.pointer (some ⟨B, 0, none⟩)]) w fun e w' => e = .returned (.bool (litAt m n)) ∧ ∃ q, w' = w.drewN q := by
 obtain ⟨ad, e101, hx⟩ := Kd.at_bool hr (vab n - 1) (by omega) (by omega)
 cases e101
 have hlen := hr.2.1
 obtain ⟨b, hb⟩ : ∃ b, rdOf false m (vab n - 1) = b := ⟨_, rfl⟩
 have HG := Aside0.mk (show litAt m n = (b == decide (0 < n)) by unfold litAt; rw [hb])
 rw [hb] at hx
 obtain ⟨v, hv⟩ : ∃ v, vab n = v := ⟨_, rfl⟩
 have HV := Aside0.mk (show impl_variable.f n = some v by rw [impl_variable_val, hv])
 rw [hv] at hx h0 h1
 clear hb hr hv
 obtain ⟨j, hj⟩ : ∃ j, v - 1 = j := ⟨_, rfl⟩
 have hw1 : IntKind.i64.wrap (v - 1) = j := by
  rw [IntKind.wrap_i64]
  omega
 rw [hj] at hx
 have q1 := eq_true (show 0 ≤ j by omega)
 have q2 := eq_true (show j < (m.length : Int) by omega)
 have q1b : decide (0 ≤ j) = true := decide_eq_true (of_eq_true q1)
 have q2b : decide (j < (m.length : Int)) = true := decide_eq_true (of_eq_true q2)
 clear h0 h1 hlen hj
 show Calls Try.prog 112 #[.int .i64 n, .pointer (some ⟨B, 0, none⟩)] w _
 rw [HG.out]
 go_enter Try.func112, Try.ntmps112
 go_wp2
 go_quiet ((go_at_call 99; exact given_quiet2 (impl_variable.calls n v _ HV.out)))
 go_wp2
 go_ret
 exact ⟨by first | rfl | simp, _, rfl⟩
def fitsModel (l : List (List Int)) (m : List Bool) : Bool := l.all fun c => c.all fun n => decide (1 ≤ vab n) && decide (vab n ≤ (m.length : Int))
def holdsB (l : List (List Int)) (m : List Bool) : Bool := l.all fun c => c.any (litAt m)
def impl_holds.f (l0 : List (List Int)) (l1 : List Bool) : Option (Bool) := if fitsModel l0 l1 = true then some (holdsB l0 l1) else none
set_option maxHeartbeats 8000000 in
set_option maxRecDepth 100000 in
theorem impl_holds.calls (A0 : Option Addr) (c0 : Nat) (l0 : List (List Int)) (A1 : Option Addr) (c1 : Nat) (l1 : List Bool) (r : Bool) (w : World) (hr0 : Kd.C (Kd.slice 3 (Kd.int .i64)) w A0 l0.length l0) (hc0 : l0.length ≤ c0) (hr1 : Kd.C Kd.bool w A1 l1.length l1) (hc1 : l1.length ≤ c1) (h : impl_holds.f l0 l1 = some r) :
  Calls Try.prog 83 #[.slice A0 l0.length c0, .slice A1 l1.length c1] w fun e w' => e = .returned (.bool r) ∧ Below w.heap.size w w' := by
 have HR0 := Aside0.mk hr0
 have HR1 := Aside0.mk hr1
 have HL := Aside0.mk hr0.2.1
 clear hr0 hc0 hr1 hc1
 unfold impl_holds.f at h
 by_cases hfit : fitsModel l0 l1 = true
 ·rw [if_pos hfit] at h
  have HFit := Aside0.mk hfit
  have HR := Aside0.mk (Option.some.inj h)
  clear hfit h
  have HB := Aside0.mk (Below.refl w.heap.size w)
  have eg := enters_of Try.func112 (by kernel_rfl) rfl
  go_enter Try.func83, Try.ntmps83
  go_wp2_with ((with_reducible refine gate_dst (N := 3) rfl ?_); refine box_event ?hg (N := 3) ?hd (cs := #[.slice A1 l1.length c1]) (t := 40) ?hr ?_; (case hd => rfl); (case hg => rfl); (case hr => first | (go_simp; done) | (go_simp; rfl)); intro gb hg w2 hbox hb; have n0_ := Aside0.mk (below_step (zb_ HB.out) hb); have n1_ := Aside0.mk (blk_cell hbox 0); have n2_ := Aside0.mk (Kd.C_below HR0.out hb); have n3_ := Aside0.mk (Kd.C_below HR1.out hb); clear HB HR0 HR1; have HB := n0_; have BK := n1_; have HR0 := n2_; have HR1 := n3_; clear n0_ n1_ n2_ n3_; clear hb hbox hg)
  go_loopg [9] l0.length (fun kq v9 w' => ∃ (x : Int), v9 = .int .i64 x ∧ Aside0 (0 ≤ x ∧ x ≤ (l0.length : Int) ∧ (l0.length : Int) - x ≤ kq ∧ (l0.drop x.toNat).all (fun c => c.any (litAt l1)) = r) ∧ Drawn0 w2 w')
  case atStart => exact ⟨0, rfl, ⟨by omega, by omega, by omega, HR.out⟩, by repeat (first | exact Drawn0.refl _ | apply Drawn0.step)⟩
  case round =>
   clear HR
   obtain ⟨x, rfl, HA, ⟨m1, rfl⟩⟩ := hrel
   by_cases c3 : x < (l0.length : Int)
   ·have c3b0 : decide (x < (l0.length : Int)) = true := decide_eq_true c3
    have p101 : 0 ≤ x := HA.out.1
    have q101 := c3
    obtain ⟨ad101, A9, c9, e101, hx101_0, hl9, hr9⟩ := given_at_row HR0.out x p101 q101
    cases e101
    have hmem : rowAt_ l0 x ∈ l0 := by
     unfold rowAt_
     rw [List.getD_eq_getElem?_getD, List.getElem?_eq_getElem (show x.toNat < l0.length by omega)]
     exact List.getElem_mem _
    have hdrop : l0.drop x.toNat = rowAt_ l0 x :: l0.drop (x + 1).toNat := by
     have hl : x.toNat < l0.length := by omega
     rw [List.drop_eq_getElem_cons hl, show (x + 1).toNat = x.toNat + 1 by omega]
     unfold rowAt_
     rw [List.getD_eq_getElem?_getD, List.getElem?_eq_getElem hl]
     rfl
    have hin : ∀ n ∈ rowAt_ l0 x, 1 ≤ vab n ∧ vab n ≤ (l1.length : Int) := by
     have h1 := HFit.out
     unfold fitsModel at h1
     have h2 := List.all_eq_true.1 h1 _ hmem
     intro n hn
     have h3 := List.all_eq_true.1 h2 n hn
     simpa [Bool.and_eq_true] using h3
    have HIN := Aside0.mk hin
    have HW := Aside0.mk (show wrap64 (x + 1) = x + 1 by have := HL.out; unfold wrap64; omega)
    have HR9 := Aside0.mk hr9
    have HD := Aside0.mk hdrop
    have HQ := Aside0.mk c3
    clear hmem c3 hr9 hl9 hin hdrop
    replace p101 := eq_true p101
    replace q101 := eq_true q101
    cases hany : (rowAt_ l0 x).any (litAt l1) with
    | false =>
     have HY := Aside0.mk hany
     have HF := Aside0.mk (show r = false by rw [← HA.out.2.2.2, HD.out, List.all_cons, hany]; rfl)
     clear hany HA
     obtain rfl := HF.out
     go_wp2_with (go_at_call 91; refine (slices_ContainsFunc_int_calls (litAt l1) 112 #[.pointer (some ⟨gb, 0, none⟩)] eg _ _ (rowAt_ l0 x) _ ?s1 ?s2).mono ?_; (case s1 => exact zC_ HR9.out); (case s2 => exact fun z q hz => impl_holds_1_calls z gb A1 c1 l1 _ (Kd.C_drewN (Kd.C_drewN HR1.out _) _) BK.out (HIN.out z hz).1 (HIN.out z hz).2); rintro e w' ⟨he, ⟨nd2, rfl⟩⟩; rw [HY.out] at he; subst he)
     go_ret
     exact ⟨rfl, zb_ HB.out⟩
    | true =>
     have HY := Aside0.mk hany
     have HF := Aside0.mk (show (l0.drop (x + 1).toNat).all (fun c => c.any (litAt l1)) = r by rw [← HA.out.2.2.2, HD.out, List.all_cons, hany]; rfl)
     clear hany
     go_wp2_with (go_at_call 91; refine (slices_ContainsFunc_int_calls (litAt l1) 112 #[.pointer (some ⟨gb, 0, none⟩)] eg _ _ (rowAt_ l0 x) _ ?s1 ?s2).mono ?_; (case s1 => exact zC_ HR9.out); (case s2 => exact fun z q hz => impl_holds_1_calls z gb A1 c1 l1 _ (Kd.C_drewN (Kd.C_drewN HR1.out _) _) BK.out (HIN.out z hz).1 (HIN.out z hz).2); rintro e w' ⟨he, ⟨nd2, rfl⟩⟩; rw [HY.out] at he; subst he)
     go_roundg (gk - 1)
     case measure => have := HA.out.2.2.1; have := HQ.out; omega
     case rel => exact ⟨x + 1, by first | rfl | (rw [← HW.out]; done) | (rw [HW.out]; done) | simp [HW.out], ⟨by have := HA.out.1; omega, by have := HQ.out; omega, by have := HA.out.2.2.1; have := HQ.out; omega, HF.out⟩, by repeat (first | exact Drawn0.refl _ | apply Drawn0.step)⟩
   ·have c3b0 : decide (x < (l0.length : Int)) = false := decide_eq_false c3
    have hx : x = (l0.length : Int) := by have := HA.out.2.1; omega
    have HF := Aside0.mk (show r = true by rw [← HA.out.2.2.2, hx]; simp)
    clear hx c3 HA
    obtain rfl := HF.out
    go_wp2
    go_ret
    exact ⟨rfl, zb_ HB.out⟩
 ·rw [if_neg hfit] at h
  exact absurd h (by simp)
end Go.Proofs.Ytpkbjgmeejlchab.PFnFollows
-- squeezed
