-- Made by a program of this session (wip/tools), which leans on the kit's print: checked by Lean alone.
import Derived.Test.YtafffpbagdoniaaPFnExactNeededInx0
import Derived.Test.YtafffpbagdoniaaPFnExactNeededInx1
import Derived.Test.YtafffpbagdoniaaPFnExactNeededInx4
import Derived.Test.YtafffpbagdoniaaPFnExactNeededInx5
import Derived.Test.YtafffpbagdoniaaPFnExactNeededInx6
namespace Go.Proofs.Ytafffpbagdoniaa.PFnExactNeededIn
open Go.RowKit Go.Proofs.YtafffpbagdoniaaW.PrintWords Go.Proofs.YtafffpbagdoniaaW.PrintLast Go.Proofs.YtafffpbagdoniaaW.PrintMore
attribute [local go_sem] max2_int min2_int max_two min_two max_three min_three max_four min_four   -- for this text's walks alone
set_option linter.unusedVariables false
set_option linter.unusedSimpArgs false

/-! ### impl_NeededIn: function 17 -/
def placesOf_ (n : Nat) : List Int := (List.range n).map fun (i : Nat) => (i : Int)
theorem placesOf_succ_ (n : Nat) : placesOf_ (n + 1) = placesOf_ n ++ [(n : Int)] := by
  unfold placesOf_
  rw [List.range_succ, List.map_append]
  rfl
theorem placesOf_length_ (n : Nat) : (placesOf_ n).length = n := by simp [placesOf_]
def impl_NeededIn.l1 : Nat → List (List Int) → List (List Int) → List Int → Int → Option (List Int)
  | 0, _, _, _, _ => none
  | k + 1, x1, x2, x11, x13 => if 0 ≤ x13 then (if x13 + 1 ≤ (x11.length : Int) ∧ x11.length < 4398046511104 then ((impl_pick.f k x2 (x11.eraseIdx x13.toNat)).bind fun t => (impl_check.f k x1 t).bind fun u => if u.1 = true then impl_NeededIn.l1 k x1 x2 (x11.eraseIdx x13.toNat) (wrap64 (x13 - 1)) else impl_NeededIn.l1 k x1 x2 x11 (wrap64 (x13 - 1))) else none) else some x11
def impl_NeededIn.f (k : Nat) (a0 : Int) (l1 : List (List Int)) (l2 : List (List Int)) : Option (List Int × Bool) := (impl_CheckProof.f k a0 l1 l2).bind fun t => if t.2.2 = true then (if t.1 = true then (if l2.length < 4398046511104 ∧ l2.length ≤ k then ((impl_NeededIn.l1 k l1 l2 (placesOf_ l2.length) (wrap64 ((l2.length : Int) - 2))).bind fun a => some (a, true)) else none) else some ([], false)) else some ([], false)
theorem impl_NeededIn.mono_l : ∀ k, (∀ y0 y1 y2 y3, LeO (impl_NeededIn.l1 k y0 y1 y2 y3) (impl_NeededIn.l1 (k + 1) y0 y1 y2 y3))
  | 0 => fun _ _ _ _ r h => by simp [impl_NeededIn.l1] at h
  | k + 1 => by
    have ih0 := impl_NeededIn.mono_l k
    · intro y0 y1 y2 y3
      unfold impl_NeededIn.l1
      repeat' first
      | (with_reducible exact ih0 _ _ _ _)
      | (with_reducible exact impl_pick.mono _ _ _)
      | (with_reducible exact impl_check.mono _ _ _)
      | (with_reducible exact LeO.refl _)
      | (with_reducible exact LeO.none _)
      | (with_reducible refine LeO.ite ?_ ?_)
      | (with_reducible refine LeO.bind ?_ (fun _ => ?_))
theorem impl_NeededIn.mono : ∀ a0 a1 a2 k, LeO (impl_NeededIn.f k a0 a1 a2) (impl_NeededIn.f (k + 1) a0 a1 a2) := by
  intro a0 a1 a2 k
  unfold impl_NeededIn.f
  refine LeO.bind (impl_CheckProof.mono _ _ _ _) (fun t => LeO.ite (LeO.ite ?_ (LeO.refl _)) (LeO.refl _))
  intro r h
  by_cases c : a2.length < 4398046511104 ∧ a2.length ≤ k
  · rw [if_pos c] at h
    rw [if_pos ⟨c.1, by omega⟩]
    exact LeO.bind (impl_NeededIn.mono_l k _ _ _ _) (fun _ => LeO.refl _) r h
  · rw [if_neg c] at h
    cases h
set_option maxHeartbeats 1000000 in
set_option maxRecDepth 100000 in
theorem impl_NeededIn.calls (k : Nat) (a0 : Int) (A1 : Option Addr) (c1 : Nat) (l1 : List (List Int)) (A2 : Option Addr) (c2 : Nat) (l2 : List (List Int)) (r1 : List Int) (r2 : Bool) (w : World) (hr1 : Kd.C (Kd.slice 3 (Kd.int .i64)) w A1 l1.length l1) (hc1 : l1.length ≤ c1) (hr2 : Kd.C (Kd.slice 3 (Kd.int .i64)) w A2 l2.length l2) (hc2 : l2.length ≤ c2) (h : impl_NeededIn.f k a0 l1 l2 = some (r1, r2)) :
    Calls Try.prog 17 #[.int .i64 a0, .slice A1 l1.length c1, .slice A2 l2.length c2] w fun e w' => ∃ v0_ : Value, e = .returned (.tuple #[v0_, .bool r2]) ∧ Kd.R (Kd.int .i64) 3 w' w.heap.size (fun _ => True) v0_ r1 ∧ Below w.heap.size w w' := by
  have HR1 := Aside0.mk hr1
  have HC1 := Aside0.mk hc1
  have HR2 := Aside0.mk hr2
  have HC2 := Aside0.mk hc2
  have HL := Aside0.mk hr2.2.1
  clear hr1 hc1 hr2 hc2
  have HB := Aside0.mk (Below.refl w.heap.size w)
  unfold impl_NeededIn.f at h
  replace h := Option.bind_eq_some_iff.mp h
  obtain ⟨⟨t1, t2, t3⟩, A0', h⟩ := h
  have G0 := Aside0.mk A0'
  clear A0'
  replace h : (if t3 = true then (if t1 = true then (if l2.length < 4398046511104 ∧ l2.length ≤ k then ((impl_NeededIn.l1 k l1 l2 (placesOf_ l2.length) (wrap64 ((l2.length : Int) - 2))).bind fun a => some (a, true)) else none) else some ([], false)) else some ([], false)) = some (r1, r2) := h
  cases t3 with
  | false =>
    obtain ⟨rfl, rfl⟩ : [] = r1 ∧ false = r2 := by simpa using h
    clear h
    go_enter Try.func17, Try.ntmps17
    go_wp2_with (((with_reducible refine gate_callee (f := 14) rfl ?_); refine goesL_ (some 21) rfl rfl Try.func14 (by kernel_rfl) rfl #[.int .i64 a0, .slice A1 l1.length c1, .slice A2 l2.length c2] rfl (by (try simp only [List.map_toArray, List.map_cons, List.map_nil]); first | done | rfl | (simp only [List.length_drop, List.length_take]; rfl)) ?_; (with_reducible refine (impl_CheckProof.calls k a0 _ _ l1 _ _ l2 _ _ _ _ ?side1 ?side2 ?side3 ?side4 G0.out).mono ?_); (case side1 => repeat (first | exact HR1.out | (with_reducible refine Kd.C_alloc ?_ _) | (with_reducible refine Kd.C_drewN ?_ _) | (with_reducible refine Kd.C_drew ?_))); (case side2 => exact HC1.out); (case side3 => repeat (first | exact HR2.out | (with_reducible refine Kd.C_alloc ?_ _) | (with_reducible refine Kd.C_drewN ?_ _) | (with_reducible refine Kd.C_drew ?_))); (case side4 => exact HC2.out); rintro e w4 ⟨rfl, hb⟩; refine ⟨_, rfl, ?_⟩; have n0_ := Aside0.mk (below_step (by repeat (first | (with_reducible first | exact HB.out | apply below_alloc | apply pw_below_drewN | apply below_drew1) | exact HB.out)) hb); clear HB; have HB := n0_; clear n0_; (try clear hb)))
    go_ret2
    exact ⟨_, by first | rfl | simp, Kd.R_nil _ _ _ _ _, by repeat (first | (with_reducible first | exact HB.out | apply below_alloc | apply pw_below_drewN | apply below_drew1) | exact HB.out)⟩
  | true =>
    rw [if_pos rfl] at h
    cases t1 with
    | false =>
      obtain ⟨rfl, rfl⟩ : [] = r1 ∧ false = r2 := by simpa using h
      clear h
      go_enter Try.func17, Try.ntmps17
      go_wp2_with (((with_reducible refine gate_callee (f := 14) rfl ?_); refine goesL_ (some 21) rfl rfl Try.func14 (by kernel_rfl) rfl #[.int .i64 a0, .slice A1 l1.length c1, .slice A2 l2.length c2] rfl (by (try simp only [List.map_toArray, List.map_cons, List.map_nil]); first | done | rfl | (simp only [List.length_drop, List.length_take]; rfl)) ?_; (with_reducible refine (impl_CheckProof.calls k a0 _ _ l1 _ _ l2 _ _ _ _ ?side1 ?side2 ?side3 ?side4 G0.out).mono ?_); (case side1 => repeat (first | exact HR1.out | (with_reducible refine Kd.C_alloc ?_ _) | (with_reducible refine Kd.C_drewN ?_ _) | (with_reducible refine Kd.C_drew ?_))); (case side2 => exact HC1.out); (case side3 => repeat (first | exact HR2.out | (with_reducible refine Kd.C_alloc ?_ _) | (with_reducible refine Kd.C_drewN ?_ _) | (with_reducible refine Kd.C_drew ?_))); (case side4 => exact HC2.out); rintro e w4 ⟨rfl, hb⟩; refine ⟨_, rfl, ?_⟩; have n0_ := Aside0.mk (below_step (by repeat (first | (with_reducible first | exact HB.out | apply below_alloc | apply pw_below_drewN | apply below_drew1) | exact HB.out)) hb); clear HB; have HB := n0_; clear n0_; (try clear hb)))
      go_ret2
      exact ⟨_, by first | rfl | simp, Kd.R_nil _ _ _ _ _, by repeat (first | (with_reducible first | exact HB.out | apply below_alloc | apply pw_below_drewN | apply below_drew1) | exact HB.out)⟩
    | true =>
      rw [if_pos rfl] at h
      by_cases c3 : l2.length < 4398046511104 ∧ l2.length ≤ k
      · rw [if_pos c3] at h
        replace h := Option.bind_eq_some_iff.mp h
        obtain ⟨a, A1', h⟩ := h
        obtain ⟨rfl, rfl⟩ : a = r1 ∧ true = r2 := by simpa using h
        have H' := Aside0.mk A1'
        have LM := Aside0.mk c3
        clear h A1' c3
        go_enter Try.func17, Try.ntmps17
        go_wp2_with (((with_reducible refine gate_callee (f := 14) rfl ?_); refine goesL_ (some 21) rfl rfl Try.func14 (by kernel_rfl) rfl #[.int .i64 a0, .slice A1 l1.length c1, .slice A2 l2.length c2] rfl (by (try simp only [List.map_toArray, List.map_cons, List.map_nil]); first | done | rfl | (simp only [List.length_drop, List.length_take]; rfl)) ?_; (with_reducible refine (impl_CheckProof.calls k a0 _ _ l1 _ _ l2 _ _ _ _ ?side1 ?side2 ?side3 ?side4 G0.out).mono ?_); (case side1 => repeat (first | exact HR1.out | (with_reducible refine Kd.C_alloc ?_ _) | (with_reducible refine Kd.C_drewN ?_ _) | (with_reducible refine Kd.C_drew ?_))); (case side2 => exact HC1.out); (case side3 => repeat (first | exact HR2.out | (with_reducible refine Kd.C_alloc ?_ _) | (with_reducible refine Kd.C_drewN ?_ _) | (with_reducible refine Kd.C_drew ?_))); (case side4 => exact HC2.out); rintro e w4 ⟨rfl, hb⟩; refine ⟨_, rfl, ?_⟩; have n0_ := Aside0.mk (below_step (by repeat (first | (with_reducible first | exact HB.out | apply below_alloc | apply pw_below_drewN | apply below_drew1) | exact HB.out)) hb); clear HB; have HB := n0_; clear n0_; (try clear hb)))
        go_loopg [11, 33] k (fun kq v11 v33 w' => ∃ (x : Nat), v33 = .int .i64 (x : Int) ∧ Aside0 (x ≤ l2.length ∧ l2.length - x ≤ kq) ∧ Aside0 (Kd.R (Kd.int .i64) 3 w' w.heap.size (fun _ => True) v11 (placesOf_ x)) ∧ Aside0 (Below w.heap.size w w'))
        case atStart => exact ⟨0, rfl, ⟨by omega, by have := LM.out.2; omega⟩, ⟨Kd.R_nil _ _ _ _ _⟩, ⟨by repeat (first | (with_reducible first | exact HB.out | apply below_alloc | apply pw_below_drewN | apply below_drew1) | exact HB.out)⟩⟩
        case round =>
          clear HB
          obtain ⟨x, rfl, HA, HO, HB⟩ := hrel
          by_cases c4 : x < l2.length
          · have d1 : decide ((x : Int) < (l2.length : Int)) = true := decide_eq_true (by omega)
            have d2 : decide (x < l2.length) = true := decide_eq_true c4
            have LX := Aside0.mk c4
            have HW := Aside0.mk (show wrap64 ((x : Int) + 1) = ((x + 1 : Nat) : Int) by have := HL.out; unfold wrap64; omega)
            obtain ⟨y, hy⟩ : ∃ y, y = placesOf_ x := ⟨_, rfl⟩
            have LY := Aside0.mk (show y.length = x by rw [hy, placesOf_length_])
            have NY := Aside0.mk (show y ++ [(x : Int)] = placesOf_ (x + 1) by rw [hy, placesOf_succ_])
            rw [← hy] at HO
            obtain ⟨Ay, cy, ey⟩ := Kd.R_slice HO.out
            subst ey
            clear c4 hy
            go_wp2_with ((with_reducible refine gate_builtin (b := .append) (xs := #[.tmp 36, .tmp 38]) rfl ?_); at_builtin; refine Kd.R_append (Kd.int .i64) (w0 := w) w.heap.size rfl (.tmp 36) (.tmp 38) 29 3 (.int .i64 0) 8 rfl Try.underlying29 info3 rfl (by decide) (by omega) (.slice Ay y.length cy) y (x : Int) [.int .i64 (x : Int)] (fun _ => True) (fun _ => False) rfl rfl ?aP (fun _ hk => hk.elim) ?aF ?aO ?aB ?aS ?aL ?_; (case aP => exact rfl); (case aB => exact (by repeat (first | (with_reducible first | exact HB.out | apply below_alloc | apply pw_below_drewN | apply below_drew1) | exact HB.out))); (case aF => exact (fun _ _ => trivial)); (case aO => exact (by (with_reducible repeat (first | apply Kd.R_alloc | apply Kd.R_drewN | apply Kd.R_drew)); exact HO.out)); (case aS => exact (below_size (by repeat (first | (with_reducible first | exact HB.out | apply below_alloc | apply pw_below_drewN | apply below_drew1) | exact HB.out)))); (case aL => have h1 := LY.out; have h2 := LM.out.1; have h3 := LX.out; omega); intro v6 w6 ho hb hg hat; rw [NY.out] at ho; have n0_ := Aside0.mk hb; have n1_ := Aside0.mk ho; clear HB; clear HO; have HB := n0_; have HO := n1_; clear n0_ n1_; clear ho hb hg hat)
            go_roundg (gk - 1)
            case measure => have := HA.out.2; have := LX.out; omega
            case rel => exact ⟨x + 1, by first | rfl | (rw [← HW.out]; done) | (rw [HW.out]; done) | simp [HW.out], ⟨by have := LX.out; omega, by have := HA.out.2; have := LX.out; omega⟩, ⟨by (with_reducible repeat (first | apply Kd.R_alloc | apply Kd.R_drewN | apply Kd.R_drew)); exact HO.out⟩, ⟨by repeat (first | (with_reducible first | exact HB.out | apply below_alloc | apply pw_below_drewN | apply below_drew1) | exact HB.out)⟩⟩
          · have d1 : decide ((x : Int) < (l2.length : Int)) = false := decide_eq_false (by omega)
            have d2 : decide (x < l2.length) = false := decide_eq_false c4
            have hx : x = l2.length := by have := HA.out.1; omega
            obtain ⟨y, hy⟩ : ∃ y, y = placesOf_ x := ⟨_, rfl⟩
            rw [← hy] at HO
            rw [hx] at hy
            rw [← hy] at H'
            have hb1 : (l2.length : Int) ≤ 4398046511104 := by have := LM.out.1; omega
            have HW := Aside0.mk (show wrap64 ((l2.length : Int) - 2) = (l2.length : Int) - 2 by unfold wrap64; omega)
            clear c4 hx hy HA
            go_wp2
            rw [HW.out] at H'
            go_loopg [11, 13] k (fun kq v11 v13 w' => ∃ (z : List Int) (i : Int), v13 = .int .i64 i ∧ Aside0 (impl_NeededIn.l1 kq l1 l2 z i = some a) ∧ Aside0 (kq ≤ k) ∧ Aside0 (i ≤ 4398046511104) ∧ Aside0 (Kd.R (Kd.int .i64) 3 w' w.heap.size (fun _ => True) v11 z) ∧ Aside0 (Below w.heap.size w w'))
            case atStart => exact ⟨y, (l2.length : Int) - 2, by first | rfl | (simp; done), H', ⟨Nat.le_refl _⟩, ⟨by omega⟩, ⟨by (with_reducible repeat (first | apply Kd.R_alloc | apply Kd.R_drewN | apply Kd.R_drew)); exact HO.out⟩, ⟨by repeat (first | (with_reducible first | exact HB.out | apply below_alloc | apply pw_below_drewN | apply below_drew1) | exact HB.out)⟩⟩
            case round =>
              clear H' HB HO d1 d2 hb1
              obtain ⟨z, i, rfl, HA, HK, HI, HO, HB⟩ := hrel
              obtain ⟨Az, cz, ez⟩ := Kd.R_slice HO.out
              subst ez
              cases gk with
              | zero => exact absurd HA.out (by simp [impl_NeededIn.l1])
              | succ k1 =>
                have h := HA.out
                clear HA
                simp only [impl_NeededIn.l1] at h
                by_cases c5 : 0 ≤ i
                · rw [if_pos c5] at h
                  obtain ⟨n, rfl⟩ : ∃ n : Nat, i = (n : Int) := ⟨i.toNat, by omega⟩
                  rw [show ((n : Int).toNat) = n by omega] at h
                  by_cases c6 : (n : Int) + 1 ≤ (z.length : Int) ∧ z.length < 4398046511104
                  · rw [if_pos c6] at h
                    have HLT := Aside0.mk (show n < z.length by omega)
                    have HV := Aside0.mk (show slices_Clone_int_int.f z = some z by unfold slices_Clone_int_int.f; rw [if_pos (by omega)])
                    replace h := Option.bind_eq_some_iff.mp h
                    obtain ⟨t, A6, h⟩ := h
                    replace h := Option.bind_eq_some_iff.mp h
                    obtain ⟨⟨u1, u2⟩, A7, h⟩ := h
                    have G7 := Aside0.mk A7
                    obtain ⟨q, hq⟩ : ∃ q, q = z.eraseIdx n := ⟨_, rfl⟩
                    rw [← hq] at A6 h
                    have NQ := Aside0.mk hq
                    have G6 := Aside0.mk A6
                    have HW := Aside0.mk (show wrap64 ((n : Int) - 1) = (n : Int) - 1 by have := HI.out; unfold wrap64; omega)
                    have e1 : decide ((n : Int) ≥ 0) = true := decide_eq_true (by omega)
                    have e2 : decide ((0 : Int) ≤ (n : Int)) = true := decide_eq_true (by omega)
                    have e3 : (n : Int) ≤ 4398046511104 := HI.out
                    have HS := Aside0.mk (Below.refl wr.heap.size wr)
                    clear c5 c6 A6 A7 hq
                    have HWS := Aside0.mk (show w.heap.size ≤ wr.heap.size from HB.out.size)
                    have HBW := HB
                    have HOW := HO
                    cases u1 with
                    | true =>
                      rw [if_pos rfl] at h
                      rw [HW.out] at h
                      have H' := Aside0.mk h
                      clear h
                      go_wp2_with (first | ((with_reducible refine gate_callee (f := 45) rfl ?_); refine goesL_ (some 49) rfl rfl Try.func45 (by kernel_rfl) rfl #[.slice Az z.length cz] rfl (by (try simp only [List.map_toArray, List.map_cons, List.map_nil]); first | done | rfl | (simp only [List.length_drop, List.length_take]; rfl)) ?_; (with_reducible refine (slices_Clone_int_int.calls _ _ z z _ ?side1 ?side2 HV.out).mono ?_); (case side1 => repeat (first | exact (Kd.R_reads' HO.out).2.2 | (with_reducible refine Kd.C_alloc ?_ _) | (with_reducible refine Kd.C_drewN ?_ _) | (with_reducible refine Kd.C_drew ?_))); (case side2 => exact (Kd.R_reads' HO.out).2.1); rintro e w5 ⟨v5, rfl, ho, hb⟩; refine ⟨_, rfl, ?_⟩; have n2_ := Aside0.mk (below_step (by repeat (first | (with_reducible first | exact HS.out | apply below_alloc | apply pw_below_drewN | apply below_drew1) | exact HS.out)) hb); have n3_ := Aside0.mk (Kd.R_below ((by (with_reducible repeat (first | apply Kd.R_alloc | apply Kd.R_drewN | apply Kd.R_drew)); exact HO.out) : Kd.R (Kd.int .i64) 3 _ w.heap.size (fun _ => True) (.slice Az z.length cz) z) hb); clear HS; have HO5 := Aside0.mk ho; have HS := n2_; clear n2_ n3_ ho; (try clear hb)) | (go_at_call 44; (with_reducible refine (slices_Delete_int_calls wr _ v5 z n HLT.out ?side1 ?side2).mono ?_); (case side1 => exact (by repeat (first | (with_reducible first | exact HS.out | apply below_alloc | apply pw_below_drewN | apply below_drew1) | exact HS.out))); (case side2 => exact (by (with_reducible repeat (first | apply Kd.R_alloc | apply Kd.R_drewN | apply Kd.R_drew)); exact HO5.out)); rintro e w7 ⟨v7, rfl, ho, hb⟩; rw [← NQ.out] at ho; obtain ⟨A7, c7, e7⟩ := Kd.R_slice ho; subst e7; have n1_ := Aside0.mk (Kd.R_lower ho HWS.out); have n2_ := Aside0.mk hb; have n3_ := Aside0.mk (Kd.R_below HOW.out hb); have n4_ := Aside0.mk (below_then HBW.out HWS.out hb); clear HS HO HO5 HB; have HO7 := n1_; have HO := n3_; have HB := n4_; clear n1_ n2_ n3_ n4_ ho hb) | (go_at_call 46; (with_reducible refine (impl_pick.calls k1 _ _ l2 _ _ q t _ ?side1 ?side2 ?side3 ?side4 G6.out).mono ?_); (case side1 => repeat (first | exact (Kd.C_below HR2.out HB.out) | (with_reducible refine Kd.C_alloc ?_ _) | (with_reducible refine Kd.C_drewN ?_ _) | (with_reducible refine Kd.C_drew ?_))); (case side2 => exact HC2.out); (case side3 => repeat (first | exact (Kd.R_reads' HO7.out).2.2 | (with_reducible refine Kd.C_alloc ?_ _) | (with_reducible refine Kd.C_drewN ?_ _) | (with_reducible refine Kd.C_drew ?_))); (case side4 => exact (Kd.R_reads' HO7.out).2.1); rintro e w8 ⟨v8, rfl, ho, hb⟩; have n1_ := Aside0.mk (Kd.R_below ((by (with_reducible repeat (first | apply Kd.R_alloc | apply Kd.R_drewN | apply Kd.R_drew)); exact HO7.out) : Kd.R (Kd.int .i64) 3 _ w.heap.size (fun _ => True) (.slice A7 q.length c7) q) hb); have n2_ := Aside0.mk (Kd.R_below ((by (with_reducible repeat (first | apply Kd.R_alloc | apply Kd.R_drewN | apply Kd.R_drew)); exact HO.out) : Kd.R (Kd.int .i64) 3 _ w.heap.size (fun _ => True) (.slice Az z.length cz) z) hb); have n3_ := Aside0.mk (below_step (by repeat (first | (with_reducible first | exact HB.out | apply below_alloc | apply pw_below_drewN | apply below_drew1) | exact HB.out)) hb); clear HO7 HO HB; have HO7 := n1_; have HO := n2_; have HB := n3_; obtain ⟨A8, c8, e8⟩ := Kd.S_slice ho; subst e8; have HR8 := Aside0.mk (Kd.S_reads' ho).2.2; have HC8 := Aside0.mk (Kd.S_reads' ho).2.1; clear n1_ n2_ n3_ ho hb) | (go_at_call 43; (with_reducible refine (impl_check.calls k1 _ _ l1 _ _ t _ _ _ ?side1 ?side2 ?side3 ?side4 G7.out).mono ?_); (case side1 => repeat (first | exact (Kd.C_below HR1.out HB.out) | (with_reducible refine Kd.C_alloc ?_ _) | (with_reducible refine Kd.C_drewN ?_ _) | (with_reducible refine Kd.C_drew ?_))); (case side2 => exact HC1.out); (case side3 => repeat (first | exact HR8.out | (with_reducible refine Kd.C_alloc ?_ _) | (with_reducible refine Kd.C_drewN ?_ _) | (with_reducible refine Kd.C_drew ?_))); (case side4 => exact HC8.out); rintro e w9 ⟨rfl, hb⟩; have n1_ := Aside0.mk (Kd.R_below ((by (with_reducible repeat (first | apply Kd.R_alloc | apply Kd.R_drewN | apply Kd.R_drew)); exact HO7.out) : Kd.R (Kd.int .i64) 3 _ w.heap.size (fun _ => True) (.slice A7 q.length c7) q) hb); have n2_ := Aside0.mk (Kd.R_below ((by (with_reducible repeat (first | apply Kd.R_alloc | apply Kd.R_drewN | apply Kd.R_drew)); exact HO.out) : Kd.R (Kd.int .i64) 3 _ w.heap.size (fun _ => True) (.slice Az z.length cz) z) hb); have n3_ := Aside0.mk (below_step (by repeat (first | (with_reducible first | exact HB.out | apply below_alloc | apply pw_below_drewN | apply below_drew1) | exact HB.out)) hb); clear HO7 HO HB; have HO7 := n1_; have HO := n2_; have HB := n3_; clear n1_ n2_ n3_ hb))
                      go_roundg k1
                      case measure => have := HK.out; omega
                      case rel => exact ⟨q, (n : Int) - 1, by first | rfl | (rw [← HW.out]; done) | (rw [HW.out]; done) | simp [HW.out], H', ⟨by have := HK.out; omega⟩, ⟨by have := HI.out; omega⟩, ⟨by (with_reducible repeat (first | apply Kd.R_alloc | apply Kd.R_drewN | apply Kd.R_drew)); exact HO7.out⟩, ⟨by repeat (first | (with_reducible first | exact HB.out | apply below_alloc | apply pw_below_drewN | apply below_drew1) | exact HB.out)⟩⟩
                    | false =>
                      rw [if_neg Bool.false_ne_true] at h
                      rw [HW.out] at h
                      have H' := Aside0.mk h
                      clear h
                      go_wp2_with (first | ((with_reducible refine gate_callee (f := 45) rfl ?_); refine goesL_ (some 49) rfl rfl Try.func45 (by kernel_rfl) rfl #[.slice Az z.length cz] rfl (by (try simp only [List.map_toArray, List.map_cons, List.map_nil]); first | done | rfl | (simp only [List.length_drop, List.length_take]; rfl)) ?_; (with_reducible refine (slices_Clone_int_int.calls _ _ z z _ ?side1 ?side2 HV.out).mono ?_); (case side1 => repeat (first | exact (Kd.R_reads' HO.out).2.2 | (with_reducible refine Kd.C_alloc ?_ _) | (with_reducible refine Kd.C_drewN ?_ _) | (with_reducible refine Kd.C_drew ?_))); (case side2 => exact (Kd.R_reads' HO.out).2.1); rintro e w5 ⟨v5, rfl, ho, hb⟩; refine ⟨_, rfl, ?_⟩; have n2_ := Aside0.mk (below_step (by repeat (first | (with_reducible first | exact HS.out | apply below_alloc | apply pw_below_drewN | apply below_drew1) | exact HS.out)) hb); have n3_ := Aside0.mk (Kd.R_below ((by (with_reducible repeat (first | apply Kd.R_alloc | apply Kd.R_drewN | apply Kd.R_drew)); exact HO.out) : Kd.R (Kd.int .i64) 3 _ w.heap.size (fun _ => True) (.slice Az z.length cz) z) hb); clear HS; have HO5 := Aside0.mk ho; have HS := n2_; clear n2_ n3_ ho; (try clear hb)) | (go_at_call 44; (with_reducible refine (slices_Delete_int_calls wr _ v5 z n HLT.out ?side1 ?side2).mono ?_); (case side1 => exact (by repeat (first | (with_reducible first | exact HS.out | apply below_alloc | apply pw_below_drewN | apply below_drew1) | exact HS.out))); (case side2 => exact (by (with_reducible repeat (first | apply Kd.R_alloc | apply Kd.R_drewN | apply Kd.R_drew)); exact HO5.out)); rintro e w7 ⟨v7, rfl, ho, hb⟩; rw [← NQ.out] at ho; obtain ⟨A7, c7, e7⟩ := Kd.R_slice ho; subst e7; have n1_ := Aside0.mk (Kd.R_lower ho HWS.out); have n2_ := Aside0.mk hb; have n3_ := Aside0.mk (Kd.R_below HOW.out hb); have n4_ := Aside0.mk (below_then HBW.out HWS.out hb); clear HS HO HO5 HB; have HO7 := n1_; have HO := n3_; have HB := n4_; clear n1_ n2_ n3_ n4_ ho hb) | (go_at_call 46; (with_reducible refine (impl_pick.calls k1 _ _ l2 _ _ q t _ ?side1 ?side2 ?side3 ?side4 G6.out).mono ?_); (case side1 => repeat (first | exact (Kd.C_below HR2.out HB.out) | (with_reducible refine Kd.C_alloc ?_ _) | (with_reducible refine Kd.C_drewN ?_ _) | (with_reducible refine Kd.C_drew ?_))); (case side2 => exact HC2.out); (case side3 => repeat (first | exact (Kd.R_reads' HO7.out).2.2 | (with_reducible refine Kd.C_alloc ?_ _) | (with_reducible refine Kd.C_drewN ?_ _) | (with_reducible refine Kd.C_drew ?_))); (case side4 => exact (Kd.R_reads' HO7.out).2.1); rintro e w8 ⟨v8, rfl, ho, hb⟩; have n1_ := Aside0.mk (Kd.R_below ((by (with_reducible repeat (first | apply Kd.R_alloc | apply Kd.R_drewN | apply Kd.R_drew)); exact HO7.out) : Kd.R (Kd.int .i64) 3 _ w.heap.size (fun _ => True) (.slice A7 q.length c7) q) hb); have n2_ := Aside0.mk (Kd.R_below ((by (with_reducible repeat (first | apply Kd.R_alloc | apply Kd.R_drewN | apply Kd.R_drew)); exact HO.out) : Kd.R (Kd.int .i64) 3 _ w.heap.size (fun _ => True) (.slice Az z.length cz) z) hb); have n3_ := Aside0.mk (below_step (by repeat (first | (with_reducible first | exact HB.out | apply below_alloc | apply pw_below_drewN | apply below_drew1) | exact HB.out)) hb); clear HO7 HO HB; have HO7 := n1_; have HO := n2_; have HB := n3_; obtain ⟨A8, c8, e8⟩ := Kd.S_slice ho; subst e8; have HR8 := Aside0.mk (Kd.S_reads' ho).2.2; have HC8 := Aside0.mk (Kd.S_reads' ho).2.1; clear n1_ n2_ n3_ ho hb) | (go_at_call 43; (with_reducible refine (impl_check.calls k1 _ _ l1 _ _ t _ _ _ ?side1 ?side2 ?side3 ?side4 G7.out).mono ?_); (case side1 => repeat (first | exact (Kd.C_below HR1.out HB.out) | (with_reducible refine Kd.C_alloc ?_ _) | (with_reducible refine Kd.C_drewN ?_ _) | (with_reducible refine Kd.C_drew ?_))); (case side2 => exact HC1.out); (case side3 => repeat (first | exact HR8.out | (with_reducible refine Kd.C_alloc ?_ _) | (with_reducible refine Kd.C_drewN ?_ _) | (with_reducible refine Kd.C_drew ?_))); (case side4 => exact HC8.out); rintro e w9 ⟨rfl, hb⟩; have n1_ := Aside0.mk (Kd.R_below ((by (with_reducible repeat (first | apply Kd.R_alloc | apply Kd.R_drewN | apply Kd.R_drew)); exact HO7.out) : Kd.R (Kd.int .i64) 3 _ w.heap.size (fun _ => True) (.slice A7 q.length c7) q) hb); have n2_ := Aside0.mk (Kd.R_below ((by (with_reducible repeat (first | apply Kd.R_alloc | apply Kd.R_drewN | apply Kd.R_drew)); exact HO.out) : Kd.R (Kd.int .i64) 3 _ w.heap.size (fun _ => True) (.slice Az z.length cz) z) hb); have n3_ := Aside0.mk (below_step (by repeat (first | (with_reducible first | exact HB.out | apply below_alloc | apply pw_below_drewN | apply below_drew1) | exact HB.out)) hb); clear HO7 HO HB; have HO7 := n1_; have HO := n2_; have HB := n3_; clear n1_ n2_ n3_ hb))
                      go_roundg k1
                      case measure => have := HK.out; omega
                      case rel => exact ⟨z, (n : Int) - 1, by first | rfl | (rw [← HW.out]; done) | (rw [HW.out]; done) | simp [HW.out], H', ⟨by have := HK.out; omega⟩, ⟨by have := HI.out; omega⟩, ⟨by (with_reducible repeat (first | apply Kd.R_alloc | apply Kd.R_drewN | apply Kd.R_drew)); exact HO.out⟩, ⟨by repeat (first | (with_reducible first | exact HB.out | apply below_alloc | apply pw_below_drewN | apply below_drew1) | exact HB.out)⟩⟩
                  · rw [if_neg c6] at h
                    exact absurd h (by simp)
                · rw [if_neg c5] at h
                  obtain rfl : z = a := by simpa using h
                  have e1 : decide (i ≥ 0) = false := decide_eq_false c5
                  have e2 : decide ((0 : Int) ≤ i) = false := decide_eq_false c5
                  clear h c5
                  go_wp2
                  go_ret2
                  exact ⟨_, by first | rfl | simp, by (with_reducible repeat (first | apply Kd.R_alloc | apply Kd.R_drewN | apply Kd.R_drew)); exact HO.out, by repeat (first | (with_reducible first | exact HB.out | apply below_alloc | apply pw_below_drewN | apply below_drew1) | exact HB.out)⟩
      · rw [if_neg c3] at h
        exact absurd h (by simp)


/-! ### laws_markIntS: function 20 -/
def laws_markIntS.l0 : Nat → List Int → Int → Int → Option (Int × List Int)
  | 0, _, _, _ => none
  | k + 1, x0, x1, x5 => if x5 < (x0.length : Int) then (if 0 ≤ x5 then (laws_markIntS.l0 k (x0.set (x5 : Int).toNat x1) (wrap64 (x1 + 1)) (wrap64 (x5 + 1))) else (none)) else (some (x1, x0))
def laws_markIntS.f (k : Nat) (l0 : List Int) (a1 : Int) : Option (Int × List Int) := laws_markIntS.l0 k l0 a1 0
theorem laws_markIntS.mono_l : ∀ k, (∀ y0 y1 y2, LeO (laws_markIntS.l0 k y0 y1 y2) (laws_markIntS.l0 (k + 1) y0 y1 y2))
  | 0 => fun _ _ _ r h => by simp [laws_markIntS.l0] at h
  | k + 1 => by
    have ih0 := laws_markIntS.mono_l k
    · intro y0 y1 y2
      unfold laws_markIntS.l0
      repeat' first
      | (with_reducible exact ih0 _ _ _)
      | (with_reducible exact LeO.refl _)
      | (with_reducible exact LeO.none _)
      | (with_reducible refine LeO.ite ?_ ?_)
      | (with_reducible refine LeO.bind ?_ (fun _ => ?_))
      | exact ih0 _ _ _
      | exact LeO.none _
      | refine LeO.ite ?_ ?_
      | refine LeO.bind ?_ (fun _ => ?_)
theorem laws_markIntS.mono : ∀ a0 a1 k, LeO (laws_markIntS.f k a0 a1) (laws_markIntS.f (k + 1) a0 a1) := by
  intro a0 a1 k
  have ih0 := laws_markIntS.mono_l k
  unfold laws_markIntS.f
  repeat' first
      | (with_reducible exact ih0 _ _ _)
      | (with_reducible exact LeO.refl _)
      | (with_reducible exact LeO.none _)
      | (with_reducible refine LeO.ite ?_ ?_)
      | (with_reducible refine LeO.bind ?_ (fun _ => ?_))
      | exact ih0 _ _ _
      | exact LeO.none _
      | refine LeO.ite ?_ ?_
      | refine LeO.bind ?_ (fun _ => ?_)
set_option maxHeartbeats 8000000 in
set_option maxRecDepth 100000 in
theorem laws_markIntS.calls (k : Nat) (P0_ : Nat → Prop) (u9000_ : Value) (l0 : List Int) (a1 : Int) (r1 : Int) (r2 : List Int) (w0 w : World) (hB : Below w0.heap.size w0 w) (ho0 : Kd.R (Kd.int .i64) 3 w w0.heap.size P0_ u9000_ l0) (h : laws_markIntS.f k l0 a1 = some (r1, r2)) :
    Calls Try.prog 20 #[u9000_, .int .i64 a1] w fun e w' => e = .returned (.int .i64 r1) ∧ Kd.R (Kd.int .i64) 3 w' w0.heap.size (fun k_ => (P0_ k_ ∨ w.heap.size ≤ k_)) u9000_ r2 ∧ Below w0.heap.size w0 w' ∧ Kept w w' (fun k_ => P0_ k_) := by
  have HO0 := Aside0.mk (show Kd.R (Kd.int .i64) 3 w w0.heap.size (fun k_ => (P0_ k_ ∨ w.heap.size ≤ k_)) u9000_ l0 from Kd.R_mono ho0 (fun k_ hk => (.inl hk)))
  have HK := Aside0.mk (Kept.refl w (fun k_ => P0_ k_))
  have HW0 := Aside0.mk hB.size
  have HB := Aside0.mk hB
  clear hB
  have H : (laws_markIntS.l0 k l0 a1 0) = some (r1, r2) := h
  clear h
  have H' := Aside0.mk H
  clear H
  go_enter Try.func20, Try.ntmps20
  go_wp2
  go_loopg [1, 5] k (fun kq v1 v5 w' => ∃ (x0_1 : List Int) (x1_1 : Int) (x5_1 : Int), v1 = .int .i64 x1_1 ∧ v5 = .int .i64 x5_1 ∧ Aside0 (laws_markIntS.l0 kq x0_1 x1_1 x5_1 = some (r1, r2)) ∧ Aside0 (kq ≤ k) ∧ Aside0 (Kd.R (Kd.int .i64) 3 w' w0.heap.size (fun k_ => (P0_ k_ ∨ w.heap.size ≤ k_)) u9000_ x0_1) ∧ Aside0 (Kept w w' (fun k_ => P0_ k_)) ∧ Aside0 (Below w0.heap.size w0 w'))
  case atStart => exact ⟨(l0), (a1), (0), (by first | rfl | (simp; done) | (simp [*]; done)), (by first | rfl | (simp; done) | (simp [*]; done)), H', ⟨Nat.le_refl _⟩, ⟨by (with_reducible repeat (first | apply Kd.R_alloc | apply Kd.R_drewN | apply Kd.R_drew)); exact HO0.out⟩, ⟨by repeat (first | (with_reducible first | exact HK.out | apply Kept.alloc | apply Kept.drewN | apply Kept.drew) | exact HK.out)⟩, ⟨by repeat (first | (with_reducible first | exact HB.out | apply below_alloc | apply pw_below_drewN | apply below_drew1) | exact HB.out)⟩⟩
  case round =>
    clear H'
    try clear c2
    try clear p2
    obtain ⟨x0_1, x1_1, x5_1, rfl, rfl, HA, HK1, HO_0, HK, HB⟩ := hrel
    cases gk with
    | zero => exact absurd HA.out (by simp [laws_markIntS.l0])
    | succ k1 =>
      have H := HA.out
      clear HA
      simp only [laws_markIntS.l0] at H
      by_cases c3 : x5_1 < (x0_1.length : Int)
      · rw [if_pos c3] at H
        have c3b0 : decide (x5_1 < (x0_1.length : Int)) = true := decide_eq_true c3
        clear c3
        by_cases c4 : 0 ≤ x5_1
        · rw [if_pos c4] at H
          have c4b0 : decide (0 ≤ x5_1) = true := decide_eq_true c4
          clear c4
          obtain ⟨y233, hy233⟩ : ∃ y_ : List Int, y_ = (x0_1.set (x5_1 : Int).toNat x1_1) := ⟨_, rfl⟩
          replace H : (laws_markIntS.l0 k1 y233 (wrap64 (x1_1 + 1)) (wrap64 (x5_1 + 1))) = some (r1, r2) := by first | (rw [hy233]; with_reducible exact H) | (have H2_ := (Option.bind_some _ _).symm.trans H; rw [hy233]; with_reducible exact H2_) | (have H2_ := (Option.bind_some _ _).symm.trans H; with_reducible exact H2_) | with_reducible exact H | (rw [hy233]; exact H) | exact H
          have Ny233 := Aside0.mk hy233
          clear hy233
          have H' := Aside0.mk H
          clear H
          obtain ⟨Ao6, co6, eo6⟩ := Kd.R_slice HO_0.out
          subst eo6
          have p5 : 0 ≤ (x5_1 : Int) := of_decide_eq_true (by first | (with_reducible assumption) | assumption)
          have q5 : (x5_1 : Int) < ((x0_1.length : Int) : Int) := of_decide_eq_true (by first | (with_reducible assumption) | assumption)
          obtain ⟨go5, co5, eo5, gb5, gl5, cl5, HG5⟩ := Kd.R_form HO_0.out (by omega)
          (first | cases eo5 | (injection eo5 with ea_ en_ ec_; (first | subst ea_ | (injection ea_ with ea_; subst ea_)); subst ec_; clear en_))
          have GB5 := Aside0.mk gb5
          have GG5 := Aside0.mk HG5
          clear gb5 gl5 HG5
          have HMgo5 := Aside0.mk (show (P0_ go5 ∨ w.heap.size ≤ go5) from (HO_0.out.1 _ rfl))
          obtain ⟨hx5_0, hf5_0⟩ := Kd.R_celln 0 HO_0.out (x5_1 : Int) p5 q5
          replace p5 := eq_true p5
          replace q5 := eq_true q5
          have HP7 := Kd.R_putg HO_0.out (x5_1 : Int) x1_1
          go_wp2_with (first | ((with_reducible refine gate_store (t := 3) (p := 15) rfl ?_); refine store_event (t := 3) (p := 15) (v := ?vo_w8) (w1 := (wr.setCell ⟨go5, (x5_1 : Int).toNat, none⟩ (.int .i64 x1_1))) ?hg ?ho ?hn ?hr ?_; (case ho => rfl); (case hg => rfl); (case hn => rfl); (case hr => first | (go_simp; done) | (go_simp; rfl)); intro w8 hw; have hg : wr.grownBy w8 (some go5) := (by rw [hw]; exact HP7.2); have hp_ : Kd.R (Kd.int .i64) 3 w8 w0.heap.size (fun k_ => (P0_ k_ ∨ w.heap.size ≤ k_)) (.slice (some ⟨go5, 0, none⟩) x0_1.length co6) y233 := (by rw [hw, Ny233.out]; exact HP7.1); clear HP7; have n0_ := Aside0.mk (hp_); have n1_ := Aside0.mk ((by rw [hw]; exact below_set (HB.out) GB5.out : Below w0.heap.size w0 w8)); have n2_ := Aside0.mk (Kept.of_grown (S := (fun k_ => P0_ k_)) hg (by repeat (first | (with_reducible first | exact HK.out | apply Kept.alloc | apply Kept.drewN | apply Kept.drew) | exact HK.out)) (fun k_ e_ => (HO_0.out.1 k_ e_))); clear HO_0; clear HB; clear HK; have HO_0 := n0_; have HB := n1_; have HK := n2_; clear n0_ n1_ n2_; clear hg hw hp_))
          go_roundg k1
          case measure => have := HK1.out; omega
          case rel => exact ⟨(y233), (wrap64 (x1_1 + 1)), (wrap64 (x5_1 + 1)), (by first | rfl | (simp; done) | (simp [*]; done)), (by first | rfl | (simp; done) | (simp [*]; done)), H', ⟨by have := HK1.out; omega⟩, ⟨by (with_reducible repeat (first | apply Kd.R_alloc | apply Kd.R_drewN | apply Kd.R_drew)); exact HO_0.out⟩, ⟨by repeat (first | (with_reducible first | exact HK.out | apply Kept.alloc | apply Kept.drewN | apply Kept.drew) | exact HK.out)⟩, ⟨by repeat (first | (with_reducible first | exact HB.out | apply below_alloc | apply pw_below_drewN | apply below_drew1) | exact HB.out)⟩⟩
        · rw [if_neg c4] at H
          exact absurd H (by simp)
      · rw [if_neg c3] at H
        have c3b0 : decide (x5_1 < (x0_1.length : Int)) = false := decide_eq_false c3
        clear c3
        simp only [Option.some.injEq, Prod.mk.injEq] at H
        obtain ⟨rfl, rfl⟩ := H
        obtain ⟨Ao9, co9, eo9⟩ := Kd.R_slice HO_0.out
        subst eo9
        go_wp2
        go_ret
        exact ⟨by first | rfl | (simp [errW_none, errW_some] <;> rfl) | (simp [*, errW_none, errW_some] <;> rfl), by (with_reducible repeat (first | apply Kd.R_alloc | apply Kd.R_drewN | apply Kd.R_drew)); exact HO_0.out, by repeat (first | (with_reducible first | exact HB.out | apply below_alloc | apply pw_below_drewN | apply below_drew1) | exact HB.out), by repeat (first | (with_reducible first | exact HK.out | apply Kept.alloc | apply Kept.drewN | apply Kept.drew) | exact HK.out)⟩

/-! ### laws_markIntSS: function 19 -/
def laws_markIntSS.l0 : Nat → List (List Int) → Int → Int → Option (Int × List (List Int))
  | 0, _, _, _ => none
  | k + 1, x0, x1, x5 => if x5 < (x0.length : Int) then (if 0 ≤ x5 then ((laws_markIntS.f k (x0.getD (x5 : Int).toNat []) x1).bind fun t => laws_markIntSS.l0 k (x0.set (x5 : Int).toNat t.2) t.1 (wrap64 (x5 + 1))) else (none)) else (some (x1, x0))
def laws_markIntSS.f (k : Nat) (l0 : List (List Int)) (a1 : Int) : Option (Int × List (List Int)) := laws_markIntSS.l0 k l0 a1 0
theorem laws_markIntSS.mono_l : ∀ k, (∀ y0 y1 y2, LeO (laws_markIntSS.l0 k y0 y1 y2) (laws_markIntSS.l0 (k + 1) y0 y1 y2))
  | 0 => fun _ _ _ r h => by simp [laws_markIntSS.l0] at h
  | k + 1 => by
    have ih0 := laws_markIntSS.mono_l k
    · intro y0 y1 y2
      unfold laws_markIntSS.l0
      repeat' first
      | (with_reducible exact ih0 _ _ _)
      | (with_reducible exact laws_markIntS.mono _ _ _)
      | (with_reducible exact LeO.refl _)
      | (with_reducible exact LeO.none _)
      | (with_reducible refine LeO.ite ?_ ?_)
      | (with_reducible refine LeO.bind ?_ (fun _ => ?_))
      | exact ih0 _ _ _
      | exact LeO.none _
      | refine LeO.ite ?_ ?_
      | refine LeO.bind ?_ (fun _ => ?_)
theorem laws_markIntSS.mono : ∀ a0 a1 k, LeO (laws_markIntSS.f k a0 a1) (laws_markIntSS.f (k + 1) a0 a1) := by
  intro a0 a1 k
  exact laws_markIntSS.mono_l k _ _ _
set_option maxHeartbeats 8000000 in
set_option maxRecDepth 100000 in
theorem laws_markIntSS.calls (k : Nat) (P0_ : Nat → Prop) (u9000_ : Value) (l0 : List (List Int)) (a1 : Int) (r1 : Int) (r2 : List (List Int)) (w0 w : World) (hB : Below w0.heap.size w0 w) (ho0 : Kd.S (Kd.slice 3 (Kd.int .i64)) 29 w w0.heap.size P0_ u9000_ l0) (h : laws_markIntSS.f k l0 a1 = some (r1, r2)) :
    Calls Try.prog 19 #[u9000_, .int .i64 a1] w fun e w' => e = .returned (.int .i64 r1) ∧ Kd.S (Kd.slice 3 (Kd.int .i64)) 29 w' w0.heap.size P0_ u9000_ r2 ∧ Below w0.heap.size w0 w' ∧ Kept w w' (fun k_ => P0_ k_) := by
  have HO0 := Aside0.mk ho0
  have HK := Aside0.mk (Kept.refl w (fun k_ => P0_ k_))
  have HB := Aside0.mk hB
  clear hB ho0
  have H : (laws_markIntSS.l0 k l0 a1 0) = some (r1, r2) := h
  clear h
  have H' := Aside0.mk H
  clear H
  go_enter Try.func19, Try.ntmps19
  go_wp2
  go_loopg [1, 5] k (fun kq v1 v5 w' => ∃ (x0_1 : List (List Int)) (x1_1 : Int) (x5_1 : Int), v1 = .int .i64 x1_1 ∧ v5 = .int .i64 x5_1 ∧ Aside0 (laws_markIntSS.l0 kq x0_1 x1_1 x5_1 = some (r1, r2)) ∧ Aside0 (kq ≤ k) ∧ Aside0 (Kd.S (Kd.slice 3 (Kd.int .i64)) 29 w' w0.heap.size P0_ u9000_ x0_1) ∧ Aside0 (Kept w w' (fun k_ => P0_ k_)) ∧ Aside0 (Below w0.heap.size w0 w'))
  case atStart => exact ⟨(l0), (a1), (0), (by first | rfl | (simp; done) | (simp [*]; done)), (by first | rfl | (simp; done) | (simp [*]; done)), H', ⟨Nat.le_refl _⟩, ⟨by (with_reducible repeat (first | apply Kd.S_alloc | apply Kd.S_drewN | apply Kd.S_drew)); exact HO0.out⟩, ⟨by repeat (first | (with_reducible first | exact HK.out | apply Kept.alloc | apply Kept.drewN | apply Kept.drew) | exact HK.out)⟩, ⟨by repeat (first | (with_reducible first | exact HB.out | apply below_alloc | apply pw_below_drewN | apply below_drew1) | exact HB.out)⟩⟩
  case round =>
    clear H'
    try clear c2
    try clear p2
    obtain ⟨x0_1, x1_1, x5_1, rfl, rfl, HA, HK1, HO_0, HK, HB⟩ := hrel
    cases gk with
    | zero => exact absurd HA.out (by simp [laws_markIntSS.l0])
    | succ k1 =>
      have H := HA.out
      clear HA
      simp only [laws_markIntSS.l0] at H
      by_cases c3 : x5_1 < (x0_1.length : Int)
      · rw [if_pos c3] at H
        have c3b0 : decide (x5_1 < (x0_1.length : Int)) = true := decide_eq_true c3
        clear c3
        by_cases c4 : 0 ≤ x5_1
        · rw [if_pos c4] at H
          have c4b0 : decide (0 ≤ x5_1) = true := decide_eq_true c4
          clear c4
          replace H := Option.bind_eq_some_iff.mp H
          obtain ⟨⟨t1, t2⟩, A80, H⟩ := H
          replace H : (laws_markIntSS.l0 k1 (x0_1.set (x5_1 : Int).toNat t2) t1 (wrap64 (x5_1 + 1))) = some (r1, r2) := H
          have A8 := Aside0.mk A80
          clear A80
          have H' := Aside0.mk H
          clear H
          have p5 : 0 ≤ (x5_1 : Int) := of_decide_eq_true (by first | (with_reducible assumption) | assumption)
          have q5 : (x5_1 : Int) < ((x0_1.length : Int) : Int) := of_decide_eq_true (by first | (with_reducible assumption) | assumption)
          obtain ⟨go5, co5, eo5, gb5, gl5, cl5, HG5⟩ := Kd.S_form HO_0.out (by omega)
          subst eo5
          obtain ⟨oki5, ce5, hcl5, hM5, hcc5, hfr5, hoki5, hH5⟩ := Kd.S_elem HO_0.out [] (x5_1 : Int) p5 q5
          obtain ⟨ve5, rfl, ge5⟩ := hM5
          obtain ⟨z5, hz5⟩ : ∃ z_ : List Int, z_ = x0_1.getD (x5_1 : Int).toNat [] := ⟨_, rfl⟩
          rw [← hz5] at ge5
          have A9 := Aside0.mk (hz5.symm ▸ A8.out : laws_markIntS.f k1 z5 x1_1 = some (t1, t2))
          clear hz5 A8
          have hx5 := hcc5 0 _ rfl
          simp only [show (Kd.slice 3 (Kd.int .i64)).sz = 1 from rfl, Nat.mul_one, Nat.add_zero] at hx5
          have GE := Aside0.mk ge5
          have HH := Aside0.mk hH5
          have HI := Aside0.mk hoki5
          clear hcl5 hcc5 hfr5 ge5 hH5 hoki5 gb5 gl5 cl5 HG5
          obtain ⟨Ai, ci, ei⟩ := Kd.R_slice GE.out
          subst ei
          replace p5 := eq_true p5
          replace q5 := eq_true q5
          go_wp2_with (first | ((with_reducible refine gate_callee (f := 20) rfl ?_); refine goesL_ (some 17) rfl rfl Try.func20 (by kernel_rfl) rfl #[.slice Ai z5.length ci, .int .i64 x1_1] rfl (by (try simp only [List.map_toArray, List.map_cons, List.map_nil]); first | done | rfl | (simp only [List.length_drop, List.length_take]; rfl)) ?_; (with_reducible refine (laws_markIntS.calls k1 oki5 (.slice Ai z5.length ci) z5 x1_1 t1 t2 w0 _ ?side1 ?side2 A9.out).mono ?_); (case side1 => repeat (first | (with_reducible first | exact HB.out | apply below_alloc | apply pw_below_drewN | apply below_drew1) | exact HB.out)); (case side2 => (with_reducible repeat (first | apply Kd.R_alloc | apply Kd.R_drewN | apply Kd.R_drew)); exact GE.out); rintro e w45 ⟨rfl, hy0, hb, hkp⟩; refine ⟨_, rfl, ?_⟩; have n0_ := Aside0.mk (Kd.H_back (Kd.H_kept (HH.out) hkp (fun k_ h1_ h2_ h3_ => h2_ h3_)) (⟨_, rfl, Kd.R_reok rfl hy0 (fun k_ e_ => GE.out.1 k_ e_)⟩ : (Kd.slice 3 (Kd.int .i64)).M _ _ oki5 t2 [_]) (fun _ h_ => h_)); have n1_ := Aside0.mk hb; have n2_ := Aside0.mk (Kept.then_ (S := (fun k_ => P0_ k_)) (by repeat (first | (with_reducible first | exact HK.out | apply Kept.alloc | apply Kept.drewN | apply Kept.drew) | exact HK.out)) hkp (fun k_ hs_ => .inl (HI.out k_ hs_).1)); clear HO_0; clear HB; clear HK; have HO_0 := n0_; have HB := n1_; have HK := n2_; clear n0_ n1_ n2_; clear hb hkp hy0))
          go_roundg k1
          case measure => have := HK1.out; omega
          case rel => exact ⟨(x0_1.set (x5_1 : Int).toNat t2), t1, (wrap64 (x5_1 + 1)), (by first | rfl | (simp; done) | (simp [*]; done)), (by first | rfl | (simp; done) | (simp [*]; done)), H', ⟨by have := HK1.out; omega⟩, ⟨by (with_reducible repeat (first | apply Kd.S_alloc | apply Kd.S_drewN | apply Kd.S_drew)); exact HO_0.out⟩, ⟨by repeat (first | (with_reducible first | exact HK.out | apply Kept.alloc | apply Kept.drewN | apply Kept.drew) | exact HK.out)⟩, ⟨by repeat (first | (with_reducible first | exact HB.out | apply below_alloc | apply pw_below_drewN | apply below_drew1) | exact HB.out)⟩⟩
        · rw [if_neg c4] at H
          exact absurd H (by simp)
      · rw [if_neg c3] at H
        have c3b0 : decide (x5_1 < (x0_1.length : Int)) = false := decide_eq_false c3
        clear c3
        simp only [Option.some.injEq, Prod.mk.injEq] at H
        obtain ⟨rfl, rfl⟩ := H
        obtain ⟨Ao9, co9, eo9⟩ := Kd.S_slice HO_0.out
        subst eo9
        go_wp2
        go_ret
        exact ⟨by first | rfl | (simp [errW_none, errW_some] <;> rfl) | (simp [*, errW_none, errW_some] <;> rfl), by (with_reducible repeat (first | apply Kd.S_alloc | apply Kd.S_drewN | apply Kd.S_drew)); exact HO_0.out, by repeat (first | (with_reducible first | exact HB.out | apply below_alloc | apply pw_below_drewN | apply below_drew1) | exact HB.out), by repeat (first | (with_reducible first | exact HK.out | apply Kept.alloc | apply Kept.drewN | apply Kept.drew) | exact HK.out)⟩


/-! ### laws_heldIntS: function 21 -/
def laws_heldIntS.l0 : Nat → List Int → Int → Int → Option (Int)
  | 0, _, _, _ => none
  | k + 1, x0, x1, x5 => if x5 < (x0.length : Int) then (if 0 ≤ x5 then (if (rd x0 x5) = x1 then (laws_heldIntS.l0 k x0 (wrap64 (x1 + 1)) (wrap64 (x5 + 1))) else (some (-1))) else (none)) else (some x1)
def laws_heldIntS.f (k : Nat) (l0 : List Int) (a1 : Int) : Option (Int) := laws_heldIntS.l0 k l0 a1 0
theorem laws_heldIntS.mono_l : ∀ k, (∀ y0 y1 y2, LeO (laws_heldIntS.l0 k y0 y1 y2) (laws_heldIntS.l0 (k + 1) y0 y1 y2))
  | 0 => fun _ _ _ r h => by simp [laws_heldIntS.l0] at h
  | k + 1 => by
    have ih0 := laws_heldIntS.mono_l k
    · intro y0 y1 y2
      unfold laws_heldIntS.l0
      repeat' first
      | (with_reducible exact ih0 _ _ _)
      | (with_reducible exact LeO.refl _)
      | (with_reducible exact LeO.none _)
      | (with_reducible refine LeO.ite ?_ ?_)
      | (with_reducible refine LeO.bind ?_ (fun _ => ?_))
      | exact ih0 _ _ _
      | exact LeO.none _
      | refine LeO.ite ?_ ?_
      | refine LeO.bind ?_ (fun _ => ?_)
theorem laws_heldIntS.mono : ∀ a0 a1 k, LeO (laws_heldIntS.f k a0 a1) (laws_heldIntS.f (k + 1) a0 a1) := by
  intro a0 a1 k
  have ih0 := laws_heldIntS.mono_l k
  unfold laws_heldIntS.f
  repeat' first
      | (with_reducible exact ih0 _ _ _)
      | (with_reducible exact LeO.refl _)
      | (with_reducible exact LeO.none _)
      | (with_reducible refine LeO.ite ?_ ?_)
      | (with_reducible refine LeO.bind ?_ (fun _ => ?_))
      | exact ih0 _ _ _
      | exact LeO.none _
      | refine LeO.ite ?_ ?_
      | refine LeO.bind ?_ (fun _ => ?_)
set_option maxHeartbeats 8000000 in
set_option maxRecDepth 100000 in
theorem laws_heldIntS.calls (k : Nat) (A0 : Option Addr) (c0 : Nat) (l0 : List Int) (a1 : Int) (r : Int) (w : World) (hr0 : Kd.C (Kd.int .i64) w A0 l0.length l0) (hc0 : l0.length ≤ c0) (h : laws_heldIntS.f k l0 a1 = some r) :
    Calls Try.prog 21 #[.slice A0 l0.length c0, .int .i64 a1] w fun e w' => e = .returned (.int .i64 r) ∧ Drawn0 w w' := by
  have HR0 := Aside0.mk hr0
  have HC0 := Aside0.mk hc0
  clear hr0 hc0
  have H : (laws_heldIntS.l0 k l0 a1 0) = some r := h
  clear h
  have H' := Aside0.mk H
  clear H
  go_enter Try.func21, Try.ntmps21
  go_wp2
  go_loopg [1, 5] k (fun kq v1 v5 w' => ∃ (x1_1 : Int) (x5_1 : Int), v1 = .int .i64 x1_1 ∧ v5 = .int .i64 x5_1 ∧ Aside0 (laws_heldIntS.l0 kq l0 x1_1 x5_1 = some r) ∧ Aside0 (kq ≤ k) ∧ Drawn0 w w')
  case atStart => exact ⟨(a1), (0), (by first | rfl | (simp; done) | (simp [*]; done)), (by first | rfl | (simp; done) | (simp [*]; done)), H', ⟨Nat.le_refl _⟩, by repeat (first | exact Drawn0.refl _ | apply Drawn0.step)⟩
  case round =>
    clear H'
    try clear c2
    try clear p2
    obtain ⟨x1_1, x5_1, rfl, rfl, HA, HK1, ⟨m1, rfl⟩⟩ := hrel
    cases gk with
    | zero => exact absurd HA.out (by simp [laws_heldIntS.l0])
    | succ k1 =>
      have H := HA.out
      clear HA
      simp only [laws_heldIntS.l0] at H
      by_cases c3 : x5_1 < (l0.length : Int)
      · rw [if_pos c3] at H
        have c3b0 : decide (x5_1 < (l0.length : Int)) = true := decide_eq_true c3
        clear c3
        by_cases c4 : 0 ≤ x5_1
        · rw [if_pos c4] at H
          have c4b0 : decide (0 ≤ x5_1) = true := decide_eq_true c4
          clear c4
          by_cases c5 : (rd l0 x5_1) = x1_1
          · rw [if_pos c5] at H
            have c5b0 : ((rd l0 x5_1) == x1_1) = true := beq_iff_eq.mpr c5
            have c5b1 : ((rd l0 x5_1) != x1_1) = false := bne_eq_false_iff_eq.mpr c5
            clear c5
            have H' := Aside0.mk H
            clear H
            have p234 : 0 ≤ (x5_1 : Int) := of_decide_eq_true (by first | (with_reducible assumption) | assumption)
            have q234 : x5_1 < (l0.length : Int) := of_decide_eq_true (by first | (with_reducible assumption) | assumption)
            obtain ⟨ad234, e234, hx234_0⟩ := Kd.at_int HR0.out x5_1 p234 q234
            cases e234
            replace p234 := eq_true p234
            replace q234 := eq_true q234
            go_wp2
            go_roundg k1
            case measure => have := HK1.out; omega
            case rel => exact ⟨(wrap64 (x1_1 + 1)), (wrap64 (x5_1 + 1)), (by first | rfl | (simp; done) | (simp [*]; done)), (by first | rfl | (simp; done) | (simp [*]; done)), H', ⟨by have := HK1.out; omega⟩, by repeat (first | exact Drawn0.refl _ | apply Drawn0.step)⟩
          · rw [if_neg c5] at H
            have c5b0 : ((rd l0 x5_1) == x1_1) = false := beq_eq_false_iff_ne.mpr c5
            have c5b1 : ((rd l0 x5_1) != x1_1) = true := bne_iff_ne.mpr c5
            obtain rfl := Option.some.inj H
            have p234 : 0 ≤ (x5_1 : Int) := of_decide_eq_true (by first | (with_reducible assumption) | assumption)
            have q234 : x5_1 < (l0.length : Int) := of_decide_eq_true (by first | (with_reducible assumption) | assumption)
            obtain ⟨ad234, e234, hx234_0⟩ := Kd.at_int HR0.out x5_1 p234 q234
            cases e234
            replace p234 := eq_true p234
            replace q234 := eq_true q234
            go_wp2
            go_ret
            exact ⟨by first | rfl | (simp; done) | (simp [*]; done), by repeat (first | exact Drawn0.refl _ | apply Drawn0.step)⟩
        · rw [if_neg c4] at H
          exact absurd H (by simp)
      · rw [if_neg c3] at H
        have c3b0 : decide (x5_1 < (l0.length : Int)) = false := decide_eq_false c3
        clear c3
        obtain rfl := Option.some.inj H
        go_wp2
        go_ret
        exact ⟨by first | rfl | (simp; done) | (simp [*]; done), by repeat (first | exact Drawn0.refl _ | apply Drawn0.step)⟩

/-! ### laws_FnExactNeededIn: function 4 -/
def laws_FnExactNeededIn.f (k : Nat) (a0 : Int) (l1 : List (List Int)) (l2 : List (List Int)) : Option (Bool) := (laws_szIntSS.f k l1 1048576).bind fun t235 => (if t235 < 0 then (some true) else ((laws_szIntSS.f k l2 t235).bind fun t236 => (if t236 < 0 then (some true) else ((laws_toIntSS.f k l1).bind fun t237 => ((laws_toIntSS.f k l2).bind fun t240 => ((spec_NeededIn.f k a0 t237 t240).bind fun bt243 => ((laws_toIntSS.f k l1).bind fun t247 => ((laws_toIntSS.f k l2).bind fun t250 => ((impl_NeededIn.f k a0 t247 t250).bind fun bt253 => ((laws_eqIntS.f k bt253.1 bt243.1).bind fun t257 => (if t257 = true then (if (bt253.2 != bt243.2) = true then (none) else ((laws_toIntSS.f k l1).bind fun t258 => ((laws_eqIntSS.f k t247 t258).bind fun t261 => (if t261 = true then ((laws_toIntSS.f k l2).bind fun t262 => ((laws_eqIntSS.f k t250 t262).bind fun t265 => (if t265 = true then ((laws_markIntSS.f k t247 1).bind fun bt266 => ((laws_markIntSS.f k t250 bt266.1).bind fun bt268 => (if bt268.1 < 0 then (none) else ((laws_eqIntS.f k bt253.1 bt243.1).bind fun t270 => (if t270 = true then ((laws_markIntS.f k bt253.1 1).bind fun bt271 => ((laws_heldIntS.f k bt271.2 1).bind fun t273 => (if t273 < 0 then (none) else (if t273 = bt271.1 then ((laws_toIntSS.f k l1).bind fun t274 => ((laws_toIntSS.f k l2).bind fun t277 => ((impl_NeededIn.f k a0 t274 t277).bind fun bt280 => ((laws_eqIntS.f k bt280.1 bt243.1).bind fun t284 => (if t284 = true then (if (bt280.2 != bt243.2) = true then (none) else ((laws_heldIntS.f k bt271.2 1).bind fun t285 => (if t285 < 0 then (none) else (if t285 = bt271.1 then (some true) else (none))))) else (none)))))) else (none))))) else (none)))))) else (none)))) else (none))))) else (none))))))))))))
theorem laws_FnExactNeededIn.mono : ∀ a0 a1 a2 k, LeO (laws_FnExactNeededIn.f k a0 a1 a2) (laws_FnExactNeededIn.f (k + 1) a0 a1 a2) := by
  intro a0 a1 a2 k
  unfold laws_FnExactNeededIn.f
  repeat' first
      | (with_reducible exact impl_NeededIn.mono _ _ _ _)
      | (with_reducible exact laws_eqIntS.mono _ _ _)
      | (with_reducible exact laws_eqIntSS.mono _ _ _)
      | (with_reducible exact laws_heldIntS.mono _ _ _)
      | (with_reducible exact laws_markIntS.mono _ _ _)
      | (with_reducible exact laws_markIntSS.mono _ _ _)
      | (with_reducible exact laws_szIntSS.mono _ _ _)
      | (with_reducible exact laws_toIntSS.mono _ _)
      | (with_reducible exact spec_NeededIn.mono _ _ _ _)
      | (with_reducible exact LeO.refl _)
      | (with_reducible exact LeO.none _)
      | (with_reducible refine LeO.ite ?_ ?_)
      | (with_reducible refine LeO.bind ?_ (fun _ => ?_))
      | exact impl_NeededIn.mono _ _ _ _
      | exact laws_eqIntS.mono _ _ _
      | exact laws_eqIntSS.mono _ _ _
      | exact laws_heldIntS.mono _ _ _
      | exact laws_markIntS.mono _ _ _
      | exact laws_markIntSS.mono _ _ _
      | exact laws_szIntSS.mono _ _ _
      | exact laws_toIntSS.mono _ _
      | exact spec_NeededIn.mono _ _ _ _
      | exact LeO.none _
      | refine LeO.ite ?_ ?_
      | refine LeO.bind ?_ (fun _ => ?_)
set_option maxHeartbeats 8000000 in
set_option maxRecDepth 100000 in
theorem laws_FnExactNeededIn.calls (k : Nat) (a0 : Int) (A1 : Option Addr) (c1 : Nat) (l1 : List (List Int)) (A2 : Option Addr) (c2 : Nat) (l2 : List (List Int)) (r : Bool) (w : World) (hr1 : Kd.C (Kd.slice 3 (Kd.int .i64)) w A1 l1.length l1) (hc1 : l1.length ≤ c1) (hr2 : Kd.C (Kd.slice 3 (Kd.int .i64)) w A2 l2.length l2) (hc2 : l2.length ≤ c2) (h : laws_FnExactNeededIn.f k a0 l1 l2 = some r) :
    Calls Try.prog 4 #[.int .i64 a0, .slice A1 l1.length c1, .slice A2 l2.length c2] w fun e w' => e = .returned (.bool r) ∧ Below w.heap.size w w' := by
  have HR1 := Aside0.mk hr1
  have HC1 := Aside0.mk hc1
  clear hr1 hc1
  have HR2 := Aside0.mk hr2
  have HC2 := Aside0.mk hc2
  clear hr2 hc2
  have HB := Aside0.mk (Below.refl w.heap.size w)
  have HTop := Aside0.mk (Nat.zero_le w.heap.size)
  have H : ((laws_szIntSS.f k l1 1048576).bind fun t235 => (if t235 < 0 then (some true) else ((laws_szIntSS.f k l2 t235).bind fun t236 => (if t236 < 0 then (some true) else ((laws_toIntSS.f k l1).bind fun t237 => ((laws_toIntSS.f k l2).bind fun t240 => ((spec_NeededIn.f k a0 t237 t240).bind fun bt243 => ((laws_toIntSS.f k l1).bind fun t247 => ((laws_toIntSS.f k l2).bind fun t250 => ((impl_NeededIn.f k a0 t247 t250).bind fun bt253 => ((laws_eqIntS.f k bt253.1 bt243.1).bind fun t257 => (if t257 = true then (if (bt253.2 != bt243.2) = true then (none) else ((laws_toIntSS.f k l1).bind fun t258 => ((laws_eqIntSS.f k t247 t258).bind fun t261 => (if t261 = true then ((laws_toIntSS.f k l2).bind fun t262 => ((laws_eqIntSS.f k t250 t262).bind fun t265 => (if t265 = true then ((laws_markIntSS.f k t247 1).bind fun bt266 => ((laws_markIntSS.f k t250 bt266.1).bind fun bt268 => (if bt268.1 < 0 then (none) else ((laws_eqIntS.f k bt253.1 bt243.1).bind fun t270 => (if t270 = true then ((laws_markIntS.f k bt253.1 1).bind fun bt271 => ((laws_heldIntS.f k bt271.2 1).bind fun t273 => (if t273 < 0 then (none) else (if t273 = bt271.1 then ((laws_toIntSS.f k l1).bind fun t274 => ((laws_toIntSS.f k l2).bind fun t277 => ((impl_NeededIn.f k a0 t274 t277).bind fun bt280 => ((laws_eqIntS.f k bt280.1 bt243.1).bind fun t284 => (if t284 = true then (if (bt280.2 != bt243.2) = true then (none) else ((laws_heldIntS.f k bt271.2 1).bind fun t285 => (if t285 < 0 then (none) else (if t285 = bt271.1 then (some true) else (none))))) else (none)))))) else (none))))) else (none)))))) else (none)))) else (none))))) else (none))))))))))))) = some r := h
  clear h
  replace H := Option.bind_eq_some_iff.mp H
  obtain ⟨t235, A40, H⟩ := H
  replace H : (if t235 < 0 then (some true) else ((laws_szIntSS.f k l2 t235).bind fun t236 => (if t236 < 0 then (some true) else ((laws_toIntSS.f k l1).bind fun t237 => ((laws_toIntSS.f k l2).bind fun t240 => ((spec_NeededIn.f k a0 t237 t240).bind fun bt243 => ((laws_toIntSS.f k l1).bind fun t247 => ((laws_toIntSS.f k l2).bind fun t250 => ((impl_NeededIn.f k a0 t247 t250).bind fun bt253 => ((laws_eqIntS.f k bt253.1 bt243.1).bind fun t257 => (if t257 = true then (if (bt253.2 != bt243.2) = true then (none) else ((laws_toIntSS.f k l1).bind fun t258 => ((laws_eqIntSS.f k t247 t258).bind fun t261 => (if t261 = true then ((laws_toIntSS.f k l2).bind fun t262 => ((laws_eqIntSS.f k t250 t262).bind fun t265 => (if t265 = true then ((laws_markIntSS.f k t247 1).bind fun bt266 => ((laws_markIntSS.f k t250 bt266.1).bind fun bt268 => (if bt268.1 < 0 then (none) else ((laws_eqIntS.f k bt253.1 bt243.1).bind fun t270 => (if t270 = true then ((laws_markIntS.f k bt253.1 1).bind fun bt271 => ((laws_heldIntS.f k bt271.2 1).bind fun t273 => (if t273 < 0 then (none) else (if t273 = bt271.1 then ((laws_toIntSS.f k l1).bind fun t274 => ((laws_toIntSS.f k l2).bind fun t277 => ((impl_NeededIn.f k a0 t274 t277).bind fun bt280 => ((laws_eqIntS.f k bt280.1 bt243.1).bind fun t284 => (if t284 = true then (if (bt280.2 != bt243.2) = true then (none) else ((laws_heldIntS.f k bt271.2 1).bind fun t285 => (if t285 < 0 then (none) else (if t285 = bt271.1 then (some true) else (none))))) else (none)))))) else (none))))) else (none)))))) else (none)))) else (none))))) else (none)))))))))))) = some r := H
  have A4 := Aside0.mk A40
  clear A40
  by_cases c5 : t235 < 0
  · rw [if_pos c5] at H
    have c5b0 : decide (t235 < 0) = true := decide_eq_true c5
    clear c5
    obtain rfl := Option.some.inj H
    go_enter Try.func4, Try.ntmps4
    go_wp2_with (first | ((with_reducible refine gate_callee (f := 11) rfl ?_); refine goesL_ (some 21) rfl rfl Try.func11 (by kernel_rfl) rfl #[.slice A1 l1.length c1, .int .i64 1048576] rfl (by (try simp only [List.map_toArray, List.map_cons, List.map_nil]); first | done | rfl | (simp only [List.length_drop, List.length_take]; rfl)) ?_; (with_reducible refine (laws_szIntSS.calls k _ _ l1 1048576 t235 _ ?side1 ?side2 A4.out).mono ?_); (case side1 => repeat (first | exact HR1.out | (with_reducible refine Kd.C_alloc ?_ _) | (with_reducible refine Kd.C_drewN ?_ _) | (with_reducible refine Kd.C_drew ?_))); (case side2 => exact HC1.out); rintro e w' ⟨rfl, ⟨nd, rfl⟩⟩; refine ⟨_, rfl, ?_⟩))
    go_ret
    exact ⟨by first | rfl | (simp [errW_none, errW_some] <;> rfl) | (simp [*, errW_none, errW_some] <;> rfl), by repeat (first | (with_reducible first | exact HB.out | apply below_alloc | apply pw_below_drewN | apply below_drew1) | exact HB.out)⟩
  · rw [if_neg c5] at H
    have c5b0 : decide (t235 < 0) = false := decide_eq_false c5
    clear c5
    replace H := Option.bind_eq_some_iff.mp H
    obtain ⟨t236, A60, H⟩ := H
    replace H : (if t236 < 0 then (some true) else ((laws_toIntSS.f k l1).bind fun t237 => ((laws_toIntSS.f k l2).bind fun t240 => ((spec_NeededIn.f k a0 t237 t240).bind fun bt243 => ((laws_toIntSS.f k l1).bind fun t247 => ((laws_toIntSS.f k l2).bind fun t250 => ((impl_NeededIn.f k a0 t247 t250).bind fun bt253 => ((laws_eqIntS.f k bt253.1 bt243.1).bind fun t257 => (if t257 = true then (if (bt253.2 != bt243.2) = true then (none) else ((laws_toIntSS.f k l1).bind fun t258 => ((laws_eqIntSS.f k t247 t258).bind fun t261 => (if t261 = true then ((laws_toIntSS.f k l2).bind fun t262 => ((laws_eqIntSS.f k t250 t262).bind fun t265 => (if t265 = true then ((laws_markIntSS.f k t247 1).bind fun bt266 => ((laws_markIntSS.f k t250 bt266.1).bind fun bt268 => (if bt268.1 < 0 then (none) else ((laws_eqIntS.f k bt253.1 bt243.1).bind fun t270 => (if t270 = true then ((laws_markIntS.f k bt253.1 1).bind fun bt271 => ((laws_heldIntS.f k bt271.2 1).bind fun t273 => (if t273 < 0 then (none) else (if t273 = bt271.1 then ((laws_toIntSS.f k l1).bind fun t274 => ((laws_toIntSS.f k l2).bind fun t277 => ((impl_NeededIn.f k a0 t274 t277).bind fun bt280 => ((laws_eqIntS.f k bt280.1 bt243.1).bind fun t284 => (if t284 = true then (if (bt280.2 != bt243.2) = true then (none) else ((laws_heldIntS.f k bt271.2 1).bind fun t285 => (if t285 < 0 then (none) else (if t285 = bt271.1 then (some true) else (none))))) else (none)))))) else (none))))) else (none)))))) else (none)))) else (none))))) else (none)))))))))) = some r := H
    have A6 := Aside0.mk A60
    clear A60
    by_cases c7 : t236 < 0
    · rw [if_pos c7] at H
      have c7b0 : decide (t236 < 0) = true := decide_eq_true c7
      clear c7
      obtain rfl := Option.some.inj H
      go_enter Try.func4, Try.ntmps4
      go_wp2_with (first | ((with_reducible refine gate_callee (f := 11) rfl ?_); refine goesL_ (some 21) rfl rfl Try.func11 (by kernel_rfl) rfl #[.slice A1 l1.length c1, .int .i64 1048576] rfl (by (try simp only [List.map_toArray, List.map_cons, List.map_nil]); first | done | rfl | (simp only [List.length_drop, List.length_take]; rfl)) ?_; (with_reducible refine (laws_szIntSS.calls k _ _ l1 1048576 t235 _ ?side1 ?side2 A4.out).mono ?_); (case side1 => repeat (first | exact HR1.out | (with_reducible refine Kd.C_alloc ?_ _) | (with_reducible refine Kd.C_drewN ?_ _) | (with_reducible refine Kd.C_drew ?_))); (case side2 => exact HC1.out); rintro e w' ⟨rfl, ⟨nd, rfl⟩⟩; refine ⟨_, rfl, ?_⟩) | ((with_reducible refine gate_callee (f := 11) rfl ?_); refine goesL_ (some 26) rfl rfl Try.func11 (by kernel_rfl) rfl #[.slice A2 l2.length c2, .int .i64 t235] rfl (by (try simp only [List.map_toArray, List.map_cons, List.map_nil]); first | done | rfl | (simp only [List.length_drop, List.length_take]; rfl)) ?_; (with_reducible refine (laws_szIntSS.calls k _ _ l2 t235 t236 _ ?side1 ?side2 A6.out).mono ?_); (case side1 => repeat (first | exact HR2.out | (with_reducible refine Kd.C_alloc ?_ _) | (with_reducible refine Kd.C_drewN ?_ _) | (with_reducible refine Kd.C_drew ?_))); (case side2 => exact HC2.out); rintro e w' ⟨rfl, ⟨nd, rfl⟩⟩; refine ⟨_, rfl, ?_⟩))
      go_ret
      exact ⟨by first | rfl | (simp [errW_none, errW_some] <;> rfl) | (simp [*, errW_none, errW_some] <;> rfl), by repeat (first | (with_reducible first | exact HB.out | apply below_alloc | apply pw_below_drewN | apply below_drew1) | exact HB.out)⟩
    · rw [if_neg c7] at H
      have c7b0 : decide (t236 < 0) = false := decide_eq_false c7
      clear c7
      replace H := Option.bind_eq_some_iff.mp H
      obtain ⟨t237, A80, H⟩ := H
      replace H : ((laws_toIntSS.f k l2).bind fun t240 => ((spec_NeededIn.f k a0 t237 t240).bind fun bt243 => ((laws_toIntSS.f k l1).bind fun t247 => ((laws_toIntSS.f k l2).bind fun t250 => ((impl_NeededIn.f k a0 t247 t250).bind fun bt253 => ((laws_eqIntS.f k bt253.1 bt243.1).bind fun t257 => (if t257 = true then (if (bt253.2 != bt243.2) = true then (none) else ((laws_toIntSS.f k l1).bind fun t258 => ((laws_eqIntSS.f k t247 t258).bind fun t261 => (if t261 = true then ((laws_toIntSS.f k l2).bind fun t262 => ((laws_eqIntSS.f k t250 t262).bind fun t265 => (if t265 = true then ((laws_markIntSS.f k t247 1).bind fun bt266 => ((laws_markIntSS.f k t250 bt266.1).bind fun bt268 => (if bt268.1 < 0 then (none) else ((laws_eqIntS.f k bt253.1 bt243.1).bind fun t270 => (if t270 = true then ((laws_markIntS.f k bt253.1 1).bind fun bt271 => ((laws_heldIntS.f k bt271.2 1).bind fun t273 => (if t273 < 0 then (none) else (if t273 = bt271.1 then ((laws_toIntSS.f k l1).bind fun t274 => ((laws_toIntSS.f k l2).bind fun t277 => ((impl_NeededIn.f k a0 t274 t277).bind fun bt280 => ((laws_eqIntS.f k bt280.1 bt243.1).bind fun t284 => (if t284 = true then (if (bt280.2 != bt243.2) = true then (none) else ((laws_heldIntS.f k bt271.2 1).bind fun t285 => (if t285 < 0 then (none) else (if t285 = bt271.1 then (some true) else (none))))) else (none)))))) else (none))))) else (none)))))) else (none)))) else (none))))) else (none)))))))) = some r := H
      have A8 := Aside0.mk A80
      clear A80
      replace H := Option.bind_eq_some_iff.mp H
      obtain ⟨t240, A90, H⟩ := H
      replace H : ((spec_NeededIn.f k a0 t237 t240).bind fun bt243 => ((laws_toIntSS.f k l1).bind fun t247 => ((laws_toIntSS.f k l2).bind fun t250 => ((impl_NeededIn.f k a0 t247 t250).bind fun bt253 => ((laws_eqIntS.f k bt253.1 bt243.1).bind fun t257 => (if t257 = true then (if (bt253.2 != bt243.2) = true then (none) else ((laws_toIntSS.f k l1).bind fun t258 => ((laws_eqIntSS.f k t247 t258).bind fun t261 => (if t261 = true then ((laws_toIntSS.f k l2).bind fun t262 => ((laws_eqIntSS.f k t250 t262).bind fun t265 => (if t265 = true then ((laws_markIntSS.f k t247 1).bind fun bt266 => ((laws_markIntSS.f k t250 bt266.1).bind fun bt268 => (if bt268.1 < 0 then (none) else ((laws_eqIntS.f k bt253.1 bt243.1).bind fun t270 => (if t270 = true then ((laws_markIntS.f k bt253.1 1).bind fun bt271 => ((laws_heldIntS.f k bt271.2 1).bind fun t273 => (if t273 < 0 then (none) else (if t273 = bt271.1 then ((laws_toIntSS.f k l1).bind fun t274 => ((laws_toIntSS.f k l2).bind fun t277 => ((impl_NeededIn.f k a0 t274 t277).bind fun bt280 => ((laws_eqIntS.f k bt280.1 bt243.1).bind fun t284 => (if t284 = true then (if (bt280.2 != bt243.2) = true then (none) else ((laws_heldIntS.f k bt271.2 1).bind fun t285 => (if t285 < 0 then (none) else (if t285 = bt271.1 then (some true) else (none))))) else (none)))))) else (none))))) else (none)))))) else (none)))) else (none))))) else (none))))))) = some r := H
      have A9 := Aside0.mk A90
      clear A90
      replace H := Option.bind_eq_some_iff.mp H
      obtain ⟨⟨t243, t244⟩, A100, H⟩ := H
      replace H : ((laws_toIntSS.f k l1).bind fun t247 => ((laws_toIntSS.f k l2).bind fun t250 => ((impl_NeededIn.f k a0 t247 t250).bind fun bt253 => ((laws_eqIntS.f k bt253.1 t243).bind fun t257 => (if t257 = true then (if (bt253.2 != t244) = true then (none) else ((laws_toIntSS.f k l1).bind fun t258 => ((laws_eqIntSS.f k t247 t258).bind fun t261 => (if t261 = true then ((laws_toIntSS.f k l2).bind fun t262 => ((laws_eqIntSS.f k t250 t262).bind fun t265 => (if t265 = true then ((laws_markIntSS.f k t247 1).bind fun bt266 => ((laws_markIntSS.f k t250 bt266.1).bind fun bt268 => (if bt268.1 < 0 then (none) else ((laws_eqIntS.f k bt253.1 t243).bind fun t270 => (if t270 = true then ((laws_markIntS.f k bt253.1 1).bind fun bt271 => ((laws_heldIntS.f k bt271.2 1).bind fun t273 => (if t273 < 0 then (none) else (if t273 = bt271.1 then ((laws_toIntSS.f k l1).bind fun t274 => ((laws_toIntSS.f k l2).bind fun t277 => ((impl_NeededIn.f k a0 t274 t277).bind fun bt280 => ((laws_eqIntS.f k bt280.1 t243).bind fun t284 => (if t284 = true then (if (bt280.2 != t244) = true then (none) else ((laws_heldIntS.f k bt271.2 1).bind fun t285 => (if t285 < 0 then (none) else (if t285 = bt271.1 then (some true) else (none))))) else (none)))))) else (none))))) else (none)))))) else (none)))) else (none))))) else (none)))))) = some r := H
      have A10 := Aside0.mk A100
      clear A100
      replace H := Option.bind_eq_some_iff.mp H
      obtain ⟨t247, A110, H⟩ := H
      replace H : ((laws_toIntSS.f k l2).bind fun t250 => ((impl_NeededIn.f k a0 t247 t250).bind fun bt253 => ((laws_eqIntS.f k bt253.1 t243).bind fun t257 => (if t257 = true then (if (bt253.2 != t244) = true then (none) else ((laws_toIntSS.f k l1).bind fun t258 => ((laws_eqIntSS.f k t247 t258).bind fun t261 => (if t261 = true then ((laws_toIntSS.f k l2).bind fun t262 => ((laws_eqIntSS.f k t250 t262).bind fun t265 => (if t265 = true then ((laws_markIntSS.f k t247 1).bind fun bt266 => ((laws_markIntSS.f k t250 bt266.1).bind fun bt268 => (if bt268.1 < 0 then (none) else ((laws_eqIntS.f k bt253.1 t243).bind fun t270 => (if t270 = true then ((laws_markIntS.f k bt253.1 1).bind fun bt271 => ((laws_heldIntS.f k bt271.2 1).bind fun t273 => (if t273 < 0 then (none) else (if t273 = bt271.1 then ((laws_toIntSS.f k l1).bind fun t274 => ((laws_toIntSS.f k l2).bind fun t277 => ((impl_NeededIn.f k a0 t274 t277).bind fun bt280 => ((laws_eqIntS.f k bt280.1 t243).bind fun t284 => (if t284 = true then (if (bt280.2 != t244) = true then (none) else ((laws_heldIntS.f k bt271.2 1).bind fun t285 => (if t285 < 0 then (none) else (if t285 = bt271.1 then (some true) else (none))))) else (none)))))) else (none))))) else (none)))))) else (none)))) else (none))))) else (none))))) = some r := H
      have A11 := Aside0.mk A110
      clear A110
      replace H := Option.bind_eq_some_iff.mp H
      obtain ⟨t250, A120, H⟩ := H
      replace H : ((impl_NeededIn.f k a0 t247 t250).bind fun bt253 => ((laws_eqIntS.f k bt253.1 t243).bind fun t257 => (if t257 = true then (if (bt253.2 != t244) = true then (none) else ((laws_toIntSS.f k l1).bind fun t258 => ((laws_eqIntSS.f k t247 t258).bind fun t261 => (if t261 = true then ((laws_toIntSS.f k l2).bind fun t262 => ((laws_eqIntSS.f k t250 t262).bind fun t265 => (if t265 = true then ((laws_markIntSS.f k t247 1).bind fun bt266 => ((laws_markIntSS.f k t250 bt266.1).bind fun bt268 => (if bt268.1 < 0 then (none) else ((laws_eqIntS.f k bt253.1 t243).bind fun t270 => (if t270 = true then ((laws_markIntS.f k bt253.1 1).bind fun bt271 => ((laws_heldIntS.f k bt271.2 1).bind fun t273 => (if t273 < 0 then (none) else (if t273 = bt271.1 then ((laws_toIntSS.f k l1).bind fun t274 => ((laws_toIntSS.f k l2).bind fun t277 => ((impl_NeededIn.f k a0 t274 t277).bind fun bt280 => ((laws_eqIntS.f k bt280.1 t243).bind fun t284 => (if t284 = true then (if (bt280.2 != t244) = true then (none) else ((laws_heldIntS.f k bt271.2 1).bind fun t285 => (if t285 < 0 then (none) else (if t285 = bt271.1 then (some true) else (none))))) else (none)))))) else (none))))) else (none)))))) else (none)))) else (none))))) else (none)))) = some r := H
      have A12 := Aside0.mk A120
      clear A120
      replace H := Option.bind_eq_some_iff.mp H
      obtain ⟨⟨t253, t254⟩, A130, H⟩ := H
      replace H : ((laws_eqIntS.f k t253 t243).bind fun t257 => (if t257 = true then (if (t254 != t244) = true then (none) else ((laws_toIntSS.f k l1).bind fun t258 => ((laws_eqIntSS.f k t247 t258).bind fun t261 => (if t261 = true then ((laws_toIntSS.f k l2).bind fun t262 => ((laws_eqIntSS.f k t250 t262).bind fun t265 => (if t265 = true then ((laws_markIntSS.f k t247 1).bind fun bt266 => ((laws_markIntSS.f k t250 bt266.1).bind fun bt268 => (if bt268.1 < 0 then (none) else ((laws_eqIntS.f k t253 t243).bind fun t270 => (if t270 = true then ((laws_markIntS.f k t253 1).bind fun bt271 => ((laws_heldIntS.f k bt271.2 1).bind fun t273 => (if t273 < 0 then (none) else (if t273 = bt271.1 then ((laws_toIntSS.f k l1).bind fun t274 => ((laws_toIntSS.f k l2).bind fun t277 => ((impl_NeededIn.f k a0 t274 t277).bind fun bt280 => ((laws_eqIntS.f k bt280.1 t243).bind fun t284 => (if t284 = true then (if (bt280.2 != t244) = true then (none) else ((laws_heldIntS.f k bt271.2 1).bind fun t285 => (if t285 < 0 then (none) else (if t285 = bt271.1 then (some true) else (none))))) else (none)))))) else (none))))) else (none)))))) else (none)))) else (none))))) else (none))) = some r := H
      have A13 := Aside0.mk A130
      clear A130
      replace H := Option.bind_eq_some_iff.mp H
      obtain ⟨t257, A140, H⟩ := H
      replace H : (if t257 = true then (if (t254 != t244) = true then (none) else ((laws_toIntSS.f k l1).bind fun t258 => ((laws_eqIntSS.f k t247 t258).bind fun t261 => (if t261 = true then ((laws_toIntSS.f k l2).bind fun t262 => ((laws_eqIntSS.f k t250 t262).bind fun t265 => (if t265 = true then ((laws_markIntSS.f k t247 1).bind fun bt266 => ((laws_markIntSS.f k t250 bt266.1).bind fun bt268 => (if bt268.1 < 0 then (none) else ((laws_eqIntS.f k t253 t243).bind fun t270 => (if t270 = true then ((laws_markIntS.f k t253 1).bind fun bt271 => ((laws_heldIntS.f k bt271.2 1).bind fun t273 => (if t273 < 0 then (none) else (if t273 = bt271.1 then ((laws_toIntSS.f k l1).bind fun t274 => ((laws_toIntSS.f k l2).bind fun t277 => ((impl_NeededIn.f k a0 t274 t277).bind fun bt280 => ((laws_eqIntS.f k bt280.1 t243).bind fun t284 => (if t284 = true then (if (bt280.2 != t244) = true then (none) else ((laws_heldIntS.f k bt271.2 1).bind fun t285 => (if t285 < 0 then (none) else (if t285 = bt271.1 then (some true) else (none))))) else (none)))))) else (none))))) else (none)))))) else (none)))) else (none))))) else (none)) = some r := H
      have A14 := Aside0.mk A140
      clear A140
      by_cases c15 : t257 = true
      · subst c15
        have H1 : (if (t254 != t244) = true then (none) else ((laws_toIntSS.f k l1).bind fun t258 => ((laws_eqIntSS.f k t247 t258).bind fun t261 => (if t261 = true then ((laws_toIntSS.f k l2).bind fun t262 => ((laws_eqIntSS.f k t250 t262).bind fun t265 => (if t265 = true then ((laws_markIntSS.f k t247 1).bind fun bt266 => ((laws_markIntSS.f k t250 bt266.1).bind fun bt268 => (if bt268.1 < 0 then (none) else ((laws_eqIntS.f k t253 t243).bind fun t270 => (if t270 = true then ((laws_markIntS.f k t253 1).bind fun bt271 => ((laws_heldIntS.f k bt271.2 1).bind fun t273 => (if t273 < 0 then (none) else (if t273 = bt271.1 then ((laws_toIntSS.f k l1).bind fun t274 => ((laws_toIntSS.f k l2).bind fun t277 => ((impl_NeededIn.f k a0 t274 t277).bind fun bt280 => ((laws_eqIntS.f k bt280.1 t243).bind fun t284 => (if t284 = true then (if (bt280.2 != t244) = true then (none) else ((laws_heldIntS.f k bt271.2 1).bind fun t285 => (if t285 < 0 then (none) else (if t285 = bt271.1 then (some true) else (none))))) else (none)))))) else (none))))) else (none)))))) else (none)))) else (none))))) = some r := by rw [if_pos rfl] at H; exact H
        clear H
        have H := H1
        clear H1
        by_cases c16 : (t254 != t244) = true
        · rw [if_pos c16] at H
          exact absurd H (by simp)
        · rw [if_neg c16] at H
          have c16b0 : (t254 != t244) = false := by simpa using c16
          (try (have c16b1 : decide (t254 = t244) = true := by simpa using c16))
          (try (have c16b2 : (t254 == t244) = true := by simpa using c16))
          clear c16
          replace H := Option.bind_eq_some_iff.mp H
          obtain ⟨t258, A170, H⟩ := H
          replace H : ((laws_eqIntSS.f k t247 t258).bind fun t261 => (if t261 = true then ((laws_toIntSS.f k l2).bind fun t262 => ((laws_eqIntSS.f k t250 t262).bind fun t265 => (if t265 = true then ((laws_markIntSS.f k t247 1).bind fun bt266 => ((laws_markIntSS.f k t250 bt266.1).bind fun bt268 => (if bt268.1 < 0 then (none) else ((laws_eqIntS.f k t253 t243).bind fun t270 => (if t270 = true then ((laws_markIntS.f k t253 1).bind fun bt271 => ((laws_heldIntS.f k bt271.2 1).bind fun t273 => (if t273 < 0 then (none) else (if t273 = bt271.1 then ((laws_toIntSS.f k l1).bind fun t274 => ((laws_toIntSS.f k l2).bind fun t277 => ((impl_NeededIn.f k a0 t274 t277).bind fun bt280 => ((laws_eqIntS.f k bt280.1 t243).bind fun t284 => (if t284 = true then (if (bt280.2 != t244) = true then (none) else ((laws_heldIntS.f k bt271.2 1).bind fun t285 => (if t285 < 0 then (none) else (if t285 = bt271.1 then (some true) else (none))))) else (none)))))) else (none))))) else (none)))))) else (none)))) else (none))) = some r := H
          have A17 := Aside0.mk A170
          clear A170
          replace H := Option.bind_eq_some_iff.mp H
          obtain ⟨t261, A180, H⟩ := H
          replace H : (if t261 = true then ((laws_toIntSS.f k l2).bind fun t262 => ((laws_eqIntSS.f k t250 t262).bind fun t265 => (if t265 = true then ((laws_markIntSS.f k t247 1).bind fun bt266 => ((laws_markIntSS.f k t250 bt266.1).bind fun bt268 => (if bt268.1 < 0 then (none) else ((laws_eqIntS.f k t253 t243).bind fun t270 => (if t270 = true then ((laws_markIntS.f k t253 1).bind fun bt271 => ((laws_heldIntS.f k bt271.2 1).bind fun t273 => (if t273 < 0 then (none) else (if t273 = bt271.1 then ((laws_toIntSS.f k l1).bind fun t274 => ((laws_toIntSS.f k l2).bind fun t277 => ((impl_NeededIn.f k a0 t274 t277).bind fun bt280 => ((laws_eqIntS.f k bt280.1 t243).bind fun t284 => (if t284 = true then (if (bt280.2 != t244) = true then (none) else ((laws_heldIntS.f k bt271.2 1).bind fun t285 => (if t285 < 0 then (none) else (if t285 = bt271.1 then (some true) else (none))))) else (none)))))) else (none))))) else (none)))))) else (none)))) else (none)) = some r := H
          have A18 := Aside0.mk A180
          clear A180
          by_cases c19 : t261 = true
          · subst c19
            have H1 : ((laws_toIntSS.f k l2).bind fun t262 => ((laws_eqIntSS.f k t250 t262).bind fun t265 => (if t265 = true then ((laws_markIntSS.f k t247 1).bind fun bt266 => ((laws_markIntSS.f k t250 bt266.1).bind fun bt268 => (if bt268.1 < 0 then (none) else ((laws_eqIntS.f k t253 t243).bind fun t270 => (if t270 = true then ((laws_markIntS.f k t253 1).bind fun bt271 => ((laws_heldIntS.f k bt271.2 1).bind fun t273 => (if t273 < 0 then (none) else (if t273 = bt271.1 then ((laws_toIntSS.f k l1).bind fun t274 => ((laws_toIntSS.f k l2).bind fun t277 => ((impl_NeededIn.f k a0 t274 t277).bind fun bt280 => ((laws_eqIntS.f k bt280.1 t243).bind fun t284 => (if t284 = true then (if (bt280.2 != t244) = true then (none) else ((laws_heldIntS.f k bt271.2 1).bind fun t285 => (if t285 < 0 then (none) else (if t285 = bt271.1 then (some true) else (none))))) else (none)))))) else (none))))) else (none)))))) else (none)))) = some r := by rw [if_pos rfl] at H; exact H
            clear H
            have H := H1
            clear H1
            replace H := Option.bind_eq_some_iff.mp H
            obtain ⟨t262, A200, H⟩ := H
            replace H : ((laws_eqIntSS.f k t250 t262).bind fun t265 => (if t265 = true then ((laws_markIntSS.f k t247 1).bind fun bt266 => ((laws_markIntSS.f k t250 bt266.1).bind fun bt268 => (if bt268.1 < 0 then (none) else ((laws_eqIntS.f k t253 t243).bind fun t270 => (if t270 = true then ((laws_markIntS.f k t253 1).bind fun bt271 => ((laws_heldIntS.f k bt271.2 1).bind fun t273 => (if t273 < 0 then (none) else (if t273 = bt271.1 then ((laws_toIntSS.f k l1).bind fun t274 => ((laws_toIntSS.f k l2).bind fun t277 => ((impl_NeededIn.f k a0 t274 t277).bind fun bt280 => ((laws_eqIntS.f k bt280.1 t243).bind fun t284 => (if t284 = true then (if (bt280.2 != t244) = true then (none) else ((laws_heldIntS.f k bt271.2 1).bind fun t285 => (if t285 < 0 then (none) else (if t285 = bt271.1 then (some true) else (none))))) else (none)))))) else (none))))) else (none)))))) else (none))) = some r := H
            have A20 := Aside0.mk A200
            clear A200
            replace H := Option.bind_eq_some_iff.mp H
            obtain ⟨t265, A210, H⟩ := H
            replace H : (if t265 = true then ((laws_markIntSS.f k t247 1).bind fun bt266 => ((laws_markIntSS.f k t250 bt266.1).bind fun bt268 => (if bt268.1 < 0 then (none) else ((laws_eqIntS.f k t253 t243).bind fun t270 => (if t270 = true then ((laws_markIntS.f k t253 1).bind fun bt271 => ((laws_heldIntS.f k bt271.2 1).bind fun t273 => (if t273 < 0 then (none) else (if t273 = bt271.1 then ((laws_toIntSS.f k l1).bind fun t274 => ((laws_toIntSS.f k l2).bind fun t277 => ((impl_NeededIn.f k a0 t274 t277).bind fun bt280 => ((laws_eqIntS.f k bt280.1 t243).bind fun t284 => (if t284 = true then (if (bt280.2 != t244) = true then (none) else ((laws_heldIntS.f k bt271.2 1).bind fun t285 => (if t285 < 0 then (none) else (if t285 = bt271.1 then (some true) else (none))))) else (none)))))) else (none))))) else (none)))))) else (none)) = some r := H
            have A21 := Aside0.mk A210
            clear A210
            by_cases c22 : t265 = true
            · subst c22
              have H1 : ((laws_markIntSS.f k t247 1).bind fun bt266 => ((laws_markIntSS.f k t250 bt266.1).bind fun bt268 => (if bt268.1 < 0 then (none) else ((laws_eqIntS.f k t253 t243).bind fun t270 => (if t270 = true then ((laws_markIntS.f k t253 1).bind fun bt271 => ((laws_heldIntS.f k bt271.2 1).bind fun t273 => (if t273 < 0 then (none) else (if t273 = bt271.1 then ((laws_toIntSS.f k l1).bind fun t274 => ((laws_toIntSS.f k l2).bind fun t277 => ((impl_NeededIn.f k a0 t274 t277).bind fun bt280 => ((laws_eqIntS.f k bt280.1 t243).bind fun t284 => (if t284 = true then (if (bt280.2 != t244) = true then (none) else ((laws_heldIntS.f k bt271.2 1).bind fun t285 => (if t285 < 0 then (none) else (if t285 = bt271.1 then (some true) else (none))))) else (none)))))) else (none))))) else (none)))))) = some r := by rw [if_pos rfl] at H; exact H
              clear H
              have H := H1
              clear H1
              replace H := Option.bind_eq_some_iff.mp H
              obtain ⟨⟨t266, t267⟩, A230, H⟩ := H
              replace H : ((laws_markIntSS.f k t250 t266).bind fun bt268 => (if bt268.1 < 0 then (none) else ((laws_eqIntS.f k t253 t243).bind fun t270 => (if t270 = true then ((laws_markIntS.f k t253 1).bind fun bt271 => ((laws_heldIntS.f k bt271.2 1).bind fun t273 => (if t273 < 0 then (none) else (if t273 = bt271.1 then ((laws_toIntSS.f k l1).bind fun t274 => ((laws_toIntSS.f k l2).bind fun t277 => ((impl_NeededIn.f k a0 t274 t277).bind fun bt280 => ((laws_eqIntS.f k bt280.1 t243).bind fun t284 => (if t284 = true then (if (bt280.2 != t244) = true then (none) else ((laws_heldIntS.f k bt271.2 1).bind fun t285 => (if t285 < 0 then (none) else (if t285 = bt271.1 then (some true) else (none))))) else (none)))))) else (none))))) else (none))))) = some r := H
              have A23 := Aside0.mk A230
              clear A230
              replace H := Option.bind_eq_some_iff.mp H
              obtain ⟨⟨t268, t269⟩, A240, H⟩ := H
              replace H : (if t268 < 0 then (none) else ((laws_eqIntS.f k t253 t243).bind fun t270 => (if t270 = true then ((laws_markIntS.f k t253 1).bind fun bt271 => ((laws_heldIntS.f k bt271.2 1).bind fun t273 => (if t273 < 0 then (none) else (if t273 = bt271.1 then ((laws_toIntSS.f k l1).bind fun t274 => ((laws_toIntSS.f k l2).bind fun t277 => ((impl_NeededIn.f k a0 t274 t277).bind fun bt280 => ((laws_eqIntS.f k bt280.1 t243).bind fun t284 => (if t284 = true then (if (bt280.2 != t244) = true then (none) else ((laws_heldIntS.f k bt271.2 1).bind fun t285 => (if t285 < 0 then (none) else (if t285 = bt271.1 then (some true) else (none))))) else (none)))))) else (none))))) else (none)))) = some r := H
              have A24 := Aside0.mk A240
              clear A240
              by_cases c25 : t268 < 0
              · rw [if_pos c25] at H
                exact absurd H (by simp)
              · rw [if_neg c25] at H
                have c25b0 : decide (t268 < 0) = false := decide_eq_false c25
                clear c25
                replace H := Option.bind_eq_some_iff.mp H
                obtain ⟨t270, A260, H⟩ := H
                replace H : (if t270 = true then ((laws_markIntS.f k t253 1).bind fun bt271 => ((laws_heldIntS.f k bt271.2 1).bind fun t273 => (if t273 < 0 then (none) else (if t273 = bt271.1 then ((laws_toIntSS.f k l1).bind fun t274 => ((laws_toIntSS.f k l2).bind fun t277 => ((impl_NeededIn.f k a0 t274 t277).bind fun bt280 => ((laws_eqIntS.f k bt280.1 t243).bind fun t284 => (if t284 = true then (if (bt280.2 != t244) = true then (none) else ((laws_heldIntS.f k bt271.2 1).bind fun t285 => (if t285 < 0 then (none) else (if t285 = bt271.1 then (some true) else (none))))) else (none)))))) else (none))))) else (none)) = some r := H
                have A26 := Aside0.mk A260
                clear A260
                by_cases c27 : t270 = true
                · subst c27
                  have H1 : ((laws_markIntS.f k t253 1).bind fun bt271 => ((laws_heldIntS.f k bt271.2 1).bind fun t273 => (if t273 < 0 then (none) else (if t273 = bt271.1 then ((laws_toIntSS.f k l1).bind fun t274 => ((laws_toIntSS.f k l2).bind fun t277 => ((impl_NeededIn.f k a0 t274 t277).bind fun bt280 => ((laws_eqIntS.f k bt280.1 t243).bind fun t284 => (if t284 = true then (if (bt280.2 != t244) = true then (none) else ((laws_heldIntS.f k bt271.2 1).bind fun t285 => (if t285 < 0 then (none) else (if t285 = bt271.1 then (some true) else (none))))) else (none)))))) else (none))))) = some r := by rw [if_pos rfl] at H; exact H
                  clear H
                  have H := H1
                  clear H1
                  replace H := Option.bind_eq_some_iff.mp H
                  obtain ⟨⟨t271, t272⟩, A280, H⟩ := H
                  replace H : ((laws_heldIntS.f k t272 1).bind fun t273 => (if t273 < 0 then (none) else (if t273 = t271 then ((laws_toIntSS.f k l1).bind fun t274 => ((laws_toIntSS.f k l2).bind fun t277 => ((impl_NeededIn.f k a0 t274 t277).bind fun bt280 => ((laws_eqIntS.f k bt280.1 t243).bind fun t284 => (if t284 = true then (if (bt280.2 != t244) = true then (none) else ((laws_heldIntS.f k t272 1).bind fun t285 => (if t285 < 0 then (none) else (if t285 = t271 then (some true) else (none))))) else (none)))))) else (none)))) = some r := H
                  have A28 := Aside0.mk A280
                  clear A280
                  replace H := Option.bind_eq_some_iff.mp H
                  obtain ⟨t273, A290, H⟩ := H
                  replace H : (if t273 < 0 then (none) else (if t273 = t271 then ((laws_toIntSS.f k l1).bind fun t274 => ((laws_toIntSS.f k l2).bind fun t277 => ((impl_NeededIn.f k a0 t274 t277).bind fun bt280 => ((laws_eqIntS.f k bt280.1 t243).bind fun t284 => (if t284 = true then (if (bt280.2 != t244) = true then (none) else ((laws_heldIntS.f k t272 1).bind fun t285 => (if t285 < 0 then (none) else (if t285 = t271 then (some true) else (none))))) else (none)))))) else (none))) = some r := H
                  have A29 := Aside0.mk A290
                  clear A290
                  by_cases c30 : t273 < 0
                  · rw [if_pos c30] at H
                    exact absurd H (by simp)
                  · rw [if_neg c30] at H
                    have c30b0 : decide (t273 < 0) = false := decide_eq_false c30
                    clear c30
                    by_cases c31 : t273 = t271
                    · rw [if_pos c31] at H
                      have c31b0 : (t273 == t271) = true := beq_iff_eq.mpr c31
                      have c31b1 : (t273 != t271) = false := bne_eq_false_iff_eq.mpr c31
                      clear c31
                      replace H := Option.bind_eq_some_iff.mp H
                      obtain ⟨t274, A320, H⟩ := H
                      replace H : ((laws_toIntSS.f k l2).bind fun t277 => ((impl_NeededIn.f k a0 t274 t277).bind fun bt280 => ((laws_eqIntS.f k bt280.1 t243).bind fun t284 => (if t284 = true then (if (bt280.2 != t244) = true then (none) else ((laws_heldIntS.f k t272 1).bind fun t285 => (if t285 < 0 then (none) else (if t285 = t271 then (some true) else (none))))) else (none))))) = some r := H
                      have A32 := Aside0.mk A320
                      clear A320
                      replace H := Option.bind_eq_some_iff.mp H
                      obtain ⟨t277, A330, H⟩ := H
                      replace H : ((impl_NeededIn.f k a0 t274 t277).bind fun bt280 => ((laws_eqIntS.f k bt280.1 t243).bind fun t284 => (if t284 = true then (if (bt280.2 != t244) = true then (none) else ((laws_heldIntS.f k t272 1).bind fun t285 => (if t285 < 0 then (none) else (if t285 = t271 then (some true) else (none))))) else (none)))) = some r := H
                      have A33 := Aside0.mk A330
                      clear A330
                      replace H := Option.bind_eq_some_iff.mp H
                      obtain ⟨⟨t280, t281⟩, A340, H⟩ := H
                      replace H : ((laws_eqIntS.f k t280 t243).bind fun t284 => (if t284 = true then (if (t281 != t244) = true then (none) else ((laws_heldIntS.f k t272 1).bind fun t285 => (if t285 < 0 then (none) else (if t285 = t271 then (some true) else (none))))) else (none))) = some r := H
                      have A34 := Aside0.mk A340
                      clear A340
                      replace H := Option.bind_eq_some_iff.mp H
                      obtain ⟨t284, A350, H⟩ := H
                      replace H : (if t284 = true then (if (t281 != t244) = true then (none) else ((laws_heldIntS.f k t272 1).bind fun t285 => (if t285 < 0 then (none) else (if t285 = t271 then (some true) else (none))))) else (none)) = some r := H
                      have A35 := Aside0.mk A350
                      clear A350
                      by_cases c36 : t284 = true
                      · subst c36
                        have H1 : (if (t281 != t244) = true then (none) else ((laws_heldIntS.f k t272 1).bind fun t285 => (if t285 < 0 then (none) else (if t285 = t271 then (some true) else (none))))) = some r := by rw [if_pos rfl] at H; exact H
                        clear H
                        have H := H1
                        clear H1
                        by_cases c37 : (t281 != t244) = true
                        · rw [if_pos c37] at H
                          exact absurd H (by simp)
                        · rw [if_neg c37] at H
                          have c37b0 : (t281 != t244) = false := by simpa using c37
                          (try (have c37b1 : decide (t281 = t244) = true := by simpa using c37))
                          (try (have c37b2 : (t281 == t244) = true := by simpa using c37))
                          clear c37
                          replace H := Option.bind_eq_some_iff.mp H
                          obtain ⟨t285, A380, H⟩ := H
                          replace H : (if t285 < 0 then (none) else (if t285 = t271 then (some true) else (none))) = some r := H
                          have A38 := Aside0.mk A380
                          clear A380
                          by_cases c39 : t285 < 0
                          · rw [if_pos c39] at H
                            exact absurd H (by simp)
                          · rw [if_neg c39] at H
                            have c39b0 : decide (t285 < 0) = false := decide_eq_false c39
                            clear c39
                            by_cases c40 : t285 = t271
                            · rw [if_pos c40] at H
                              have c40b0 : (t285 == t271) = true := beq_iff_eq.mpr c40
                              have c40b1 : (t285 != t271) = false := bne_eq_false_iff_eq.mpr c40
                              clear c40
                              obtain rfl := Option.some.inj H
                              go_enter Try.func4, Try.ntmps4
                              go_wp2_with (first | ((with_reducible refine gate_callee (f := 11) rfl ?_); refine goesL_ (some 21) rfl rfl Try.func11 (by kernel_rfl) rfl #[.slice A1 l1.length c1, .int .i64 1048576] rfl (by (try simp only [List.map_toArray, List.map_cons, List.map_nil]); first | done | rfl | (simp only [List.length_drop, List.length_take]; rfl)) ?_; (with_reducible refine (laws_szIntSS.calls k _ _ l1 1048576 t235 _ ?side1 ?side2 A4.out).mono ?_); (case side1 => repeat (first | exact HR1.out | (with_reducible refine Kd.C_alloc ?_ _) | (with_reducible refine Kd.C_drewN ?_ _) | (with_reducible refine Kd.C_drew ?_))); (case side2 => exact HC1.out); rintro e w' ⟨rfl, ⟨nd, rfl⟩⟩; refine ⟨_, rfl, ?_⟩) | ((with_reducible refine gate_callee (f := 11) rfl ?_); refine goesL_ (some 26) rfl rfl Try.func11 (by kernel_rfl) rfl #[.slice A2 l2.length c2, .int .i64 t235] rfl (by (try simp only [List.map_toArray, List.map_cons, List.map_nil]); first | done | rfl | (simp only [List.length_drop, List.length_take]; rfl)) ?_; (with_reducible refine (laws_szIntSS.calls k _ _ l2 t235 t236 _ ?side1 ?side2 A6.out).mono ?_); (case side1 => repeat (first | exact HR2.out | (with_reducible refine Kd.C_alloc ?_ _) | (with_reducible refine Kd.C_drewN ?_ _) | (with_reducible refine Kd.C_drew ?_))); (case side2 => exact HC2.out); rintro e w' ⟨rfl, ⟨nd, rfl⟩⟩; refine ⟨_, rfl, ?_⟩) | ((with_reducible refine gate_callee (f := 13) rfl ?_); refine goesL_ (some 32) rfl rfl Try.func13 (by kernel_rfl) rfl #[.slice A1 l1.length c1] rfl (by (try simp only [List.map_toArray, List.map_cons, List.map_nil]); first | done | rfl | (simp only [List.length_drop, List.length_take]; rfl)) ?_; (with_reducible refine (laws_toIntSS.calls k _ _ l1 t237 _ ?side1 ?side2 A8.out).mono ?_); (case side1 => repeat (first | exact HR1.out | (with_reducible refine Kd.C_alloc ?_ _) | (with_reducible refine Kd.C_drewN ?_ _) | (with_reducible refine Kd.C_drew ?_))); (case side2 => exact HC1.out); rintro e w41 ⟨v238, rfl, ho0, hb⟩; refine ⟨_, rfl, ?_⟩; obtain ⟨lo1, hi1, EL1, EH1, LE1⟩ := iv_ hb; have OR1 := Aside0.mk (show 0 ≤ lo1 ∧ lo1 ≤ hi1 from ⟨Nat.le_trans HTop.out (Nat.le_of_eq EL1), LE1⟩); have n0_ := Aside0.mk (Kd.S_mono (ok' := fun k_ => lo1 ≤ k_ ∧ k_ < hi1) (Kd.S_lower (Kd.S_bound ho0) (below_size (by repeat (first | (with_reducible first | exact HB.out | apply below_alloc | apply pw_below_drewN | apply below_drew1) | exact HB.out)))) (fun k_ hk_ => by have a_ := hk_.2.1; have b_ := hk_.2.2.1; omega)); have n1_ := Aside0.mk (Nat.le_of_eq EH1.symm); have n2_ := Aside0.mk (below_step (by repeat (first | (with_reducible first | exact HB.out | apply below_alloc | apply pw_below_drewN | apply below_drew1) | exact HB.out)) hb); clear HTop; clear HB; have HO239 := n0_; have HTop := n1_; have HB := n2_; clear n0_ n1_ n2_; (try clear hb); (try clear hb2); (try clear hk); (try clear hi); (try clear ho0); (try clear EL1); (try clear EH1); (try clear LE1)) | ((with_reducible refine gate_callee (f := 13) rfl ?_); refine goesL_ (some 34) rfl rfl Try.func13 (by kernel_rfl) rfl #[.slice A2 l2.length c2] rfl (by (try simp only [List.map_toArray, List.map_cons, List.map_nil]); first | done | rfl | (simp only [List.length_drop, List.length_take]; rfl)) ?_; (with_reducible refine (laws_toIntSS.calls k _ _ l2 t240 _ ?side1 ?side2 A9.out).mono ?_); (case side1 => repeat (first | exact (Kd.C_below HR2.out HB.out) | (with_reducible refine Kd.C_alloc ?_ _) | (with_reducible refine Kd.C_drewN ?_ _) | (with_reducible refine Kd.C_drew ?_))); (case side2 => exact HC2.out); rintro e w42 ⟨v241, rfl, ho0, hb⟩; refine ⟨_, rfl, ?_⟩; obtain ⟨lo2, hi2, EL2, EH2, LE2⟩ := iv_ hb; have OR2 := Aside0.mk (show hi1 ≤ lo2 ∧ lo2 ≤ hi2 from ⟨Nat.le_trans HTop.out (Nat.le_of_eq EL2), LE2⟩); have n0_ := Aside0.mk (Kd.S_below (by (with_reducible repeat (first | apply Kd.S_alloc | apply Kd.S_drewN | apply Kd.S_drew)); exact HO239.out) hb); have n1_ := Aside0.mk (Kd.S_mono (ok' := fun k_ => lo2 ≤ k_ ∧ k_ < hi2) (Kd.S_lower (Kd.S_bound ho0) (below_size (by repeat (first | (with_reducible first | exact HB.out | apply below_alloc | apply pw_below_drewN | apply below_drew1) | exact HB.out)))) (fun k_ hk_ => by have a_ := hk_.2.1; have b_ := hk_.2.2.1; omega)); have n2_ := Aside0.mk (Nat.le_of_eq EH2.symm); have n3_ := Aside0.mk (below_step (by repeat (first | (with_reducible first | exact HB.out | apply below_alloc | apply pw_below_drewN | apply below_drew1) | exact HB.out)) hb); clear HO239; clear HTop; clear HB; have HO239 := n0_; have HO242 := n1_; have HTop := n2_; have HB := n3_; clear n0_ n1_ n2_ n3_; (try clear hb); (try clear hb2); (try clear hk); (try clear hi); (try clear ho0); (try clear EL2); (try clear EH2); (try clear LE2); obtain ⟨Ao43, co43, eo43⟩ := Kd.S_slice HO239.out; subst eo43; obtain ⟨Ao44, co44, eo44⟩ := Kd.S_slice HO242.out; subst eo44) | ((with_reducible refine gate_callee (f := 16) rfl ?_); refine goesL_ (some 35) rfl rfl Try.func16 (by kernel_rfl) rfl #[.int .i64 a0, .slice Ao43 t237.length co43, .slice Ao44 t240.length co44] rfl (by (try simp only [List.map_toArray, List.map_cons, List.map_nil]); first | done | rfl | (simp only [List.length_drop, List.length_take]; rfl)) ?_; (with_reducible refine (spec_NeededIn.calls k a0 _ _ t237 _ _ t240 t243 t244 _ ?side1 ?side2 ?side3 ?side4 A10.out).mono ?_); (case side1 => repeat (first | exact (Kd.S_reads' HO239.out).2.2 | (with_reducible refine Kd.C_alloc ?_ _) | (with_reducible refine Kd.C_drewN ?_ _) | (with_reducible refine Kd.C_drew ?_))); (case side2 => exact (Kd.S_reads' HO239.out).2.1); (case side3 => repeat (first | exact (Kd.S_reads' HO242.out).2.2 | (with_reducible refine Kd.C_alloc ?_ _) | (with_reducible refine Kd.C_drewN ?_ _) | (with_reducible refine Kd.C_drew ?_))); (case side4 => exact (Kd.S_reads' HO242.out).2.1); rintro e w45 ⟨v245, rfl, ho0, hb⟩; refine ⟨_, rfl, ?_⟩; obtain ⟨lo3, hi3, EL3, EH3, LE3⟩ := iv_ hb; have OR3 := Aside0.mk (show hi2 ≤ lo3 ∧ lo3 ≤ hi3 from ⟨Nat.le_trans HTop.out (Nat.le_of_eq EL3), LE3⟩); have n0_ := Aside0.mk (Kd.S_below (by (with_reducible repeat (first | apply Kd.S_alloc | apply Kd.S_drewN | apply Kd.S_drew)); exact HO239.out) hb); have n1_ := Aside0.mk (Kd.S_below (by (with_reducible repeat (first | apply Kd.S_alloc | apply Kd.S_drewN | apply Kd.S_drew)); exact HO242.out) hb); have n2_ := Aside0.mk (Kd.R_mono (ok' := fun k_ => lo3 ≤ k_ ∧ k_ < hi3) (Kd.R_lower (Kd.R_bound ho0) (below_size (by repeat (first | (with_reducible first | exact HB.out | apply below_alloc | apply pw_below_drewN | apply below_drew1) | exact HB.out)))) (fun k_ hk_ => by have a_ := hk_.2.1; have b_ := hk_.2.2.1; omega)); have n3_ := Aside0.mk (Nat.le_of_eq EH3.symm); have n4_ := Aside0.mk (below_step (by repeat (first | (with_reducible first | exact HB.out | apply below_alloc | apply pw_below_drewN | apply below_drew1) | exact HB.out)) hb); clear HO239; clear HO242; clear HTop; clear HB; have HO239 := n0_; have HO242 := n1_; have HO246 := n2_; have HTop := n3_; have HB := n4_; clear n0_ n1_ n2_ n3_ n4_; (try clear hb); (try clear hb2); (try clear hk); (try clear hi); (try clear ho0); (try clear EL3); (try clear EH3); (try clear LE3)) | ((with_reducible refine gate_callee (f := 13) rfl ?_); refine goesL_ (some 39) rfl rfl Try.func13 (by kernel_rfl) rfl #[.slice A1 l1.length c1] rfl (by (try simp only [List.map_toArray, List.map_cons, List.map_nil]); first | done | rfl | (simp only [List.length_drop, List.length_take]; rfl)) ?_; (with_reducible refine (laws_toIntSS.calls k _ _ l1 t247 _ ?side1 ?side2 A11.out).mono ?_); (case side1 => repeat (first | exact (Kd.C_below HR1.out HB.out) | (with_reducible refine Kd.C_alloc ?_ _) | (with_reducible refine Kd.C_drewN ?_ _) | (with_reducible refine Kd.C_drew ?_))); (case side2 => exact HC1.out); rintro e w46 ⟨v248, rfl, ho0, hb⟩; refine ⟨_, rfl, ?_⟩; obtain ⟨lo4, hi4, EL4, EH4, LE4⟩ := iv_ hb; have OR4 := Aside0.mk (show hi3 ≤ lo4 ∧ lo4 ≤ hi4 from ⟨Nat.le_trans HTop.out (Nat.le_of_eq EL4), LE4⟩); have n0_ := Aside0.mk (Kd.S_below (by (with_reducible repeat (first | apply Kd.S_alloc | apply Kd.S_drewN | apply Kd.S_drew)); exact HO239.out) hb); have n1_ := Aside0.mk (Kd.S_below (by (with_reducible repeat (first | apply Kd.S_alloc | apply Kd.S_drewN | apply Kd.S_drew)); exact HO242.out) hb); have n2_ := Aside0.mk (Kd.R_below (by (with_reducible repeat (first | apply Kd.R_alloc | apply Kd.R_drewN | apply Kd.R_drew)); exact HO246.out) hb); have n3_ := Aside0.mk (Kd.S_mono (ok' := fun k_ => lo4 ≤ k_ ∧ k_ < hi4) (Kd.S_lower (Kd.S_bound ho0) (below_size (by repeat (first | (with_reducible first | exact HB.out | apply below_alloc | apply pw_below_drewN | apply below_drew1) | exact HB.out)))) (fun k_ hk_ => by have a_ := hk_.2.1; have b_ := hk_.2.2.1; omega)); have n4_ := Aside0.mk (Nat.le_of_eq EH4.symm); have n5_ := Aside0.mk (below_step (by repeat (first | (with_reducible first | exact HB.out | apply below_alloc | apply pw_below_drewN | apply below_drew1) | exact HB.out)) hb); clear HO239; clear HO242; clear HO246; clear HTop; clear HB; have HO239 := n0_; have HO242 := n1_; have HO246 := n2_; have HO249 := n3_; have HTop := n4_; have HB := n5_; clear n0_ n1_ n2_ n3_ n4_ n5_; (try clear hb); (try clear hb2); (try clear hk); (try clear hi); (try clear ho0); (try clear EL4); (try clear EH4); (try clear LE4)) | ((with_reducible refine gate_callee (f := 13) rfl ?_); refine goesL_ (some 41) rfl rfl Try.func13 (by kernel_rfl) rfl #[.slice A2 l2.length c2] rfl (by (try simp only [List.map_toArray, List.map_cons, List.map_nil]); first | done | rfl | (simp only [List.length_drop, List.length_take]; rfl)) ?_; (with_reducible refine (laws_toIntSS.calls k _ _ l2 t250 _ ?side1 ?side2 A12.out).mono ?_); (case side1 => repeat (first | exact (Kd.C_below HR2.out HB.out) | (with_reducible refine Kd.C_alloc ?_ _) | (with_reducible refine Kd.C_drewN ?_ _) | (with_reducible refine Kd.C_drew ?_))); (case side2 => exact HC2.out); rintro e w47 ⟨v251, rfl, ho0, hb⟩; refine ⟨_, rfl, ?_⟩; obtain ⟨lo5, hi5, EL5, EH5, LE5⟩ := iv_ hb; have OR5 := Aside0.mk (show hi4 ≤ lo5 ∧ lo5 ≤ hi5 from ⟨Nat.le_trans HTop.out (Nat.le_of_eq EL5), LE5⟩); have n0_ := Aside0.mk (Kd.S_below (by (with_reducible repeat (first | apply Kd.S_alloc | apply Kd.S_drewN | apply Kd.S_drew)); exact HO239.out) hb); have n1_ := Aside0.mk (Kd.S_below (by (with_reducible repeat (first | apply Kd.S_alloc | apply Kd.S_drewN | apply Kd.S_drew)); exact HO242.out) hb); have n2_ := Aside0.mk (Kd.R_below (by (with_reducible repeat (first | apply Kd.R_alloc | apply Kd.R_drewN | apply Kd.R_drew)); exact HO246.out) hb); have n3_ := Aside0.mk (Kd.S_below (by (with_reducible repeat (first | apply Kd.S_alloc | apply Kd.S_drewN | apply Kd.S_drew)); exact HO249.out) hb); have n4_ := Aside0.mk (Kd.S_mono (ok' := fun k_ => lo5 ≤ k_ ∧ k_ < hi5) (Kd.S_lower (Kd.S_bound ho0) (below_size (by repeat (first | (with_reducible first | exact HB.out | apply below_alloc | apply pw_below_drewN | apply below_drew1) | exact HB.out)))) (fun k_ hk_ => by have a_ := hk_.2.1; have b_ := hk_.2.2.1; omega)); have n5_ := Aside0.mk (Nat.le_of_eq EH5.symm); have n6_ := Aside0.mk (below_step (by repeat (first | (with_reducible first | exact HB.out | apply below_alloc | apply pw_below_drewN | apply below_drew1) | exact HB.out)) hb); clear HO239; clear HO242; clear HO246; clear HO249; clear HTop; clear HB; have HO239 := n0_; have HO242 := n1_; have HO246 := n2_; have HO249 := n3_; have HO252 := n4_; have HTop := n5_; have HB := n6_; clear n0_ n1_ n2_ n3_ n4_ n5_ n6_; (try clear hb); (try clear hb2); (try clear hk); (try clear hi); (try clear ho0); (try clear EL5); (try clear EH5); (try clear LE5); obtain ⟨Ao48, co48, eo48⟩ := Kd.S_slice HO249.out; subst eo48; obtain ⟨Ao49, co49, eo49⟩ := Kd.S_slice HO252.out; subst eo49) | ((with_reducible refine gate_callee (f := 17) rfl ?_); refine goesL_ (some 46) rfl rfl Try.func17 (by kernel_rfl) rfl #[.int .i64 a0, .slice Ao48 t247.length co48, .slice Ao49 t250.length co49] rfl (by (try simp only [List.map_toArray, List.map_cons, List.map_nil]); first | done | rfl | (simp only [List.length_drop, List.length_take]; rfl)) ?_; (with_reducible refine (impl_NeededIn.calls k a0 _ _ t247 _ _ t250 t253 t254 _ ?side1 ?side2 ?side3 ?side4 A13.out).mono ?_); (case side1 => repeat (first | exact (Kd.S_reads' HO249.out).2.2 | (with_reducible refine Kd.C_alloc ?_ _) | (with_reducible refine Kd.C_drewN ?_ _) | (with_reducible refine Kd.C_drew ?_))); (case side2 => exact (Kd.S_reads' HO249.out).2.1); (case side3 => repeat (first | exact (Kd.S_reads' HO252.out).2.2 | (with_reducible refine Kd.C_alloc ?_ _) | (with_reducible refine Kd.C_drewN ?_ _) | (with_reducible refine Kd.C_drew ?_))); (case side4 => exact (Kd.S_reads' HO252.out).2.1); rintro e w50 ⟨v255, rfl, ho0, hb⟩; refine ⟨_, rfl, ?_⟩; obtain ⟨lo6, hi6, EL6, EH6, LE6⟩ := iv_ hb; have OR6 := Aside0.mk (show hi5 ≤ lo6 ∧ lo6 ≤ hi6 from ⟨Nat.le_trans HTop.out (Nat.le_of_eq EL6), LE6⟩); have n0_ := Aside0.mk (Kd.S_below (by (with_reducible repeat (first | apply Kd.S_alloc | apply Kd.S_drewN | apply Kd.S_drew)); exact HO239.out) hb); have n1_ := Aside0.mk (Kd.S_below (by (with_reducible repeat (first | apply Kd.S_alloc | apply Kd.S_drewN | apply Kd.S_drew)); exact HO242.out) hb); have n2_ := Aside0.mk (Kd.R_below (by (with_reducible repeat (first | apply Kd.R_alloc | apply Kd.R_drewN | apply Kd.R_drew)); exact HO246.out) hb); have n3_ := Aside0.mk (Kd.S_below (by (with_reducible repeat (first | apply Kd.S_alloc | apply Kd.S_drewN | apply Kd.S_drew)); exact HO249.out) hb); have n4_ := Aside0.mk (Kd.S_below (by (with_reducible repeat (first | apply Kd.S_alloc | apply Kd.S_drewN | apply Kd.S_drew)); exact HO252.out) hb); have n5_ := Aside0.mk (Kd.R_mono (ok' := fun k_ => lo6 ≤ k_ ∧ k_ < hi6) (Kd.R_lower (Kd.R_bound ho0) (below_size (by repeat (first | (with_reducible first | exact HB.out | apply below_alloc | apply pw_below_drewN | apply below_drew1) | exact HB.out)))) (fun k_ hk_ => by have a_ := hk_.2.1; have b_ := hk_.2.2.1; omega)); have n6_ := Aside0.mk (Nat.le_of_eq EH6.symm); have n7_ := Aside0.mk (below_step (by repeat (first | (with_reducible first | exact HB.out | apply below_alloc | apply pw_below_drewN | apply below_drew1) | exact HB.out)) hb); clear HO239; clear HO242; clear HO246; clear HO249; clear HO252; clear HTop; clear HB; have HO239 := n0_; have HO242 := n1_; have HO246 := n2_; have HO249 := n3_; have HO252 := n4_; have HO256 := n5_; have HTop := n6_; have HB := n7_; clear n0_ n1_ n2_ n3_ n4_ n5_ n6_ n7_; (try clear hb); (try clear hb2); (try clear hk); (try clear hi); (try clear ho0); (try clear EL6); (try clear EH6); (try clear LE6); obtain ⟨Ao51, co51, eo51⟩ := Kd.R_slice HO256.out; subst eo51; obtain ⟨Ao52, co52, eo52⟩ := Kd.R_slice HO246.out; subst eo52) | ((with_reducible refine gate_callee (f := 18) rfl ?_); refine goesL_ (some 51) rfl rfl Try.func18 (by kernel_rfl) rfl #[.slice Ao51 t253.length co51, .slice Ao52 t243.length co52] rfl (by (try simp only [List.map_toArray, List.map_cons, List.map_nil]); first | done | rfl | (simp only [List.length_drop, List.length_take]; rfl)) ?_; (with_reducible refine (laws_eqIntS.calls k _ _ t253 _ _ t243 true _ ?side1 ?side2 ?side3 ?side4 A14.out).mono ?_); (case side1 => repeat (first | exact (Kd.R_reads' HO256.out).2.2 | (with_reducible refine Kd.C_alloc ?_ _) | (with_reducible refine Kd.C_drewN ?_ _) | (with_reducible refine Kd.C_drew ?_))); (case side2 => exact (Kd.R_reads' HO256.out).2.1); (case side3 => repeat (first | exact (Kd.R_reads' HO246.out).2.2 | (with_reducible refine Kd.C_alloc ?_ _) | (with_reducible refine Kd.C_drewN ?_ _) | (with_reducible refine Kd.C_drew ?_))); (case side4 => exact (Kd.R_reads' HO246.out).2.1); rintro e w' ⟨rfl, ⟨nd, rfl⟩⟩; refine ⟨_, rfl, ?_⟩) | ((with_reducible refine gate_callee (f := 13) rfl ?_); refine goesL_ (some 60) rfl rfl Try.func13 (by kernel_rfl) rfl #[.slice A1 l1.length c1] rfl (by (try simp only [List.map_toArray, List.map_cons, List.map_nil]); first | done | rfl | (simp only [List.length_drop, List.length_take]; rfl)) ?_; (with_reducible refine (laws_toIntSS.calls k _ _ l1 t258 _ ?side1 ?side2 A17.out).mono ?_); (case side1 => repeat (first | exact (Kd.C_below HR1.out (by repeat (first | (with_reducible first | exact HB.out | apply below_alloc | apply pw_below_drewN | apply below_drew1) | exact HB.out))) | (with_reducible refine Kd.C_alloc ?_ _) | (with_reducible refine Kd.C_drewN ?_ _) | (with_reducible refine Kd.C_drew ?_))); (case side2 => exact HC1.out); rintro e w53 ⟨v259, rfl, ho0, hb⟩; refine ⟨_, rfl, ?_⟩; obtain ⟨lo7, hi7, EL7, EH7, LE7⟩ := iv_ hb; have OR7 := Aside0.mk (show hi6 ≤ lo7 ∧ lo7 ≤ hi7 from ⟨Nat.le_trans HTop.out (Nat.le_of_eq EL7), LE7⟩); have n0_ := Aside0.mk (Kd.S_below (by (with_reducible repeat (first | apply Kd.S_alloc | apply Kd.S_drewN | apply Kd.S_drew)); exact HO239.out) hb); have n1_ := Aside0.mk (Kd.S_below (by (with_reducible repeat (first | apply Kd.S_alloc | apply Kd.S_drewN | apply Kd.S_drew)); exact HO242.out) hb); have n2_ := Aside0.mk (Kd.R_below (by (with_reducible repeat (first | apply Kd.R_alloc | apply Kd.R_drewN | apply Kd.R_drew)); exact HO246.out) hb); have n3_ := Aside0.mk (Kd.S_below (by (with_reducible repeat (first | apply Kd.S_alloc | apply Kd.S_drewN | apply Kd.S_drew)); exact HO249.out) hb); have n4_ := Aside0.mk (Kd.S_below (by (with_reducible repeat (first | apply Kd.S_alloc | apply Kd.S_drewN | apply Kd.S_drew)); exact HO252.out) hb); have n5_ := Aside0.mk (Kd.R_below (by (with_reducible repeat (first | apply Kd.R_alloc | apply Kd.R_drewN | apply Kd.R_drew)); exact HO256.out) hb); have n6_ := Aside0.mk (Kd.S_mono (ok' := fun k_ => lo7 ≤ k_ ∧ k_ < hi7) (Kd.S_lower (Kd.S_bound ho0) (below_size (by repeat (first | (with_reducible first | exact HB.out | apply below_alloc | apply pw_below_drewN | apply below_drew1) | exact HB.out)))) (fun k_ hk_ => by have a_ := hk_.2.1; have b_ := hk_.2.2.1; omega)); have n7_ := Aside0.mk (Nat.le_of_eq EH7.symm); have n8_ := Aside0.mk (below_step (by repeat (first | (with_reducible first | exact HB.out | apply below_alloc | apply pw_below_drewN | apply below_drew1) | exact HB.out)) hb); clear HO239; clear HO242; clear HO246; clear HO249; clear HO252; clear HO256; clear HTop; clear HB; have HO239 := n0_; have HO242 := n1_; have HO246 := n2_; have HO249 := n3_; have HO252 := n4_; have HO256 := n5_; have HO260 := n6_; have HTop := n7_; have HB := n8_; clear n0_ n1_ n2_ n3_ n4_ n5_ n6_ n7_ n8_; (try clear hb); (try clear hb2); (try clear hk); (try clear hi); (try clear ho0); (try clear EL7); (try clear EH7); (try clear LE7); obtain ⟨Ao54, co54, eo54⟩ := Kd.S_slice HO260.out; subst eo54) | ((with_reducible refine gate_callee (f := 15) rfl ?_); refine goesL_ (some 61) rfl rfl Try.func15 (by kernel_rfl) rfl #[.slice Ao48 t247.length co48, .slice Ao54 t258.length co54] rfl (by (try simp only [List.map_toArray, List.map_cons, List.map_nil]); first | done | rfl | (simp only [List.length_drop, List.length_take]; rfl)) ?_; (with_reducible refine (laws_eqIntSS.calls k _ _ t247 _ _ t258 true _ ?side1 ?side2 ?side3 ?side4 A18.out).mono ?_); (case side1 => repeat (first | exact (Kd.S_reads' HO249.out).2.2 | (with_reducible refine Kd.C_alloc ?_ _) | (with_reducible refine Kd.C_drewN ?_ _) | (with_reducible refine Kd.C_drew ?_))); (case side2 => exact (Kd.S_reads' HO249.out).2.1); (case side3 => repeat (first | exact (Kd.S_reads' HO260.out).2.2 | (with_reducible refine Kd.C_alloc ?_ _) | (with_reducible refine Kd.C_drewN ?_ _) | (with_reducible refine Kd.C_drew ?_))); (case side4 => exact (Kd.S_reads' HO260.out).2.1); rintro e w' ⟨rfl, ⟨nd, rfl⟩⟩; refine ⟨_, rfl, ?_⟩) | ((with_reducible refine gate_callee (f := 13) rfl ?_); refine goesL_ (some 65) rfl rfl Try.func13 (by kernel_rfl) rfl #[.slice A2 l2.length c2] rfl (by (try simp only [List.map_toArray, List.map_cons, List.map_nil]); first | done | rfl | (simp only [List.length_drop, List.length_take]; rfl)) ?_; (with_reducible refine (laws_toIntSS.calls k _ _ l2 t262 _ ?side1 ?side2 A20.out).mono ?_); (case side1 => repeat (first | exact (Kd.C_below HR2.out (by repeat (first | (with_reducible first | exact HB.out | apply below_alloc | apply pw_below_drewN | apply below_drew1) | exact HB.out))) | (with_reducible refine Kd.C_alloc ?_ _) | (with_reducible refine Kd.C_drewN ?_ _) | (with_reducible refine Kd.C_drew ?_))); (case side2 => exact HC2.out); rintro e w55 ⟨v263, rfl, ho0, hb⟩; refine ⟨_, rfl, ?_⟩; obtain ⟨lo8, hi8, EL8, EH8, LE8⟩ := iv_ hb; have OR8 := Aside0.mk (show hi7 ≤ lo8 ∧ lo8 ≤ hi8 from ⟨Nat.le_trans HTop.out (Nat.le_of_eq EL8), LE8⟩); have n0_ := Aside0.mk (Kd.S_below (by (with_reducible repeat (first | apply Kd.S_alloc | apply Kd.S_drewN | apply Kd.S_drew)); exact HO239.out) hb); have n1_ := Aside0.mk (Kd.S_below (by (with_reducible repeat (first | apply Kd.S_alloc | apply Kd.S_drewN | apply Kd.S_drew)); exact HO242.out) hb); have n2_ := Aside0.mk (Kd.R_below (by (with_reducible repeat (first | apply Kd.R_alloc | apply Kd.R_drewN | apply Kd.R_drew)); exact HO246.out) hb); have n3_ := Aside0.mk (Kd.S_below (by (with_reducible repeat (first | apply Kd.S_alloc | apply Kd.S_drewN | apply Kd.S_drew)); exact HO249.out) hb); have n4_ := Aside0.mk (Kd.S_below (by (with_reducible repeat (first | apply Kd.S_alloc | apply Kd.S_drewN | apply Kd.S_drew)); exact HO252.out) hb); have n5_ := Aside0.mk (Kd.R_below (by (with_reducible repeat (first | apply Kd.R_alloc | apply Kd.R_drewN | apply Kd.R_drew)); exact HO256.out) hb); have n6_ := Aside0.mk (Kd.S_below (by (with_reducible repeat (first | apply Kd.S_alloc | apply Kd.S_drewN | apply Kd.S_drew)); exact HO260.out) hb); have n7_ := Aside0.mk (Kd.S_mono (ok' := fun k_ => lo8 ≤ k_ ∧ k_ < hi8) (Kd.S_lower (Kd.S_bound ho0) (below_size (by repeat (first | (with_reducible first | exact HB.out | apply below_alloc | apply pw_below_drewN | apply below_drew1) | exact HB.out)))) (fun k_ hk_ => by have a_ := hk_.2.1; have b_ := hk_.2.2.1; omega)); have n8_ := Aside0.mk (Nat.le_of_eq EH8.symm); have n9_ := Aside0.mk (below_step (by repeat (first | (with_reducible first | exact HB.out | apply below_alloc | apply pw_below_drewN | apply below_drew1) | exact HB.out)) hb); clear HO239; clear HO242; clear HO246; clear HO249; clear HO252; clear HO256; clear HO260; clear HTop; clear HB; have HO239 := n0_; have HO242 := n1_; have HO246 := n2_; have HO249 := n3_; have HO252 := n4_; have HO256 := n5_; have HO260 := n6_; have HO264 := n7_; have HTop := n8_; have HB := n9_; clear n0_ n1_ n2_ n3_ n4_ n5_ n6_ n7_ n8_ n9_; (try clear hb); (try clear hb2); (try clear hk); (try clear hi); (try clear ho0); (try clear EL8); (try clear EH8); (try clear LE8); obtain ⟨Ao56, co56, eo56⟩ := Kd.S_slice HO264.out; subst eo56) | ((with_reducible refine gate_callee (f := 15) rfl ?_); refine goesL_ (some 66) rfl rfl Try.func15 (by kernel_rfl) rfl #[.slice Ao49 t250.length co49, .slice Ao56 t262.length co56] rfl (by (try simp only [List.map_toArray, List.map_cons, List.map_nil]); first | done | rfl | (simp only [List.length_drop, List.length_take]; rfl)) ?_; (with_reducible refine (laws_eqIntSS.calls k _ _ t250 _ _ t262 true _ ?side1 ?side2 ?side3 ?side4 A21.out).mono ?_); (case side1 => repeat (first | exact (Kd.S_reads' HO252.out).2.2 | (with_reducible refine Kd.C_alloc ?_ _) | (with_reducible refine Kd.C_drewN ?_ _) | (with_reducible refine Kd.C_drew ?_))); (case side2 => exact (Kd.S_reads' HO252.out).2.1); (case side3 => repeat (first | exact (Kd.S_reads' HO264.out).2.2 | (with_reducible refine Kd.C_alloc ?_ _) | (with_reducible refine Kd.C_drewN ?_ _) | (with_reducible refine Kd.C_drew ?_))); (case side4 => exact (Kd.S_reads' HO264.out).2.1); rintro e w' ⟨rfl, ⟨nd, rfl⟩⟩; refine ⟨_, rfl, ?_⟩) | ((with_reducible refine gate_callee (f := 19) rfl ?_); refine goesL_ (some 70) rfl rfl Try.func19 (by kernel_rfl) rfl #[.slice Ao48 t247.length co48, .int .i64 1] rfl (by (try simp only [List.map_toArray, List.map_cons, List.map_nil]); first | done | rfl | (simp only [List.length_drop, List.length_take]; rfl)) ?_; (with_reducible refine (laws_markIntSS.calls k (fun k_ => lo4 ≤ k_ ∧ k_ < hi4) (.slice Ao48 t247.length co48) t247 1 t266 t267 w _ ?side1 ?side2 A23.out).mono ?_); (case side1 => repeat (first | (with_reducible first | exact HB.out | apply below_alloc | apply pw_below_drewN | apply below_drew1) | exact HB.out)); (case side2 => exact by (with_reducible repeat (first | apply Kd.S_alloc | apply Kd.S_drewN | apply Kd.S_drew)); exact HO249.out); rintro e w57 ⟨rfl, hy0, hb, hkp⟩; refine ⟨_, rfl, ?_⟩; have n0_ := Aside0.mk (Kd.S_kept (by (with_reducible repeat (first | apply Kd.S_alloc | apply Kd.S_drewN | apply Kd.S_drew)); exact HO239.out) hkp (fun k_ hk_ hs_ => by have a_ : lo1 ≤ k_ ∧ k_ < hi1 := hk_; have b_ : lo4 ≤ k_ ∧ k_ < hi4 := hs_; have z1_ := OR1.out; have z2_ := OR2.out; have z3_ := OR3.out; have z4_ := OR4.out; have z5_ := OR5.out; have z6_ := OR6.out; have z7_ := OR7.out; have z8_ := OR8.out; omega)); have n1_ := Aside0.mk (Kd.S_kept (by (with_reducible repeat (first | apply Kd.S_alloc | apply Kd.S_drewN | apply Kd.S_drew)); exact HO242.out) hkp (fun k_ hk_ hs_ => by have a_ : lo2 ≤ k_ ∧ k_ < hi2 := hk_; have b_ : lo4 ≤ k_ ∧ k_ < hi4 := hs_; have z1_ := OR1.out; have z2_ := OR2.out; have z3_ := OR3.out; have z4_ := OR4.out; have z5_ := OR5.out; have z6_ := OR6.out; have z7_ := OR7.out; have z8_ := OR8.out; omega)); have n2_ := Aside0.mk (Kd.R_kept (by (with_reducible repeat (first | apply Kd.R_alloc | apply Kd.R_drewN | apply Kd.R_drew)); exact HO246.out) hkp (fun k_ hk_ hs_ => by have a_ : lo3 ≤ k_ ∧ k_ < hi3 := hk_; have b_ : lo4 ≤ k_ ∧ k_ < hi4 := hs_; have z1_ := OR1.out; have z2_ := OR2.out; have z3_ := OR3.out; have z4_ := OR4.out; have z5_ := OR5.out; have z6_ := OR6.out; have z7_ := OR7.out; have z8_ := OR8.out; omega)); have n3_ := Aside0.mk (hy0); have n4_ := Aside0.mk (Kd.S_kept (by (with_reducible repeat (first | apply Kd.S_alloc | apply Kd.S_drewN | apply Kd.S_drew)); exact HO252.out) hkp (fun k_ hk_ hs_ => by have a_ : lo5 ≤ k_ ∧ k_ < hi5 := hk_; have b_ : lo4 ≤ k_ ∧ k_ < hi4 := hs_; have z1_ := OR1.out; have z2_ := OR2.out; have z3_ := OR3.out; have z4_ := OR4.out; have z5_ := OR5.out; have z6_ := OR6.out; have z7_ := OR7.out; have z8_ := OR8.out; omega)); have n5_ := Aside0.mk (Kd.R_kept (by (with_reducible repeat (first | apply Kd.R_alloc | apply Kd.R_drewN | apply Kd.R_drew)); exact HO256.out) hkp (fun k_ hk_ hs_ => by have a_ : lo6 ≤ k_ ∧ k_ < hi6 := hk_; have b_ : lo4 ≤ k_ ∧ k_ < hi4 := hs_; have z1_ := OR1.out; have z2_ := OR2.out; have z3_ := OR3.out; have z4_ := OR4.out; have z5_ := OR5.out; have z6_ := OR6.out; have z7_ := OR7.out; have z8_ := OR8.out; omega)); have n6_ := Aside0.mk (Kd.S_kept (by (with_reducible repeat (first | apply Kd.S_alloc | apply Kd.S_drewN | apply Kd.S_drew)); exact HO260.out) hkp (fun k_ hk_ hs_ => by have a_ : lo7 ≤ k_ ∧ k_ < hi7 := hk_; have b_ : lo4 ≤ k_ ∧ k_ < hi4 := hs_; have z1_ := OR1.out; have z2_ := OR2.out; have z3_ := OR3.out; have z4_ := OR4.out; have z5_ := OR5.out; have z6_ := OR6.out; have z7_ := OR7.out; have z8_ := OR8.out; omega)); have n7_ := Aside0.mk (Kd.S_kept (by (with_reducible repeat (first | apply Kd.S_alloc | apply Kd.S_drewN | apply Kd.S_drew)); exact HO264.out) hkp (fun k_ hk_ hs_ => by have a_ : lo8 ≤ k_ ∧ k_ < hi8 := hk_; have b_ : lo4 ≤ k_ ∧ k_ < hi4 := hs_; have z1_ := OR1.out; have z2_ := OR2.out; have z3_ := OR3.out; have z4_ := OR4.out; have z5_ := OR5.out; have z6_ := OR6.out; have z7_ := OR7.out; have z8_ := OR8.out; omega)); have n8_ := Aside0.mk (Nat.le_trans HTop.out hkp.1); have n9_ := Aside0.mk (hb); clear HO239; clear HO242; clear HO246; clear HO249; clear HO252; clear HO256; clear HO260; clear HO264; clear HTop; clear HB; have HO239 := n0_; have HO242 := n1_; have HO246 := n2_; have HO249 := n3_; have HO252 := n4_; have HO256 := n5_; have HO260 := n6_; have HO264 := n7_; have HTop := n8_; have HB := n9_; clear n0_ n1_ n2_ n3_ n4_ n5_ n6_ n7_ n8_ n9_; (try clear hb); (try clear hkp); (try clear hy0)) | ((with_reducible refine gate_callee (f := 19) rfl ?_); refine goesL_ (some 73) rfl rfl Try.func19 (by kernel_rfl) rfl #[.slice Ao49 t250.length co49, .int .i64 t266] rfl (by (try simp only [List.map_toArray, List.map_cons, List.map_nil]); first | done | rfl | (simp only [List.length_drop, List.length_take]; rfl)) ?_; (with_reducible refine (laws_markIntSS.calls k (fun k_ => lo5 ≤ k_ ∧ k_ < hi5) (.slice Ao49 t250.length co49) t250 t266 t268 t269 w _ ?side1 ?side2 A24.out).mono ?_); (case side1 => repeat (first | (with_reducible first | exact HB.out | apply below_alloc | apply pw_below_drewN | apply below_drew1) | exact HB.out)); (case side2 => exact by (with_reducible repeat (first | apply Kd.S_alloc | apply Kd.S_drewN | apply Kd.S_drew)); exact HO252.out); rintro e w58 ⟨rfl, hy0, hb, hkp⟩; refine ⟨_, rfl, ?_⟩; have n0_ := Aside0.mk (Kd.S_kept (by (with_reducible repeat (first | apply Kd.S_alloc | apply Kd.S_drewN | apply Kd.S_drew)); exact HO239.out) hkp (fun k_ hk_ hs_ => by have a_ : lo1 ≤ k_ ∧ k_ < hi1 := hk_; have b_ : lo5 ≤ k_ ∧ k_ < hi5 := hs_; have z1_ := OR1.out; have z2_ := OR2.out; have z3_ := OR3.out; have z4_ := OR4.out; have z5_ := OR5.out; have z6_ := OR6.out; have z7_ := OR7.out; have z8_ := OR8.out; omega)); have n1_ := Aside0.mk (Kd.S_kept (by (with_reducible repeat (first | apply Kd.S_alloc | apply Kd.S_drewN | apply Kd.S_drew)); exact HO242.out) hkp (fun k_ hk_ hs_ => by have a_ : lo2 ≤ k_ ∧ k_ < hi2 := hk_; have b_ : lo5 ≤ k_ ∧ k_ < hi5 := hs_; have z1_ := OR1.out; have z2_ := OR2.out; have z3_ := OR3.out; have z4_ := OR4.out; have z5_ := OR5.out; have z6_ := OR6.out; have z7_ := OR7.out; have z8_ := OR8.out; omega)); have n2_ := Aside0.mk (Kd.R_kept (by (with_reducible repeat (first | apply Kd.R_alloc | apply Kd.R_drewN | apply Kd.R_drew)); exact HO246.out) hkp (fun k_ hk_ hs_ => by have a_ : lo3 ≤ k_ ∧ k_ < hi3 := hk_; have b_ : lo5 ≤ k_ ∧ k_ < hi5 := hs_; have z1_ := OR1.out; have z2_ := OR2.out; have z3_ := OR3.out; have z4_ := OR4.out; have z5_ := OR5.out; have z6_ := OR6.out; have z7_ := OR7.out; have z8_ := OR8.out; omega)); have n3_ := Aside0.mk (Kd.S_kept (by (with_reducible repeat (first | apply Kd.S_alloc | apply Kd.S_drewN | apply Kd.S_drew)); exact HO249.out) hkp (fun k_ hk_ hs_ => by have a_ : lo4 ≤ k_ ∧ k_ < hi4 := hk_; have b_ : lo5 ≤ k_ ∧ k_ < hi5 := hs_; have z1_ := OR1.out; have z2_ := OR2.out; have z3_ := OR3.out; have z4_ := OR4.out; have z5_ := OR5.out; have z6_ := OR6.out; have z7_ := OR7.out; have z8_ := OR8.out; omega)); have n4_ := Aside0.mk (hy0); have n5_ := Aside0.mk (Kd.R_kept (by (with_reducible repeat (first | apply Kd.R_alloc | apply Kd.R_drewN | apply Kd.R_drew)); exact HO256.out) hkp (fun k_ hk_ hs_ => by have a_ : lo6 ≤ k_ ∧ k_ < hi6 := hk_; have b_ : lo5 ≤ k_ ∧ k_ < hi5 := hs_; have z1_ := OR1.out; have z2_ := OR2.out; have z3_ := OR3.out; have z4_ := OR4.out; have z5_ := OR5.out; have z6_ := OR6.out; have z7_ := OR7.out; have z8_ := OR8.out; omega)); have n6_ := Aside0.mk (Kd.S_kept (by (with_reducible repeat (first | apply Kd.S_alloc | apply Kd.S_drewN | apply Kd.S_drew)); exact HO260.out) hkp (fun k_ hk_ hs_ => by have a_ : lo7 ≤ k_ ∧ k_ < hi7 := hk_; have b_ : lo5 ≤ k_ ∧ k_ < hi5 := hs_; have z1_ := OR1.out; have z2_ := OR2.out; have z3_ := OR3.out; have z4_ := OR4.out; have z5_ := OR5.out; have z6_ := OR6.out; have z7_ := OR7.out; have z8_ := OR8.out; omega)); have n7_ := Aside0.mk (Kd.S_kept (by (with_reducible repeat (first | apply Kd.S_alloc | apply Kd.S_drewN | apply Kd.S_drew)); exact HO264.out) hkp (fun k_ hk_ hs_ => by have a_ : lo8 ≤ k_ ∧ k_ < hi8 := hk_; have b_ : lo5 ≤ k_ ∧ k_ < hi5 := hs_; have z1_ := OR1.out; have z2_ := OR2.out; have z3_ := OR3.out; have z4_ := OR4.out; have z5_ := OR5.out; have z6_ := OR6.out; have z7_ := OR7.out; have z8_ := OR8.out; omega)); have n8_ := Aside0.mk (Nat.le_trans HTop.out hkp.1); have n9_ := Aside0.mk (hb); clear HO239; clear HO242; clear HO246; clear HO249; clear HO252; clear HO256; clear HO260; clear HO264; clear HTop; clear HB; have HO239 := n0_; have HO242 := n1_; have HO246 := n2_; have HO249 := n3_; have HO252 := n4_; have HO256 := n5_; have HO260 := n6_; have HO264 := n7_; have HTop := n8_; have HB := n9_; clear n0_ n1_ n2_ n3_ n4_ n5_ n6_ n7_ n8_ n9_; (try clear hb); (try clear hkp); (try clear hy0)) | (go_at_call 18; (with_reducible refine (laws_eqIntS.calls k _ _ t253 _ _ t243 true _ ?side1 ?side2 ?side3 ?side4 A26.out).mono ?_); (case side1 => repeat (first | exact (Kd.R_reads' HO256.out).2.2 | (with_reducible refine Kd.C_alloc ?_ _) | (with_reducible refine Kd.C_drewN ?_ _) | (with_reducible refine Kd.C_drew ?_))); (case side2 => exact (Kd.R_reads' HO256.out).2.1); (case side3 => repeat (first | exact (Kd.R_reads' HO246.out).2.2 | (with_reducible refine Kd.C_alloc ?_ _) | (with_reducible refine Kd.C_drewN ?_ _) | (with_reducible refine Kd.C_drew ?_))); (case side4 => exact (Kd.R_reads' HO246.out).2.1); rintro e w' ⟨rfl, ⟨nd, rfl⟩⟩) | ((with_reducible refine gate_callee (f := 20) rfl ?_); refine goesL_ (some 89) rfl rfl Try.func20 (by kernel_rfl) rfl #[.slice Ao51 t253.length co51, .int .i64 1] rfl (by (try simp only [List.map_toArray, List.map_cons, List.map_nil]); first | done | rfl | (simp only [List.length_drop, List.length_take]; rfl)) ?_; (with_reducible refine (laws_markIntS.calls k (fun k_ => lo6 ≤ k_ ∧ k_ < hi6) (.slice Ao51 t253.length co51) t253 1 t271 t272 w _ ?side1 ?side2 A28.out).mono ?_); (case side1 => repeat (first | (with_reducible first | exact HB.out | apply below_alloc | apply pw_below_drewN | apply below_drew1) | exact HB.out)); (case side2 => exact by (with_reducible repeat (first | apply Kd.R_alloc | apply Kd.R_drewN | apply Kd.R_drew)); exact HO256.out); rintro e w59 ⟨rfl, hy0, hb, hkp⟩; refine ⟨_, rfl, ?_⟩; have n0_ := Aside0.mk (Kd.S_kept (by (with_reducible repeat (first | apply Kd.S_alloc | apply Kd.S_drewN | apply Kd.S_drew)); exact HO239.out) hkp (fun k_ hk_ hs_ => by have a_ : lo1 ≤ k_ ∧ k_ < hi1 := hk_; have b_ : lo6 ≤ k_ ∧ k_ < hi6 := hs_; have z1_ := OR1.out; have z2_ := OR2.out; have z3_ := OR3.out; have z4_ := OR4.out; have z5_ := OR5.out; have z6_ := OR6.out; have z7_ := OR7.out; have z8_ := OR8.out; omega)); have n1_ := Aside0.mk (Kd.S_kept (by (with_reducible repeat (first | apply Kd.S_alloc | apply Kd.S_drewN | apply Kd.S_drew)); exact HO242.out) hkp (fun k_ hk_ hs_ => by have a_ : lo2 ≤ k_ ∧ k_ < hi2 := hk_; have b_ : lo6 ≤ k_ ∧ k_ < hi6 := hs_; have z1_ := OR1.out; have z2_ := OR2.out; have z3_ := OR3.out; have z4_ := OR4.out; have z5_ := OR5.out; have z6_ := OR6.out; have z7_ := OR7.out; have z8_ := OR8.out; omega)); have n2_ := Aside0.mk (Kd.R_kept (by (with_reducible repeat (first | apply Kd.R_alloc | apply Kd.R_drewN | apply Kd.R_drew)); exact HO246.out) hkp (fun k_ hk_ hs_ => by have a_ : lo3 ≤ k_ ∧ k_ < hi3 := hk_; have b_ : lo6 ≤ k_ ∧ k_ < hi6 := hs_; have z1_ := OR1.out; have z2_ := OR2.out; have z3_ := OR3.out; have z4_ := OR4.out; have z5_ := OR5.out; have z6_ := OR6.out; have z7_ := OR7.out; have z8_ := OR8.out; omega)); have n3_ := Aside0.mk (Kd.S_kept (by (with_reducible repeat (first | apply Kd.S_alloc | apply Kd.S_drewN | apply Kd.S_drew)); exact HO249.out) hkp (fun k_ hk_ hs_ => by have a_ : lo4 ≤ k_ ∧ k_ < hi4 := hk_; have b_ : lo6 ≤ k_ ∧ k_ < hi6 := hs_; have z1_ := OR1.out; have z2_ := OR2.out; have z3_ := OR3.out; have z4_ := OR4.out; have z5_ := OR5.out; have z6_ := OR6.out; have z7_ := OR7.out; have z8_ := OR8.out; omega)); have n4_ := Aside0.mk (Kd.S_kept (by (with_reducible repeat (first | apply Kd.S_alloc | apply Kd.S_drewN | apply Kd.S_drew)); exact HO252.out) hkp (fun k_ hk_ hs_ => by have a_ : lo5 ≤ k_ ∧ k_ < hi5 := hk_; have b_ : lo6 ≤ k_ ∧ k_ < hi6 := hs_; have z1_ := OR1.out; have z2_ := OR2.out; have z3_ := OR3.out; have z4_ := OR4.out; have z5_ := OR5.out; have z6_ := OR6.out; have z7_ := OR7.out; have z8_ := OR8.out; omega)); have n5_ := Aside0.mk (Kd.R_reok rfl hy0 (fun k_ e_ => HO256.out.1 k_ e_)); have n6_ := Aside0.mk (Kd.S_kept (by (with_reducible repeat (first | apply Kd.S_alloc | apply Kd.S_drewN | apply Kd.S_drew)); exact HO260.out) hkp (fun k_ hk_ hs_ => by have a_ : lo7 ≤ k_ ∧ k_ < hi7 := hk_; have b_ : lo6 ≤ k_ ∧ k_ < hi6 := hs_; have z1_ := OR1.out; have z2_ := OR2.out; have z3_ := OR3.out; have z4_ := OR4.out; have z5_ := OR5.out; have z6_ := OR6.out; have z7_ := OR7.out; have z8_ := OR8.out; omega)); have n7_ := Aside0.mk (Kd.S_kept (by (with_reducible repeat (first | apply Kd.S_alloc | apply Kd.S_drewN | apply Kd.S_drew)); exact HO264.out) hkp (fun k_ hk_ hs_ => by have a_ : lo8 ≤ k_ ∧ k_ < hi8 := hk_; have b_ : lo6 ≤ k_ ∧ k_ < hi6 := hs_; have z1_ := OR1.out; have z2_ := OR2.out; have z3_ := OR3.out; have z4_ := OR4.out; have z5_ := OR5.out; have z6_ := OR6.out; have z7_ := OR7.out; have z8_ := OR8.out; omega)); have n8_ := Aside0.mk (Nat.le_trans HTop.out hkp.1); have n9_ := Aside0.mk (hb); clear HO239; clear HO242; clear HO246; clear HO249; clear HO252; clear HO256; clear HO260; clear HO264; clear HTop; clear HB; have HO239 := n0_; have HO242 := n1_; have HO246 := n2_; have HO249 := n3_; have HO252 := n4_; have HO256 := n5_; have HO260 := n6_; have HO264 := n7_; have HTop := n8_; have HB := n9_; clear n0_ n1_ n2_ n3_ n4_ n5_ n6_ n7_ n8_ n9_; (try clear hb); (try clear hkp); (try clear hy0)) | ((with_reducible refine gate_callee (f := 21) rfl ?_); refine goesL_ (some 92) rfl rfl Try.func21 (by kernel_rfl) rfl #[.slice Ao51 t272.length co51, .int .i64 1] rfl (by (try simp only [List.map_toArray, List.map_cons, List.map_nil]); first | done | (rw [show t272.length = t253.length from (Kd.R_reads' HO256.out).1.symm] <;> rfl) | rfl | (simp only [List.length_drop, List.length_take]; rfl)) ?_; (with_reducible refine (laws_heldIntS.calls k _ _ t272 1 t273 _ ?side1 ?side2 A29.out).mono ?_); (case side1 => repeat (first | exact (Kd.R_reads' HO256.out).2.2 | (with_reducible refine Kd.C_alloc ?_ _) | (with_reducible refine Kd.C_drewN ?_ _) | (with_reducible refine Kd.C_drew ?_))); (case side2 => rw [show t272.length = t253.length from (Kd.R_reads' HO256.out).1.symm]; exact (Kd.R_reads' HO256.out).2.1); rintro e w' ⟨rfl, ⟨nd, rfl⟩⟩; refine ⟨_, rfl, ?_⟩) | ((with_reducible refine gate_callee (f := 13) rfl ?_); refine goesL_ (some 101) rfl rfl Try.func13 (by kernel_rfl) rfl #[.slice A1 l1.length c1] rfl (by (try simp only [List.map_toArray, List.map_cons, List.map_nil]); first | done | rfl | (simp only [List.length_drop, List.length_take]; rfl)) ?_; (with_reducible refine (laws_toIntSS.calls k _ _ l1 t274 _ ?side1 ?side2 A32.out).mono ?_); (case side1 => repeat (first | exact (Kd.C_below HR1.out (by repeat (first | (with_reducible first | exact HB.out | apply below_alloc | apply pw_below_drewN | apply below_drew1) | exact HB.out))) | (with_reducible refine Kd.C_alloc ?_ _) | (with_reducible refine Kd.C_drewN ?_ _) | (with_reducible refine Kd.C_drew ?_))); (case side2 => exact HC1.out); rintro e w60 ⟨v275, rfl, ho0, hb⟩; refine ⟨_, rfl, ?_⟩; obtain ⟨lo9, hi9, EL9, EH9, LE9⟩ := iv_ hb; have OR9 := Aside0.mk (show hi8 ≤ lo9 ∧ lo9 ≤ hi9 from ⟨Nat.le_trans HTop.out (Nat.le_of_eq EL9), LE9⟩); have n0_ := Aside0.mk (Kd.S_below (by (with_reducible repeat (first | apply Kd.S_alloc | apply Kd.S_drewN | apply Kd.S_drew)); exact HO239.out) hb); have n1_ := Aside0.mk (Kd.S_below (by (with_reducible repeat (first | apply Kd.S_alloc | apply Kd.S_drewN | apply Kd.S_drew)); exact HO242.out) hb); have n2_ := Aside0.mk (Kd.R_below (by (with_reducible repeat (first | apply Kd.R_alloc | apply Kd.R_drewN | apply Kd.R_drew)); exact HO246.out) hb); have n3_ := Aside0.mk (Kd.S_below (by (with_reducible repeat (first | apply Kd.S_alloc | apply Kd.S_drewN | apply Kd.S_drew)); exact HO249.out) hb); have n4_ := Aside0.mk (Kd.S_below (by (with_reducible repeat (first | apply Kd.S_alloc | apply Kd.S_drewN | apply Kd.S_drew)); exact HO252.out) hb); have n5_ := Aside0.mk (Kd.R_below (by (with_reducible repeat (first | apply Kd.R_alloc | apply Kd.R_drewN | apply Kd.R_drew)); exact HO256.out) hb); have n6_ := Aside0.mk (Kd.S_below (by (with_reducible repeat (first | apply Kd.S_alloc | apply Kd.S_drewN | apply Kd.S_drew)); exact HO260.out) hb); have n7_ := Aside0.mk (Kd.S_below (by (with_reducible repeat (first | apply Kd.S_alloc | apply Kd.S_drewN | apply Kd.S_drew)); exact HO264.out) hb); have n8_ := Aside0.mk (Kd.S_mono (ok' := fun k_ => lo9 ≤ k_ ∧ k_ < hi9) (Kd.S_lower (Kd.S_bound ho0) (below_size (by repeat (first | (with_reducible first | exact HB.out | apply below_alloc | apply pw_below_drewN | apply below_drew1) | exact HB.out)))) (fun k_ hk_ => by have a_ := hk_.2.1; have b_ := hk_.2.2.1; omega)); have n9_ := Aside0.mk (Nat.le_of_eq EH9.symm); have n10_ := Aside0.mk (below_step (by repeat (first | (with_reducible first | exact HB.out | apply below_alloc | apply pw_below_drewN | apply below_drew1) | exact HB.out)) hb); clear HO239; clear HO242; clear HO246; clear HO249; clear HO252; clear HO256; clear HO260; clear HO264; clear HTop; clear HB; have HO239 := n0_; have HO242 := n1_; have HO246 := n2_; have HO249 := n3_; have HO252 := n4_; have HO256 := n5_; have HO260 := n6_; have HO264 := n7_; have HO276 := n8_; have HTop := n9_; have HB := n10_; clear n0_ n1_ n2_ n3_ n4_ n5_ n6_ n7_ n8_ n9_ n10_; (try clear hb); (try clear hb2); (try clear hk); (try clear hi); (try clear ho0); (try clear EL9); (try clear EH9); (try clear LE9)) | ((with_reducible refine gate_callee (f := 13) rfl ?_); refine goesL_ (some 103) rfl rfl Try.func13 (by kernel_rfl) rfl #[.slice A2 l2.length c2] rfl (by (try simp only [List.map_toArray, List.map_cons, List.map_nil]); first | done | rfl | (simp only [List.length_drop, List.length_take]; rfl)) ?_; (with_reducible refine (laws_toIntSS.calls k _ _ l2 t277 _ ?side1 ?side2 A33.out).mono ?_); (case side1 => repeat (first | exact (Kd.C_below HR2.out HB.out) | (with_reducible refine Kd.C_alloc ?_ _) | (with_reducible refine Kd.C_drewN ?_ _) | (with_reducible refine Kd.C_drew ?_))); (case side2 => exact HC2.out); rintro e w61 ⟨v278, rfl, ho0, hb⟩; refine ⟨_, rfl, ?_⟩; obtain ⟨lo10, hi10, EL10, EH10, LE10⟩ := iv_ hb; have OR10 := Aside0.mk (show hi9 ≤ lo10 ∧ lo10 ≤ hi10 from ⟨Nat.le_trans HTop.out (Nat.le_of_eq EL10), LE10⟩); have n0_ := Aside0.mk (Kd.S_below (by (with_reducible repeat (first | apply Kd.S_alloc | apply Kd.S_drewN | apply Kd.S_drew)); exact HO239.out) hb); have n1_ := Aside0.mk (Kd.S_below (by (with_reducible repeat (first | apply Kd.S_alloc | apply Kd.S_drewN | apply Kd.S_drew)); exact HO242.out) hb); have n2_ := Aside0.mk (Kd.R_below (by (with_reducible repeat (first | apply Kd.R_alloc | apply Kd.R_drewN | apply Kd.R_drew)); exact HO246.out) hb); have n3_ := Aside0.mk (Kd.S_below (by (with_reducible repeat (first | apply Kd.S_alloc | apply Kd.S_drewN | apply Kd.S_drew)); exact HO249.out) hb); have n4_ := Aside0.mk (Kd.S_below (by (with_reducible repeat (first | apply Kd.S_alloc | apply Kd.S_drewN | apply Kd.S_drew)); exact HO252.out) hb); have n5_ := Aside0.mk (Kd.R_below (by (with_reducible repeat (first | apply Kd.R_alloc | apply Kd.R_drewN | apply Kd.R_drew)); exact HO256.out) hb); have n6_ := Aside0.mk (Kd.S_below (by (with_reducible repeat (first | apply Kd.S_alloc | apply Kd.S_drewN | apply Kd.S_drew)); exact HO260.out) hb); have n7_ := Aside0.mk (Kd.S_below (by (with_reducible repeat (first | apply Kd.S_alloc | apply Kd.S_drewN | apply Kd.S_drew)); exact HO264.out) hb); have n8_ := Aside0.mk (Kd.S_below (by (with_reducible repeat (first | apply Kd.S_alloc | apply Kd.S_drewN | apply Kd.S_drew)); exact HO276.out) hb); have n9_ := Aside0.mk (Kd.S_mono (ok' := fun k_ => lo10 ≤ k_ ∧ k_ < hi10) (Kd.S_lower (Kd.S_bound ho0) (below_size (by repeat (first | (with_reducible first | exact HB.out | apply below_alloc | apply pw_below_drewN | apply below_drew1) | exact HB.out)))) (fun k_ hk_ => by have a_ := hk_.2.1; have b_ := hk_.2.2.1; omega)); have n10_ := Aside0.mk (Nat.le_of_eq EH10.symm); have n11_ := Aside0.mk (below_step (by repeat (first | (with_reducible first | exact HB.out | apply below_alloc | apply pw_below_drewN | apply below_drew1) | exact HB.out)) hb); clear HO239; clear HO242; clear HO246; clear HO249; clear HO252; clear HO256; clear HO260; clear HO264; clear HO276; clear HTop; clear HB; have HO239 := n0_; have HO242 := n1_; have HO246 := n2_; have HO249 := n3_; have HO252 := n4_; have HO256 := n5_; have HO260 := n6_; have HO264 := n7_; have HO276 := n8_; have HO279 := n9_; have HTop := n10_; have HB := n11_; clear n0_ n1_ n2_ n3_ n4_ n5_ n6_ n7_ n8_ n9_ n10_ n11_; (try clear hb); (try clear hb2); (try clear hk); (try clear hi); (try clear ho0); (try clear EL10); (try clear EH10); (try clear LE10); obtain ⟨Ao62, co62, eo62⟩ := Kd.S_slice HO276.out; subst eo62; obtain ⟨Ao63, co63, eo63⟩ := Kd.S_slice HO279.out; subst eo63) | ((with_reducible refine gate_callee (f := 17) rfl ?_); refine goesL_ (some 104) rfl rfl Try.func17 (by kernel_rfl) rfl #[.int .i64 a0, .slice Ao62 t274.length co62, .slice Ao63 t277.length co63] rfl (by (try simp only [List.map_toArray, List.map_cons, List.map_nil]); first | done | rfl | (simp only [List.length_drop, List.length_take]; rfl)) ?_; (with_reducible refine (impl_NeededIn.calls k a0 _ _ t274 _ _ t277 t280 t281 _ ?side1 ?side2 ?side3 ?side4 A34.out).mono ?_); (case side1 => repeat (first | exact (Kd.S_reads' HO276.out).2.2 | (with_reducible refine Kd.C_alloc ?_ _) | (with_reducible refine Kd.C_drewN ?_ _) | (with_reducible refine Kd.C_drew ?_))); (case side2 => exact (Kd.S_reads' HO276.out).2.1); (case side3 => repeat (first | exact (Kd.S_reads' HO279.out).2.2 | (with_reducible refine Kd.C_alloc ?_ _) | (with_reducible refine Kd.C_drewN ?_ _) | (with_reducible refine Kd.C_drew ?_))); (case side4 => exact (Kd.S_reads' HO279.out).2.1); rintro e w64 ⟨v282, rfl, ho0, hb⟩; refine ⟨_, rfl, ?_⟩; obtain ⟨lo11, hi11, EL11, EH11, LE11⟩ := iv_ hb; have OR11 := Aside0.mk (show hi10 ≤ lo11 ∧ lo11 ≤ hi11 from ⟨Nat.le_trans HTop.out (Nat.le_of_eq EL11), LE11⟩); have n0_ := Aside0.mk (Kd.S_below (by (with_reducible repeat (first | apply Kd.S_alloc | apply Kd.S_drewN | apply Kd.S_drew)); exact HO239.out) hb); have n1_ := Aside0.mk (Kd.S_below (by (with_reducible repeat (first | apply Kd.S_alloc | apply Kd.S_drewN | apply Kd.S_drew)); exact HO242.out) hb); have n2_ := Aside0.mk (Kd.R_below (by (with_reducible repeat (first | apply Kd.R_alloc | apply Kd.R_drewN | apply Kd.R_drew)); exact HO246.out) hb); have n3_ := Aside0.mk (Kd.S_below (by (with_reducible repeat (first | apply Kd.S_alloc | apply Kd.S_drewN | apply Kd.S_drew)); exact HO249.out) hb); have n4_ := Aside0.mk (Kd.S_below (by (with_reducible repeat (first | apply Kd.S_alloc | apply Kd.S_drewN | apply Kd.S_drew)); exact HO252.out) hb); have n5_ := Aside0.mk (Kd.R_below (by (with_reducible repeat (first | apply Kd.R_alloc | apply Kd.R_drewN | apply Kd.R_drew)); exact HO256.out) hb); have n6_ := Aside0.mk (Kd.S_below (by (with_reducible repeat (first | apply Kd.S_alloc | apply Kd.S_drewN | apply Kd.S_drew)); exact HO260.out) hb); have n7_ := Aside0.mk (Kd.S_below (by (with_reducible repeat (first | apply Kd.S_alloc | apply Kd.S_drewN | apply Kd.S_drew)); exact HO264.out) hb); have n8_ := Aside0.mk (Kd.S_below (by (with_reducible repeat (first | apply Kd.S_alloc | apply Kd.S_drewN | apply Kd.S_drew)); exact HO276.out) hb); have n9_ := Aside0.mk (Kd.S_below (by (with_reducible repeat (first | apply Kd.S_alloc | apply Kd.S_drewN | apply Kd.S_drew)); exact HO279.out) hb); have n10_ := Aside0.mk (Kd.R_mono (ok' := fun k_ => lo11 ≤ k_ ∧ k_ < hi11) (Kd.R_lower (Kd.R_bound ho0) (below_size (by repeat (first | (with_reducible first | exact HB.out | apply below_alloc | apply pw_below_drewN | apply below_drew1) | exact HB.out)))) (fun k_ hk_ => by have a_ := hk_.2.1; have b_ := hk_.2.2.1; omega)); have n11_ := Aside0.mk (Nat.le_of_eq EH11.symm); have n12_ := Aside0.mk (below_step (by repeat (first | (with_reducible first | exact HB.out | apply below_alloc | apply pw_below_drewN | apply below_drew1) | exact HB.out)) hb); clear HO239; clear HO242; clear HO246; clear HO249; clear HO252; clear HO256; clear HO260; clear HO264; clear HO276; clear HO279; clear HTop; clear HB; have HO239 := n0_; have HO242 := n1_; have HO246 := n2_; have HO249 := n3_; have HO252 := n4_; have HO256 := n5_; have HO260 := n6_; have HO264 := n7_; have HO276 := n8_; have HO279 := n9_; have HO283 := n10_; have HTop := n11_; have HB := n12_; clear n0_ n1_ n2_ n3_ n4_ n5_ n6_ n7_ n8_ n9_ n10_ n11_ n12_; (try clear hb); (try clear hb2); (try clear hk); (try clear hi); (try clear ho0); (try clear EL11); (try clear EH11); (try clear LE11); obtain ⟨Ao65, co65, eo65⟩ := Kd.R_slice HO283.out; subst eo65) | ((with_reducible refine gate_callee (f := 18) rfl ?_); refine goesL_ (some 109) rfl rfl Try.func18 (by kernel_rfl) rfl #[.slice Ao65 t280.length co65, .slice Ao52 t243.length co52] rfl (by (try simp only [List.map_toArray, List.map_cons, List.map_nil]); first | done | rfl | (simp only [List.length_drop, List.length_take]; rfl)) ?_; (with_reducible refine (laws_eqIntS.calls k _ _ t280 _ _ t243 true _ ?side1 ?side2 ?side3 ?side4 A35.out).mono ?_); (case side1 => repeat (first | exact (Kd.R_reads' HO283.out).2.2 | (with_reducible refine Kd.C_alloc ?_ _) | (with_reducible refine Kd.C_drewN ?_ _) | (with_reducible refine Kd.C_drew ?_))); (case side2 => exact (Kd.R_reads' HO283.out).2.1); (case side3 => repeat (first | exact (Kd.R_reads' HO246.out).2.2 | (with_reducible refine Kd.C_alloc ?_ _) | (with_reducible refine Kd.C_drewN ?_ _) | (with_reducible refine Kd.C_drew ?_))); (case side4 => exact (Kd.R_reads' HO246.out).2.1); rintro e w' ⟨rfl, ⟨nd, rfl⟩⟩; refine ⟨_, rfl, ?_⟩) | ((with_reducible refine gate_callee (f := 21) rfl ?_); refine goesL_ (some 118) rfl rfl Try.func21 (by kernel_rfl) rfl #[.slice Ao51 t272.length co51, .int .i64 1] rfl (by (try simp only [List.map_toArray, List.map_cons, List.map_nil]); first | done | (rw [show t272.length = t253.length from (Kd.R_reads' HO256.out).1.symm] <;> rfl) | rfl | (simp only [List.length_drop, List.length_take]; rfl)) ?_; (with_reducible refine (laws_heldIntS.calls k _ _ t272 1 t285 _ ?side1 ?side2 A38.out).mono ?_); (case side1 => repeat (first | exact (Kd.R_reads' HO256.out).2.2 | (with_reducible refine Kd.C_alloc ?_ _) | (with_reducible refine Kd.C_drewN ?_ _) | (with_reducible refine Kd.C_drew ?_))); (case side2 => rw [show t272.length = t253.length from (Kd.R_reads' HO256.out).1.symm]; exact (Kd.R_reads' HO256.out).2.1); rintro e w' ⟨rfl, ⟨nd, rfl⟩⟩; refine ⟨_, rfl, ?_⟩))
                              go_ret
                              exact ⟨by first | rfl | (simp [errW_none, errW_some] <;> rfl) | (simp [*, errW_none, errW_some] <;> rfl), by repeat (first | (with_reducible first | exact HB.out | apply below_alloc | apply pw_below_drewN | apply below_drew1) | exact HB.out)⟩
                            · rw [if_neg c40] at H
                              exact absurd H (by simp)
                      · replace c36 := Bool.eq_false_iff.mpr c36
                        subst c36
                        have H1 : (none) = some r := by rw [if_neg (show ¬ (false = true) by decide)] at H; exact H
                        clear H
                        have H := H1
                        clear H1
                        exact absurd H (by simp)
                    · rw [if_neg c31] at H
                      exact absurd H (by simp)
                · replace c27 := Bool.eq_false_iff.mpr c27
                  subst c27
                  have H1 : (none) = some r := by rw [if_neg (show ¬ (false = true) by decide)] at H; exact H
                  clear H
                  have H := H1
                  clear H1
                  exact absurd H (by simp)
            · replace c22 := Bool.eq_false_iff.mpr c22
              subst c22
              have H1 : (none) = some r := by rw [if_neg (show ¬ (false = true) by decide)] at H; exact H
              clear H
              have H := H1
              clear H1
              exact absurd H (by simp)
          · replace c19 := Bool.eq_false_iff.mpr c19
            subst c19
            have H1 : (none) = some r := by rw [if_neg (show ¬ (false = true) by decide)] at H; exact H
            clear H
            have H := H1
            clear H1
            exact absurd H (by simp)
      · replace c15 := Bool.eq_false_iff.mpr c15
        subst c15
        have H1 : (none) = some r := by rw [if_neg (show ¬ (false = true) by decide)] at H; exact H
        clear H
        have H := H1
        clear H1
        exact absurd H (by simp)

/-- The one pure statement of laws_FnExactNeededIn. -/
def laws_FnExactNeededIn.Pure : Prop := ∀ (a0 : Int) (l1 : List (List Int)) (l2 : List (List Int)), (Lit.int .i64 a0).wf = true → (l1.length ≤ maxLen ∧ ∀ y_ ∈ l1, (y_.length ≤ maxLen ∧ ∀ z_ ∈ y_, (Lit.int .i64 z_).wf = true)) → (l2.length ≤ maxLen ∧ ∀ y_ ∈ l2, (y_.length ≤ maxLen ∧ ∀ z_ ∈ y_, (Lit.int .i64 z_).wf = true)) → ∃ k, laws_FnExactNeededIn.f k a0 l1 l2 = some true
theorem laws_FnExactNeededIn.walk : True := trivial

end Go.Proofs.Ytafffpbagdoniaa.PFnExactNeededIn
