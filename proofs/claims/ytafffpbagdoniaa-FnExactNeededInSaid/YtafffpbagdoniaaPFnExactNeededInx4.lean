-- Made by a program of this session (wip/tools), which leans on the kit's print: checked by Lean alone.
import Derived.Test.YtafffpbagdoniaaPFnExactNeededInx0
import Derived.Test.YtafffpbagdoniaaPFnExactNeededInx2
import Derived.Test.YtafffpbagdoniaaPFnExactNeededInx3
namespace Go.Proofs.Ytafffpbagdoniaa.PFnExactNeededIn
open Go.RowKit Go.Proofs.YtafffpbagdoniaaW.PrintWords Go.Proofs.YtafffpbagdoniaaW.PrintLast Go.Proofs.YtafffpbagdoniaaW.PrintMore
attribute [local go_sem] max2_int min2_int max_two min_two max_three min_three max_four min_four   -- for this text's walks alone
set_option linter.unusedVariables false
set_option linter.unusedSimpArgs false

/-! ### spec_NeededIn: function 16 -/
mutual
def spec_NeededIn.l0 : Nat → List (List Int) → List (List Int) → List Bool → Int → Option (List Int × Bool)
  | 0, _, _, _, _ => none
  | k + 1, x1, x2, x8, x11 => if x11 ≥ 0 then (if 0 ≤ x11 then (if x11 < (x8.length : Int) then ((some (x8.set (x11 : Int).toNat true : List Bool)).bind fun y186 => ((spec_l6Check.f k x1 x2 y186).bind fun bt187 => (if bt187.1 = true then (spec_NeededIn.l0 k x1 x2 y186 (wrap64 (x11 - 1))) else (spec_NeededIn.l0 k x1 x2 (y186.set (x11 : Int).toNat false) (wrap64 (x11 - 1)))))) else (none)) else (none)) else (spec_NeededIn.l1 k ([] : List Int) x8 (x8.length : Int) 0)
def spec_NeededIn.l1 : Nat → List Int → List Bool → Int → Int → Option (List Int × Bool)
  | 0, _, _, _, _ => none
  | k + 1, x14, x56, x57, x58 => if x58 < x57 then (if 0 ≤ x58 then (if x58 < (x56.length : Int) then (if rdOf false x56 x58 = true then (spec_NeededIn.l1 k x14 x56 x57 (wrap64 (x58 + 1))) else (if x14.length < 17592186044416 then (spec_NeededIn.l1 k (x14 ++ [x58]) x56 x57 (wrap64 (x58 + 1))) else (none))) else (none)) else (none)) else (some (x14, true))
end
def spec_NeededIn.f (k : Nat) (a0 : Int) (l1 : List (List Int)) (l2 : List (List Int)) : Option (List Int × Bool) := (spec_l6Good.f k a0 l1 l2).bind fun t180 => (if t180 = true then (if 0 ≤ (l2.length : Int) then (if ((l2.length : Int) : Int).toNat ≤ 281474976710656 then ((some (List.replicate ((l2.length : Int) : Int).toNat false : List Bool)).bind fun y181 => ((spec_l6Check.f k l1 l2 y181).bind fun bt184 => (if bt184.1 = true then (spec_NeededIn.l0 k l1 l2 y181 (wrap64 ((l2.length : Int) - 2))) else (some (([] : List Int), false))))) else (none)) else (none)) else (some (([] : List Int), false)))
theorem spec_NeededIn.mono_l : ∀ k, (∀ y0 y1 y2 y3, LeO (spec_NeededIn.l0 k y0 y1 y2 y3) (spec_NeededIn.l0 (k + 1) y0 y1 y2 y3)) ∧ (∀ y0 y1 y2 y3, LeO (spec_NeededIn.l1 k y0 y1 y2 y3) (spec_NeededIn.l1 (k + 1) y0 y1 y2 y3))
  | 0 => ⟨fun _ _ _ _ r h => by simp [spec_NeededIn.l0] at h, fun _ _ _ _ r h => by simp [spec_NeededIn.l1] at h⟩
  | k + 1 => by
    obtain ⟨ih0, ih1⟩ := spec_NeededIn.mono_l k
    refine ⟨?_, ?_⟩
    · intro y0 y1 y2 y3
      unfold spec_NeededIn.l0
      repeat' first
      | (with_reducible exact ih0 _ _ _ _)
      | (with_reducible exact ih1 _ _ _ _)
      | (with_reducible exact spec_l6Check.mono _ _ _ _)
      | (with_reducible exact spec_l6Good.mono _ _ _ _)
      | (with_reducible exact LeO.refl _)
      | (with_reducible exact LeO.none _)
      | (with_reducible refine LeO.ite ?_ ?_)
      | (with_reducible refine LeO.bind ?_ (fun _ => ?_))
      | exact ih0 _ _ _ _
      | exact ih1 _ _ _ _
      | exact spec_l6Check.mono _ _ _ _
      | exact spec_l6Good.mono _ _ _ _
      | exact LeO.none _
      | refine LeO.ite ?_ ?_
      | refine LeO.bind ?_ (fun _ => ?_)
    · intro y0 y1 y2 y3
      unfold spec_NeededIn.l1
      repeat' first
      | (with_reducible exact ih0 _ _ _ _)
      | (with_reducible exact ih1 _ _ _ _)
      | (with_reducible exact spec_l6Check.mono _ _ _ _)
      | (with_reducible exact spec_l6Good.mono _ _ _ _)
      | (with_reducible exact LeO.refl _)
      | (with_reducible exact LeO.none _)
      | (with_reducible refine LeO.ite ?_ ?_)
      | (with_reducible refine LeO.bind ?_ (fun _ => ?_))
      | exact ih0 _ _ _ _
      | exact ih1 _ _ _ _
      | exact spec_l6Check.mono _ _ _ _
      | exact spec_l6Good.mono _ _ _ _
      | exact LeO.none _
      | refine LeO.ite ?_ ?_
      | refine LeO.bind ?_ (fun _ => ?_)
theorem spec_NeededIn.mono : ∀ a0 a1 a2 k, LeO (spec_NeededIn.f k a0 a1 a2) (spec_NeededIn.f (k + 1) a0 a1 a2) := by
  intro a0 a1 a2 k
  obtain ⟨ih0, ih1⟩ := spec_NeededIn.mono_l k
  unfold spec_NeededIn.f
  repeat' first
      | (with_reducible exact ih0 _ _ _ _)
      | (with_reducible exact ih1 _ _ _ _)
      | (with_reducible exact spec_l6Check.mono _ _ _ _)
      | (with_reducible exact spec_l6Good.mono _ _ _ _)
      | (with_reducible exact LeO.refl _)
      | (with_reducible exact LeO.none _)
      | (with_reducible refine LeO.ite ?_ ?_)
      | (with_reducible refine LeO.bind ?_ (fun _ => ?_))
      | exact ih0 _ _ _ _
      | exact ih1 _ _ _ _
      | exact spec_l6Check.mono _ _ _ _
      | exact spec_l6Good.mono _ _ _ _
      | exact LeO.none _
      | refine LeO.ite ?_ ?_
      | refine LeO.bind ?_ (fun _ => ?_)
set_option maxHeartbeats 8000000 in
set_option maxRecDepth 100000 in
theorem spec_NeededIn.calls (k : Nat) (a0 : Int) (A1 : Option Addr) (c1 : Nat) (l1 : List (List Int)) (A2 : Option Addr) (c2 : Nat) (l2 : List (List Int)) (r1 : List Int) (r2 : Bool) (w : World) (hr1 : Kd.C (Kd.slice 3 (Kd.int .i64)) w A1 l1.length l1) (hc1 : l1.length ≤ c1) (hr2 : Kd.C (Kd.slice 3 (Kd.int .i64)) w A2 l2.length l2) (hc2 : l2.length ≤ c2) (h : spec_NeededIn.f k a0 l1 l2 = some (r1, r2)) :
    Calls Try.prog 16 #[.int .i64 a0, .slice A1 l1.length c1, .slice A2 l2.length c2] w fun e w' => ∃ v0_ : Value, e = .returned (.tuple #[v0_, .bool r2]) ∧ Kd.R (Kd.int .i64) 3 w' w.heap.size (fun _ => True) v0_ r1 ∧ Below w.heap.size w w' := by
  have HR1 := Aside0.mk hr1
  have HC1 := Aside0.mk hc1
  clear hr1 hc1
  have HR2 := Aside0.mk hr2
  have HC2 := Aside0.mk hc2
  clear hr2 hc2
  have HB := Aside0.mk (Below.refl w.heap.size w)
  have H : ((spec_l6Good.f k a0 l1 l2).bind fun t180 => (if t180 = true then (if 0 ≤ (l2.length : Int) then (if ((l2.length : Int) : Int).toNat ≤ 281474976710656 then ((some (List.replicate ((l2.length : Int) : Int).toNat false : List Bool)).bind fun y181 => ((spec_l6Check.f k l1 l2 y181).bind fun bt184 => (if bt184.1 = true then (spec_NeededIn.l0 k l1 l2 y181 (wrap64 ((l2.length : Int) - 2))) else (some (([] : List Int), false))))) else (none)) else (none)) else (some (([] : List Int), false)))) = some (r1, r2) := h
  clear h
  replace H := Option.bind_eq_some_iff.mp H
  obtain ⟨t180, A40, H⟩ := H
  replace H : (if t180 = true then (if 0 ≤ (l2.length : Int) then (if ((l2.length : Int) : Int).toNat ≤ 281474976710656 then ((some (List.replicate ((l2.length : Int) : Int).toNat false : List Bool)).bind fun y181 => ((spec_l6Check.f k l1 l2 y181).bind fun bt184 => (if bt184.1 = true then (spec_NeededIn.l0 k l1 l2 y181 (wrap64 ((l2.length : Int) - 2))) else (some (([] : List Int), false))))) else (none)) else (none)) else (some (([] : List Int), false))) = some (r1, r2) := H
  have A4 := Aside0.mk A40
  clear A40
  by_cases c5 : t180 = true
  · subst c5
    have H1 : (if 0 ≤ (l2.length : Int) then (if ((l2.length : Int) : Int).toNat ≤ 281474976710656 then ((some (List.replicate ((l2.length : Int) : Int).toNat false : List Bool)).bind fun y181 => ((spec_l6Check.f k l1 l2 y181).bind fun bt184 => (if bt184.1 = true then (spec_NeededIn.l0 k l1 l2 y181 (wrap64 ((l2.length : Int) - 2))) else (some (([] : List Int), false))))) else (none)) else (none)) = some (r1, r2) := by rw [if_pos rfl] at H; exact H
    clear H
    have H := H1
    clear H1
    by_cases c6 : 0 ≤ (l2.length : Int)
    · rw [if_pos c6] at H
      have c6b0 := eq_true c6
      have c6b1 : decide (0 ≤ (l2.length : Int)) = true := decide_eq_true c6
      clear c6
      by_cases c7 : ((l2.length : Int) : Int).toNat ≤ 281474976710656
      · rw [if_pos c7] at H
        have c7b0 := eq_true c7
        have c7b1 : decide (((l2.length : Int) : Int).toNat ≤ 281474976710656) = true := decide_eq_true c7
        clear c7
        obtain ⟨y181, hy181⟩ : ∃ y_ : List Bool, y_ = (List.replicate ((l2.length : Int) : Int).toNat false) := ⟨_, rfl⟩
        replace H : ((spec_l6Check.f k l1 l2 y181).bind fun bt184 => (if bt184.1 = true then (spec_NeededIn.l0 k l1 l2 y181 (wrap64 ((l2.length : Int) - 2))) else (some (([] : List Int), false)))) = some (r1, r2) := by first | (rw [hy181]; with_reducible exact H) | (have H2_ := (Option.bind_some _ _).symm.trans H; rw [hy181]; with_reducible exact H2_) | (have H2_ := (Option.bind_some _ _).symm.trans H; with_reducible exact H2_) | with_reducible exact H | (rw [hy181]; exact H) | exact H
        have Ny181 := Aside0.mk hy181
        clear hy181
        replace H := Option.bind_eq_some_iff.mp H
        obtain ⟨⟨t184, t185⟩, A80, H⟩ := H
        replace H : (if t184 = true then (spec_NeededIn.l0 k l1 l2 y181 (wrap64 ((l2.length : Int) - 2))) else (some (([] : List Int), false))) = some (r1, r2) := H
        have A8 := Aside0.mk A80
        clear A80
        by_cases c9 : t184 = true
        · subst c9
          have H1 : (spec_NeededIn.l0 k l1 l2 y181 (wrap64 ((l2.length : Int) - 2))) = some (r1, r2) := by rw [if_pos rfl] at H; exact H
          clear H
          have H := H1
          clear H1
          have H' := Aside0.mk H
          clear H
          go_enter Try.func16, Try.ntmps16
          go_wp2_with (first | ((with_reducible refine gate_callee (f := 40) rfl ?_); refine goesL_ (some 20) rfl rfl Try.func40 (by kernel_rfl) rfl #[.int .i64 a0, .slice A1 l1.length c1, .slice A2 l2.length c2] rfl (by (try simp only [List.map_toArray, List.map_cons, List.map_nil]); first | done | rfl | (simp only [List.length_drop, List.length_take]; rfl)) ?_; (with_reducible refine (spec_l6Good.calls k a0 _ _ l1 _ _ l2 true _ ?side1 ?side2 ?side3 ?side4 A4.out).mono ?_); (case side1 => repeat (first | exact HR1.out | (with_reducible refine Kd.C_alloc ?_ _) | (with_reducible refine Kd.C_drewN ?_ _) | (with_reducible refine Kd.C_drew ?_))); (case side2 => exact HC1.out); (case side3 => repeat (first | exact HR2.out | (with_reducible refine Kd.C_alloc ?_ _) | (with_reducible refine Kd.C_drewN ?_ _) | (with_reducible refine Kd.C_drew ?_))); (case side4 => exact HC2.out); rintro e w' ⟨rfl, ⟨nd, rfl⟩⟩; refine ⟨_, rfl, ?_⟩) | ((with_reducible refine gate_dst (N := 24) rfl ?_); refine Kd.R_make Kd.bool _ 4 rfl (N := 24) rfl 43 _ _ rfl (l2.length : Int) rfl rfl Try.underlying43 (.bool false) 1 info4 rfl (by decide) (by omega) false (ok := fun _ => True) (okp := fun _ => True) rfl (fun _ hk => hk) trivial (of_decide_eq_true (by first | (with_reducible assumption) | assumption)) (Nat.le_trans (Nat.mul_le_mul_right _ (of_decide_eq_true (by first | (with_reducible assumption) | assumption) : (l2.length : Int).toNat ≤ 281474976710656)) (by omega)) (Below.refl _ _) (Nat.le_refl _) ?_; intro v182 w10 ho11 hb hg_ hnew_; clear hg_ hnew_; (first | rw [← Ny181.out] at ho11 | (simp only [Int.reduceToNat] at ho11; rw [← Ny181.out] at ho11)); have n0_ := Aside0.mk (Kd.R_lower ho11 (below_size (by repeat (first | (with_reducible first | exact HB.out | apply below_alloc | apply pw_below_drewN | apply below_drew1) | exact HB.out)))); have n1_ := Aside0.mk (below_step (by repeat (first | (with_reducible first | exact HB.out | apply below_alloc | apply pw_below_drewN | apply below_drew1) | exact HB.out)) hb); clear HB; have HO183 := n0_; have HB := n1_; clear n0_ n1_; clear hb ho11; obtain ⟨Ao12, co12, eo12⟩ := Kd.R_slice HO183.out; subst eo12) | ((with_reducible refine gate_callee (f := 41) rfl ?_); refine goesL_ (some 29) rfl rfl Try.func41 (by kernel_rfl) rfl #[.slice A1 l1.length c1, .slice A2 l2.length c2, .slice Ao12 y181.length co12] rfl (by (try simp only [List.map_toArray, List.map_cons, List.map_nil]); first | done | rfl | (simp only [List.length_drop, List.length_take]; rfl)) ?_; (with_reducible refine (spec_l6Check.calls k _ _ l1 (fun k_ => k_ < w.heap.size) _ _ l2 _ _ y181 true t185 _ ?side1 ?side2 ?side3 ?side4 ?side5 A8.out).mono ?_); (case side1 => repeat (first | exact (Kd.C_below HR1.out HB.out) | (with_reducible refine Kd.C_alloc ?_ _) | (with_reducible refine Kd.C_drewN ?_ _) | (with_reducible refine Kd.C_drew ?_))); (case side2 => exact HC1.out); (case side3 => exact Kd.V_mk HC2.out (Kd.F_below (Kd.C_F (Kd.heap_slice 3 (Kd.heap_int .i64)) HR2.out) (by repeat (first | (with_reducible first | exact HB.out | apply below_alloc | apply pw_below_drewN | apply below_drew1) | exact HB.out)))); (case side4 => repeat (first | exact (Kd.R_reads' HO183.out).2.2 | (with_reducible refine Kd.C_alloc ?_ _) | (with_reducible refine Kd.C_drewN ?_ _) | (with_reducible refine Kd.C_drew ?_))); (case side5 => exact (Kd.R_reads' HO183.out).2.1); rintro e w13 ⟨rfl, hb⟩; refine ⟨_, rfl, ?_⟩; have n0_ := Aside0.mk (Kd.R_below (by (with_reducible repeat (first | apply Kd.R_alloc | apply Kd.R_drewN | apply Kd.R_drew)); exact HO183.out) hb); have n1_ := Aside0.mk (below_step (by repeat (first | (with_reducible first | exact HB.out | apply below_alloc | apply pw_below_drewN | apply below_drew1) | exact HB.out)) hb); clear HO183; clear HB; have HO183 := n0_; have HB := n1_; clear n0_ n1_; (try clear hb); (try clear hb2); (try clear hk); (try clear hi)))
          go_loopg [11] k (fun kq v11 w' => ∃ (x8_1 : List Bool) (x11_1 : Int), v11 = .int .i64 x11_1 ∧ Aside0 (spec_NeededIn.l0 kq l1 l2 x8_1 x11_1 = some (r1, r2)) ∧ Aside0 (kq ≤ k) ∧ Aside0 (Kd.R Kd.bool 4 w' w.heap.size (fun _ => True) (.slice Ao12 y181.length co12) x8_1) ∧ Aside0 (Below w.heap.size w w'))
          case atStart => exact ⟨(y181), (wrap64 ((l2.length : Int) - 2)), (by first | rfl | (simp; done) | (simp [*]; done)), H', ⟨Nat.le_refl _⟩, ⟨by (with_reducible repeat (first | apply Kd.R_alloc | apply Kd.R_drewN | apply Kd.R_drew)); exact HO183.out⟩, ⟨by repeat (first | (with_reducible first | exact HB.out | apply below_alloc | apply pw_below_drewN | apply below_drew1) | exact HB.out)⟩⟩
          case round =>
            clear H'
            try clear c1
            try clear c2
            try clear p2
            try clear c4
            try clear c5
            try clear c6
            try clear c6b0
            try clear c6b1
            try clear p6
            try clear c7
            try clear c7b0
            try clear c7b1
            try clear c9
            obtain ⟨x8_1, x11_1, rfl, HA, HK1, HO_8, HB⟩ := hrel
            have hl8_1 := (Kd.R_reads' HO_8.out).1
            rw [hl8_1] at HO_8
            (try simp only [hl8_1])
            cases gk with
            | zero => exact absurd HA.out (by simp [spec_NeededIn.l0])
            | succ k1 =>
              have H := HA.out
              clear HA
              simp only [spec_NeededIn.l0] at H
              by_cases c14 : x11_1 ≥ 0
              · rw [if_pos c14] at H
                have c14b0 : decide (0 ≤ x11_1) = true := decide_eq_true c14
                clear c14
                by_cases c15 : 0 ≤ x11_1
                · rw [if_pos c15] at H
                  have c15b0 : decide (0 ≤ x11_1) = true := decide_eq_true c15
                  clear c15
                  by_cases c16 : x11_1 < (x8_1.length : Int)
                  · rw [if_pos c16] at H
                    have c16b0 : decide (x11_1 < (x8_1.length : Int)) = true := decide_eq_true c16
                    clear c16
                    obtain ⟨y186, hy186⟩ : ∃ y_ : List Bool, y_ = (x8_1.set (x11_1 : Int).toNat true) := ⟨_, rfl⟩
                    replace H : ((spec_l6Check.f k1 l1 l2 y186).bind fun bt187 => (if bt187.1 = true then (spec_NeededIn.l0 k1 l1 l2 y186 (wrap64 (x11_1 - 1))) else (spec_NeededIn.l0 k1 l1 l2 (y186.set (x11_1 : Int).toNat false) (wrap64 (x11_1 - 1))))) = some (r1, r2) := by first | (rw [hy186]; with_reducible exact H) | (have H2_ := (Option.bind_some _ _).symm.trans H; rw [hy186]; with_reducible exact H2_) | (have H2_ := (Option.bind_some _ _).symm.trans H; with_reducible exact H2_) | with_reducible exact H | (rw [hy186]; exact H) | exact H
                    have Ny186 := Aside0.mk hy186
                    clear hy186
                    replace H := Option.bind_eq_some_iff.mp H
                    obtain ⟨⟨t187, t188⟩, A180, H⟩ := H
                    replace H : (if t187 = true then (spec_NeededIn.l0 k1 l1 l2 y186 (wrap64 (x11_1 - 1))) else (spec_NeededIn.l0 k1 l1 l2 (y186.set (x11_1 : Int).toNat false) (wrap64 (x11_1 - 1)))) = some (r1, r2) := H
                    have A18 := Aside0.mk A180
                    clear A180
                    by_cases c19 : t187 = true
                    · subst c19
                      have H1 : (spec_NeededIn.l0 k1 l1 l2 y186 (wrap64 (x11_1 - 1))) = some (r1, r2) := by rw [if_pos rfl] at H; exact H
                      clear H
                      have H := H1
                      clear H1
                      have H' := Aside0.mk H
                      clear H
                      have p17 : 0 ≤ (x11_1 : Int) := of_decide_eq_true (by first | (with_reducible assumption) | assumption)
                      have q17 : (x11_1 : Int) < ((x8_1.length : Int) : Int) := of_decide_eq_true (by first | (with_reducible assumption) | assumption)
                      obtain ⟨go17, co17, eo17, gb17, gl17, cl17, HG17⟩ := Kd.R_form HO_8.out (by omega)
                      (first | cases eo17 | (injection eo17 with ea_ en_ ec_; (first | subst ea_ | (injection ea_ with ea_; subst ea_)); subst ec_; clear en_))
                      have GB17 := Aside0.mk gb17
                      have GG17 := Aside0.mk HG17
                      clear gb17 gl17 HG17
                      obtain ⟨hx17_0, hf17_0⟩ := Kd.R_celln false HO_8.out (x11_1 : Int) p17 q17
                      replace p17 := eq_true p17
                      replace q17 := eq_true q17
                      have HP20 := Kd.R_putg HO_8.out (x11_1 : Int) true
                      go_wp2_with (first | ((with_reducible refine gate_store (t := 4) (p := 43) rfl ?_); refine store_event (t := 4) (p := 43) (v := ?vo_w21) (w1 := (wr.setCell ⟨go17, (x11_1 : Int).toNat, none⟩ (.bool true))) ?hg ?ho ?hn ?hr ?_; (case ho => rfl); (case hg => rfl); (case hn => rfl); (case hr => first | (go_simp; done) | (go_simp; rfl)); intro w21 hw; have hg : wr.grownBy w21 (some go17) := (by rw [hw]; exact HP20.2); have hp_ : Kd.R Kd.bool 4 w21 w.heap.size (fun _ => True) (.slice (some ⟨go17, 0, none⟩) x8_1.length co12) y186 := (by rw [hw, Ny186.out]; exact HP20.1); clear HP20; have n0_ := Aside0.mk (hp_); have n1_ := Aside0.mk ((by rw [hw]; exact below_set (HB.out) GB17.out : Below w.heap.size w w21)); clear HO_8; clear HB; have HO_8 := n0_; have HB := n1_; clear n0_ n1_; clear hg hw hp_) | ((with_reducible refine gate_callee (f := 41) rfl ?_); refine goesL_ (some 48) rfl rfl Try.func41 (by kernel_rfl) rfl #[.slice A1 l1.length c1, .slice A2 l2.length c2, .slice (some ⟨go17, 0, none⟩) y186.length co12] rfl (by (try simp only [List.map_toArray, List.map_cons, List.map_nil]); first | done | (rw [show y186.length = x8_1.length from (Kd.R_reads' HO_8.out).1.symm] <;> rfl) | rfl | (simp only [List.length_drop, List.length_take]; rfl)) ?_; (with_reducible refine (spec_l6Check.calls k1 _ _ l1 (fun k_ => k_ < w.heap.size) _ _ l2 _ _ y186 true t188 _ ?side1 ?side2 ?side3 ?side4 ?side5 A18.out).mono ?_); (case side1 => repeat (first | exact (Kd.C_below HR1.out HB.out) | (with_reducible refine Kd.C_alloc ?_ _) | (with_reducible refine Kd.C_drewN ?_ _) | (with_reducible refine Kd.C_drew ?_))); (case side2 => exact HC1.out); (case side3 => exact Kd.V_mk HC2.out (Kd.F_below (Kd.C_F (Kd.heap_slice 3 (Kd.heap_int .i64)) HR2.out) (by repeat (first | (with_reducible first | exact HB.out | apply below_alloc | apply pw_below_drewN | apply below_drew1) | exact HB.out)))); (case side4 => repeat (first | exact (Kd.R_reads' HO_8.out).2.2 | (with_reducible refine Kd.C_alloc ?_ _) | (with_reducible refine Kd.C_drewN ?_ _) | (with_reducible refine Kd.C_drew ?_))); (case side5 => rw [show y186.length = x8_1.length from (Kd.R_reads' HO_8.out).1.symm]; exact (Kd.R_reads' HO_8.out).2.1); rintro e w22 ⟨rfl, hb⟩; refine ⟨_, rfl, ?_⟩; have n0_ := Aside0.mk (Kd.R_below (by (with_reducible repeat (first | apply Kd.R_alloc | apply Kd.R_drewN | apply Kd.R_drew)); exact HO_8.out) hb); have n1_ := Aside0.mk (below_step (by repeat (first | (with_reducible first | exact HB.out | apply below_alloc | apply pw_below_drewN | apply below_drew1) | exact HB.out)) hb); clear HO_8; clear HB; have HO_8 := n0_; have HB := n1_; clear n0_ n1_; (try clear hb); (try clear hb2); (try clear hk); (try clear hi)))
                      (try simp only [← hl8_1])
                      go_roundg k1
                      case measure => have := HK1.out; omega
                      case rel => exact ⟨(y186), (wrap64 (x11_1 - 1)), (by first | rfl | (simp; done) | (simp [*]; done)), H', ⟨by have := HK1.out; omega⟩, ⟨by (try simp only [hl8_1]); (with_reducible repeat (first | apply Kd.R_alloc | apply Kd.R_drewN | apply Kd.R_drew)); exact HO_8.out⟩, ⟨by repeat (first | (with_reducible first | exact HB.out | apply below_alloc | apply pw_below_drewN | apply below_drew1) | exact HB.out)⟩⟩
                    · replace c19 := Bool.eq_false_iff.mpr c19
                      subst c19
                      have H1 : (spec_NeededIn.l0 k1 l1 l2 (y186.set (x11_1 : Int).toNat false) (wrap64 (x11_1 - 1))) = some (r1, r2) := by rw [if_neg (show ¬ (false = true) by decide)] at H; exact H
                      clear H
                      have H := H1
                      clear H1
                      obtain ⟨y189, hy189⟩ : ∃ y_ : List Bool, y_ = (y186.set (x11_1 : Int).toNat false) := ⟨_, rfl⟩
                      replace H : (spec_NeededIn.l0 k1 l1 l2 y189 (wrap64 (x11_1 - 1))) = some (r1, r2) := by first | (rw [hy189]; with_reducible exact H) | (have H2_ := (Option.bind_some _ _).symm.trans H; rw [hy189]; with_reducible exact H2_) | (have H2_ := (Option.bind_some _ _).symm.trans H; with_reducible exact H2_) | with_reducible exact H | (rw [hy189]; exact H) | exact H
                      have Ny189 := Aside0.mk hy189
                      clear hy189
                      have H' := Aside0.mk H
                      clear H
                      have p17 : 0 ≤ (x11_1 : Int) := of_decide_eq_true (by first | (with_reducible assumption) | assumption)
                      have q17 : (x11_1 : Int) < ((x8_1.length : Int) : Int) := of_decide_eq_true (by first | (with_reducible assumption) | assumption)
                      obtain ⟨go17, co17, eo17, gb17, gl17, cl17, HG17⟩ := Kd.R_form HO_8.out (by omega)
                      (first | cases eo17 | (injection eo17 with ea_ en_ ec_; (first | subst ea_ | (injection ea_ with ea_; subst ea_)); subst ec_; clear en_))
                      have GB17 := Aside0.mk gb17
                      have GG17 := Aside0.mk HG17
                      clear gb17 gl17 HG17
                      obtain ⟨hx17_0, hf17_0⟩ := Kd.R_celln false HO_8.out (x11_1 : Int) p17 q17
                      replace p17 := eq_true p17
                      replace q17 := eq_true q17
                      have HP24 := Kd.R_putg HO_8.out (x11_1 : Int) true
                      go_wp2_with (first | ((with_reducible refine gate_store (t := 4) (p := 43) rfl ?_); refine store_event (t := 4) (p := 43) (v := ?vo_w25) (w1 := (wr.setCell ⟨go17, (x11_1 : Int).toNat, none⟩ (.bool true))) ?hg ?ho ?hn ?hr ?_; (case ho => rfl); (case hg => rfl); (case hn => rfl); (case hr => first | (go_simp; done) | (go_simp; rfl)); intro w25 hw; have hg : wr.grownBy w25 (some go17) := (by rw [hw]; exact HP24.2); have hp_ : Kd.R Kd.bool 4 w25 w.heap.size (fun _ => True) (.slice (some ⟨go17, 0, none⟩) x8_1.length co12) y186 := (by rw [hw, Ny186.out]; exact HP24.1); clear HP24; have n0_ := Aside0.mk (hp_); have n1_ := Aside0.mk ((by rw [hw]; exact below_set (HB.out) GB17.out : Below w.heap.size w w25)); clear HO_8; clear HB; have HO_8 := n0_; have HB := n1_; clear n0_ n1_; clear hg hw hp_) | ((with_reducible refine gate_callee (f := 41) rfl ?_); refine goesL_ (some 48) rfl rfl Try.func41 (by kernel_rfl) rfl #[.slice A1 l1.length c1, .slice A2 l2.length c2, .slice (some ⟨go17, 0, none⟩) y186.length co12] rfl (by (try simp only [List.map_toArray, List.map_cons, List.map_nil]); first | done | (rw [show y186.length = x8_1.length from (Kd.R_reads' HO_8.out).1.symm] <;> rfl) | rfl | (simp only [List.length_drop, List.length_take]; rfl)) ?_; (with_reducible refine (spec_l6Check.calls k1 _ _ l1 (fun k_ => k_ < w.heap.size) _ _ l2 _ _ y186 false t188 _ ?side1 ?side2 ?side3 ?side4 ?side5 A18.out).mono ?_); (case side1 => repeat (first | exact (Kd.C_below HR1.out HB.out) | (with_reducible refine Kd.C_alloc ?_ _) | (with_reducible refine Kd.C_drewN ?_ _) | (with_reducible refine Kd.C_drew ?_))); (case side2 => exact HC1.out); (case side3 => exact Kd.V_mk HC2.out (Kd.F_below (Kd.C_F (Kd.heap_slice 3 (Kd.heap_int .i64)) HR2.out) (by repeat (first | (with_reducible first | exact HB.out | apply below_alloc | apply pw_below_drewN | apply below_drew1) | exact HB.out)))); (case side4 => repeat (first | exact (Kd.R_reads' HO_8.out).2.2 | (with_reducible refine Kd.C_alloc ?_ _) | (with_reducible refine Kd.C_drewN ?_ _) | (with_reducible refine Kd.C_drew ?_))); (case side5 => rw [show y186.length = x8_1.length from (Kd.R_reads' HO_8.out).1.symm]; exact (Kd.R_reads' HO_8.out).2.1); rintro e w26 ⟨rfl, hb⟩; refine ⟨_, rfl, ?_⟩; have n0_ := Aside0.mk (Kd.R_below (by (with_reducible repeat (first | apply Kd.R_alloc | apply Kd.R_drewN | apply Kd.R_drew)); exact HO_8.out) hb); have n1_ := Aside0.mk (below_step (by repeat (first | (with_reducible first | exact HB.out | apply below_alloc | apply pw_below_drewN | apply below_drew1) | exact HB.out)) hb); clear HO_8; clear HB; have HO_8 := n0_; have HB := n1_; clear n0_ n1_; (try clear hb); (try clear hb2); (try clear hk); (try clear hi); have p23 : 0 ≤ (x11_1 : Int) := of_decide_eq_true (by first | (with_reducible assumption) | assumption); have q23 : (x11_1 : Int) < ((x8_1.length : Int) : Int) := of_decide_eq_true (by first | (with_reducible assumption) | assumption); obtain ⟨hx23_0, hf23_0⟩ := Kd.R_celln false HO_8.out (x11_1 : Int) p23 q23; replace p23 := eq_true p23; replace q23 := eq_true q23; obtain ⟨hy27_, hz27_⟩ := Kd.R_celln false HO_8.out (x11_1 : Int) (of_decide_eq_true (by first | (with_reducible assumption) | assumption)) (of_decide_eq_true (by first | (with_reducible assumption) | assumption)); have HP27 := Kd.R_putg HO_8.out (x11_1 : Int) false) | ((with_reducible refine gate_store (t := 4) (p := 55) rfl ?_); refine store_event (t := 4) (p := 55) (v := ?vo_w28) (w1 := (w26.setCell ⟨go17, (x11_1 : Int).toNat, none⟩ (.bool false))) ?hg ?ho ?hn ?hr ?_; (case ho => rfl); (case hg => rfl); (case hn => rfl); (case hr => first | (go_simp; done) | (go_simp; rfl)); intro w28 hw; have hg : w26.grownBy w28 (some go17) := (by rw [hw]; exact HP27.2); have hp_ : Kd.R Kd.bool 4 w28 w.heap.size (fun _ => True) (.slice (some ⟨go17, 0, none⟩) x8_1.length co12) y189 := (by rw [hw, Ny189.out]; exact HP27.1); clear HP27; have n0_ := Aside0.mk (hp_); have n1_ := Aside0.mk ((by rw [hw]; exact below_set (HB.out) GB17.out : Below w.heap.size w w28)); clear HO_8; clear HB; have HO_8 := n0_; have HB := n1_; clear n0_ n1_; clear hg hw hp_))
                      (try simp only [← hl8_1])
                      go_roundg k1
                      case measure => have := HK1.out; omega
                      case rel => exact ⟨(y189), (wrap64 (x11_1 - 1)), (by first | rfl | (simp; done) | (simp [*]; done)), H', ⟨by have := HK1.out; omega⟩, ⟨by (try simp only [hl8_1]); (with_reducible repeat (first | apply Kd.R_alloc | apply Kd.R_drewN | apply Kd.R_drew)); exact HO_8.out⟩, ⟨by repeat (first | (with_reducible first | exact HB.out | apply below_alloc | apply pw_below_drewN | apply below_drew1) | exact HB.out)⟩⟩
                  · rw [if_neg c16] at H
                    exact absurd H (by simp)
                · rw [if_neg c15] at H
                  exact absurd H (by simp)
              · rw [if_neg c14] at H
                have c14b0 : decide (0 ≤ x11_1) = false := decide_eq_false c14
                clear c14
                have H' := Aside0.mk H
                clear H
                go_wp2
                go_loopg [14, 58] k1 (fun kq v14 v58 w' => ∃ (x14_2 : List Int) (x58_2 : Int), v58 = .int .i64 x58_2 ∧ Aside0 (spec_NeededIn.l1 kq x14_2 x8_1 (x8_1.length : Int) x58_2 = some (r1, r2)) ∧ Aside0 (kq ≤ k1) ∧ Aside0 (Kd.R (Kd.int .i64) 3 w' w.heap.size (fun _ => True) v14 x14_2) ∧ Aside0 (Kd.R Kd.bool 4 w' w.heap.size (fun _ => True) (.slice Ao12 x8_1.length co12) x8_1) ∧ Aside0 (Below w.heap.size w w'))
                case atStart => exact ⟨(([] : List Int)), (0), (by first | rfl | (simp; done) | (simp [*]; done)), H', ⟨Nat.le_refl _⟩, ⟨by (try simp only [hl8_1]); first | exact Kd.R_nil _ _ _ _ _ | exact Kd.N_nil _ _ _ _ _ | exact Kd.V_nil _ _ _ _ _ | exact Kd.Q_nil _ _ _ _ _ | exact Kd.S_nil _ _ _ _ _⟩, ⟨by (try simp only [hl8_1]); (with_reducible repeat (first | apply Kd.R_alloc | apply Kd.R_drewN | apply Kd.R_drew)); exact HO_8.out⟩, ⟨by repeat (first | (with_reducible first | exact HB.out | apply below_alloc | apply pw_below_drewN | apply below_drew1) | exact HB.out)⟩⟩
                case round =>
                  clear H'
                  try clear c1
                  try clear p1
                  try clear q1
                  try clear hx1
                  try clear c2
                  try clear p2
                  try clear q2
                  try clear hx2
                  try clear c4
                  try clear c5
                  try clear c6
                  try clear c6b0
                  try clear c6b1
                  try clear p6
                  try clear c7
                  try clear c7b0
                  try clear c7b1
                  try clear c9
                  try clear c14
                  try clear c14b0
                  try clear c15
                  try clear c15b0
                  try clear c16
                  try clear c16b0
                  try clear p17
                  try clear q17
                  try clear hx17
                  try clear hf17
                  try clear c19
                  try clear p23
                  try clear q23
                  try clear hx23
                  try clear hf23
                  try clear hx17_0
                  try clear hx23_0
                  try clear p17
                  try clear p2
                  try clear p23
                  try clear p6
                  try clear q17
                  try clear q23
                  obtain ⟨x14_2, x58_2, rfl, HA, HK2, HO_14, HO_56, HB⟩ := hrel
                  cases gk with
                  | zero => exact absurd HA.out (by simp [spec_NeededIn.l1])
                  | succ k2 =>
                    have H := HA.out
                    clear HA
                    simp only [spec_NeededIn.l1] at H
                    by_cases c29 : x58_2 < (x8_1.length : Int)
                    · rw [if_pos c29] at H
                      have c29b0 : decide (x58_2 < (x8_1.length : Int)) = true := decide_eq_true c29
                      clear c29
                      by_cases c30 : 0 ≤ x58_2
                      · rw [if_pos c30] at H
                        have c30b0 : decide (0 ≤ x58_2) = true := decide_eq_true c30
                        clear c30
                        by_cases c31 : x58_2 < (x8_1.length : Int)
                        · rw [if_pos c31] at H
                          have c31b0 : decide (x58_2 < (x8_1.length : Int)) = true := decide_eq_true c31
                          clear c31
                          obtain ⟨bq32, hbq32⟩ : ∃ b_ : Bool, b_ = (rdOf false x8_1 x58_2) := ⟨_, rfl⟩
                          replace H : (if bq32 = true then (spec_NeededIn.l1 k2 x14_2 x8_1 (x8_1.length : Int) (wrap64 (x58_2 + 1))) else (if x14_2.length < 17592186044416 then (spec_NeededIn.l1 k2 (x14_2 ++ [x58_2]) x8_1 (x8_1.length : Int) (wrap64 (x58_2 + 1))) else (none))) = some (r1, r2) := by rw [← hbq32] at H; exact H
                          have Nbq32 := Aside0.mk hbq32
                          clear hbq32
                          by_cases c33 : bq32 = true
                          · subst c33
                            have H1 : (spec_NeededIn.l1 k2 x14_2 x8_1 (x8_1.length : Int) (wrap64 (x58_2 + 1))) = some (r1, r2) := by rw [if_pos rfl] at H; exact H
                            clear H
                            have H := H1
                            clear H1
                            have H' := Aside0.mk H
                            clear H
                            have p190 : 0 ≤ (x58_2 : Int) := of_decide_eq_true (by first | (with_reducible assumption) | assumption)
                            have q190 : x58_2 < (x8_1.length : Int) := of_decide_eq_true (by first | (with_reducible assumption) | assumption)
                            obtain ⟨ad190, e190, hx190_0⟩ := Kd.at_bool (Kd.R_reads' HO_56.out).2.2 x58_2 p190 q190
                            (try rw [← Nbq32.out] at hx190_0)
                            cases e190
                            replace p190 := eq_true p190
                            replace q190 := eq_true q190
                            go_wp2
                            go_roundg k2
                            case measure => have := HK1.out; have := HK2.out; omega
                            case rel => exact ⟨(x14_2), (wrap64 (x58_2 + 1)), (by first | rfl | (simp; done) | (simp [*]; done)), H', ⟨by have := HK1.out; have := HK2.out; omega⟩, ⟨by (try simp only [hl8_1]); (with_reducible repeat (first | apply Kd.R_alloc | apply Kd.R_drewN | apply Kd.R_drew)); exact HO_14.out⟩, ⟨by (try simp only [hl8_1]); (with_reducible repeat (first | apply Kd.R_alloc | apply Kd.R_drewN | apply Kd.R_drew)); exact HO_56.out⟩, ⟨by repeat (first | (with_reducible first | exact HB.out | apply below_alloc | apply pw_below_drewN | apply below_drew1) | exact HB.out)⟩⟩
                          · replace c33 := Bool.eq_false_iff.mpr c33
                            subst c33
                            have H1 : (if x14_2.length < 17592186044416 then (spec_NeededIn.l1 k2 (x14_2 ++ [x58_2]) x8_1 (x8_1.length : Int) (wrap64 (x58_2 + 1))) else (none)) = some (r1, r2) := by rw [if_neg (show ¬ (false = true) by decide)] at H; exact H
                            clear H
                            have H := H1
                            clear H1
                            by_cases c34 : x14_2.length < 17592186044416
                            · rw [if_pos c34] at H
                              have LMc34 := Aside0.mk c34
                              clear c34
                              obtain ⟨y191, hy191⟩ : ∃ y_ : List Int, y_ = (x14_2 ++ [x58_2]) := ⟨_, rfl⟩
                              replace H : (spec_NeededIn.l1 k2 y191 x8_1 (x8_1.length : Int) (wrap64 (x58_2 + 1))) = some (r1, r2) := by first | (rw [hy191]; with_reducible exact H) | (have H2_ := (Option.bind_some _ _).symm.trans H; rw [hy191]; with_reducible exact H2_) | (have H2_ := (Option.bind_some _ _).symm.trans H; with_reducible exact H2_) | with_reducible exact H | (rw [hy191]; exact H) | exact H
                              have Ny191 := Aside0.mk hy191
                              clear hy191
                              have H' := Aside0.mk H
                              clear H
                              have p190 : 0 ≤ (x58_2 : Int) := of_decide_eq_true (by first | (with_reducible assumption) | assumption)
                              have q190 : x58_2 < (x8_1.length : Int) := of_decide_eq_true (by first | (with_reducible assumption) | assumption)
                              obtain ⟨ad190, e190, hx190_0⟩ := Kd.at_bool (Kd.R_reads' HO_56.out).2.2 x58_2 p190 q190
                              (try rw [← Nbq32.out] at hx190_0)
                              cases e190
                              replace p190 := eq_true p190
                              replace q190 := eq_true q190
                              go_wp2_with (first | ((with_reducible refine gate_builtin (b := .append) (xs := #[.tmp 65, .tmp 67]) rfl ?_); at_builtin; refine Kd.R_append (Kd.int .i64) (w0 := w) w.heap.size rfl (.tmp 65) (.tmp 67) 29 3 (.int .i64 0) 8 rfl Try.underlying29 info3 rfl (by decide) (by omega) u14 x14_2 x58_2 [.int .i64 x58_2] (fun _ => True) (fun _ => False) rfl rfl ?aP (fun _ hk => hk.elim) ?aF ?aO ?aB ?aS ?aL ?_; (case aP => exact rfl); (case aB => exact (by repeat (first | (with_reducible first | exact HB.out | apply below_alloc | apply pw_below_drewN | apply below_drew1) | exact HB.out))); (case aF => exact (fun _ _ => trivial)); (case aO => exact (by (with_reducible repeat (first | apply Kd.R_alloc | apply Kd.R_drewN | apply Kd.R_drew)); exact HO_14.out)); (case aS => exact (below_size (by repeat (first | (with_reducible first | exact HB.out | apply below_alloc | apply pw_below_drewN | apply below_drew1) | exact HB.out)))); (case aL => have := LMc34.out; omega); intro v192 w35 ho hb hg hat; rw [← Ny191.out] at ho; have n0_ := Aside0.mk (Kd.R_over' (by (with_reducible repeat (first | apply Kd.R_alloc | apply Kd.R_drewN | apply Kd.R_drew)); exact HO_56.out) (Kd.R_typed (by (with_reducible repeat (first | apply Kd.R_alloc | apply Kd.R_drewN | apply Kd.R_drew)); exact HO_14.out)) (by decide) hg); have n1_ := Aside0.mk (hb); have n2_ := Aside0.mk (ho); clear HO_56; clear HB; clear HO_14; have HO_56 := n0_; have HB := n1_; have HO193 := n2_; clear n0_ n1_ n2_; clear ho hb hg hat))
                              go_roundg k2
                              case measure => have := HK1.out; have := HK2.out; omega
                              case rel => exact ⟨(y191), (wrap64 (x58_2 + 1)), (by first | rfl | (simp; done) | (simp [*]; done)), H', ⟨by have := HK1.out; have := HK2.out; omega⟩, ⟨by (try simp only [hl8_1]); (with_reducible repeat (first | apply Kd.R_alloc | apply Kd.R_drewN | apply Kd.R_drew)); exact HO193.out⟩, ⟨by (try simp only [hl8_1]); (with_reducible repeat (first | apply Kd.R_alloc | apply Kd.R_drewN | apply Kd.R_drew)); exact HO_56.out⟩, ⟨by repeat (first | (with_reducible first | exact HB.out | apply below_alloc | apply pw_below_drewN | apply below_drew1) | exact HB.out)⟩⟩
                            · rw [if_neg c34] at H
                              exact absurd H (by simp)
                        · rw [if_neg c31] at H
                          exact absurd H (by simp)
                      · rw [if_neg c30] at H
                        exact absurd H (by simp)
                    · rw [if_neg c29] at H
                      have c29b0 : decide (x58_2 < (x8_1.length : Int)) = false := decide_eq_false c29
                      have c29b0h := c29b0
                      (try simp only [hl8_1] at c29b0h)
                      clear c29
                      simp only [Option.some.injEq, Prod.mk.injEq] at H
                      obtain ⟨rfl, rfl⟩ := H
                      go_wp2
                      go_ret2
                      exact ⟨_, by first | rfl | (simp [errW_none, errW_some] <;> rfl) | (simp [*, errW_none, errW_some] <;> rfl), by (with_reducible repeat (first | apply Kd.R_alloc | apply Kd.R_drewN | apply Kd.R_drew)); exact HO_14.out, by repeat (first | (with_reducible first | exact HB.out | apply below_alloc | apply pw_below_drewN | apply below_drew1) | exact HB.out)⟩
        · replace c9 := Bool.eq_false_iff.mpr c9
          subst c9
          have H1 : (some (([] : List Int), false)) = some (r1, r2) := by rw [if_neg (show ¬ (false = true) by decide)] at H; exact H
          clear H
          have H := H1
          clear H1
          simp only [Option.some.injEq, Prod.mk.injEq] at H
          obtain ⟨rfl, rfl⟩ := H
          go_enter Try.func16, Try.ntmps16
          go_wp2_with (first | ((with_reducible refine gate_callee (f := 40) rfl ?_); refine goesL_ (some 20) rfl rfl Try.func40 (by kernel_rfl) rfl #[.int .i64 a0, .slice A1 l1.length c1, .slice A2 l2.length c2] rfl (by (try simp only [List.map_toArray, List.map_cons, List.map_nil]); first | done | rfl | (simp only [List.length_drop, List.length_take]; rfl)) ?_; (with_reducible refine (spec_l6Good.calls k a0 _ _ l1 _ _ l2 true _ ?side1 ?side2 ?side3 ?side4 A4.out).mono ?_); (case side1 => repeat (first | exact HR1.out | (with_reducible refine Kd.C_alloc ?_ _) | (with_reducible refine Kd.C_drewN ?_ _) | (with_reducible refine Kd.C_drew ?_))); (case side2 => exact HC1.out); (case side3 => repeat (first | exact HR2.out | (with_reducible refine Kd.C_alloc ?_ _) | (with_reducible refine Kd.C_drewN ?_ _) | (with_reducible refine Kd.C_drew ?_))); (case side4 => exact HC2.out); rintro e w' ⟨rfl, ⟨nd, rfl⟩⟩; refine ⟨_, rfl, ?_⟩) | ((with_reducible refine gate_dst (N := 24) rfl ?_); refine Kd.R_make Kd.bool _ 4 rfl (N := 24) rfl 43 _ _ rfl (l2.length : Int) rfl rfl Try.underlying43 (.bool false) 1 info4 rfl (by decide) (by omega) false (ok := fun _ => True) (okp := fun _ => True) rfl (fun _ hk => hk) trivial (of_decide_eq_true (by first | (with_reducible assumption) | assumption)) (Nat.le_trans (Nat.mul_le_mul_right _ (of_decide_eq_true (by first | (with_reducible assumption) | assumption) : (l2.length : Int).toNat ≤ 281474976710656)) (by omega)) (Below.refl _ _) (Nat.le_refl _) ?_; intro v182 w36 ho37 hb hg_ hnew_; clear hg_ hnew_; (first | rw [← Ny181.out] at ho37 | (simp only [Int.reduceToNat] at ho37; rw [← Ny181.out] at ho37)); have n0_ := Aside0.mk (Kd.R_lower ho37 (below_size (by repeat (first | (with_reducible first | exact HB.out | apply below_alloc | apply pw_below_drewN | apply below_drew1) | exact HB.out)))); have n1_ := Aside0.mk (below_step (by repeat (first | (with_reducible first | exact HB.out | apply below_alloc | apply pw_below_drewN | apply below_drew1) | exact HB.out)) hb); clear HB; have HO183 := n0_; have HB := n1_; clear n0_ n1_; clear hb ho37; obtain ⟨Ao38, co38, eo38⟩ := Kd.R_slice HO183.out; subst eo38) | ((with_reducible refine gate_callee (f := 41) rfl ?_); refine goesL_ (some 29) rfl rfl Try.func41 (by kernel_rfl) rfl #[.slice A1 l1.length c1, .slice A2 l2.length c2, .slice Ao38 y181.length co38] rfl (by (try simp only [List.map_toArray, List.map_cons, List.map_nil]); first | done | rfl | (simp only [List.length_drop, List.length_take]; rfl)) ?_; (with_reducible refine (spec_l6Check.calls k _ _ l1 (fun k_ => k_ < w.heap.size) _ _ l2 _ _ y181 false t185 _ ?side1 ?side2 ?side3 ?side4 ?side5 A8.out).mono ?_); (case side1 => repeat (first | exact (Kd.C_below HR1.out HB.out) | (with_reducible refine Kd.C_alloc ?_ _) | (with_reducible refine Kd.C_drewN ?_ _) | (with_reducible refine Kd.C_drew ?_))); (case side2 => exact HC1.out); (case side3 => exact Kd.V_mk HC2.out (Kd.F_below (Kd.C_F (Kd.heap_slice 3 (Kd.heap_int .i64)) HR2.out) (by repeat (first | (with_reducible first | exact HB.out | apply below_alloc | apply pw_below_drewN | apply below_drew1) | exact HB.out)))); (case side4 => repeat (first | exact (Kd.R_reads' HO183.out).2.2 | (with_reducible refine Kd.C_alloc ?_ _) | (with_reducible refine Kd.C_drewN ?_ _) | (with_reducible refine Kd.C_drew ?_))); (case side5 => exact (Kd.R_reads' HO183.out).2.1); rintro e w39 ⟨rfl, hb⟩; refine ⟨_, rfl, ?_⟩; have n0_ := Aside0.mk (Kd.R_below (by (with_reducible repeat (first | apply Kd.R_alloc | apply Kd.R_drewN | apply Kd.R_drew)); exact HO183.out) hb); have n1_ := Aside0.mk (below_step (by repeat (first | (with_reducible first | exact HB.out | apply below_alloc | apply pw_below_drewN | apply below_drew1) | exact HB.out)) hb); clear HO183; clear HB; have HO183 := n0_; have HB := n1_; clear n0_ n1_; (try clear hb); (try clear hb2); (try clear hk); (try clear hi)))
          go_ret2
          exact ⟨_, by first | rfl | (simp [errW_none, errW_some] <;> rfl) | (simp [*, errW_none, errW_some] <;> rfl), by first | exact Kd.R_nil _ _ _ _ _ | exact Kd.N_nil _ _ _ _ _ | exact Kd.V_nil _ _ _ _ _ | exact Kd.Q_nil _ _ _ _ _ | exact Kd.S_nil _ _ _ _ _, by repeat (first | (with_reducible first | exact HB.out | apply below_alloc | apply pw_below_drewN | apply below_drew1) | exact HB.out)⟩
      · rw [if_neg c7] at H
        exact absurd H (by simp)
    · rw [if_neg c6] at H
      exact absurd H (by simp)
  · replace c5 := Bool.eq_false_iff.mpr c5
    subst c5
    have H1 : (some (([] : List Int), false)) = some (r1, r2) := by rw [if_neg (show ¬ (false = true) by decide)] at H; exact H
    clear H
    have H := H1
    clear H1
    simp only [Option.some.injEq, Prod.mk.injEq] at H
    obtain ⟨rfl, rfl⟩ := H
    go_enter Try.func16, Try.ntmps16
    go_wp2_with (first | ((with_reducible refine gate_callee (f := 40) rfl ?_); refine goesL_ (some 20) rfl rfl Try.func40 (by kernel_rfl) rfl #[.int .i64 a0, .slice A1 l1.length c1, .slice A2 l2.length c2] rfl (by (try simp only [List.map_toArray, List.map_cons, List.map_nil]); first | done | rfl | (simp only [List.length_drop, List.length_take]; rfl)) ?_; (with_reducible refine (spec_l6Good.calls k a0 _ _ l1 _ _ l2 false _ ?side1 ?side2 ?side3 ?side4 A4.out).mono ?_); (case side1 => repeat (first | exact HR1.out | (with_reducible refine Kd.C_alloc ?_ _) | (with_reducible refine Kd.C_drewN ?_ _) | (with_reducible refine Kd.C_drew ?_))); (case side2 => exact HC1.out); (case side3 => repeat (first | exact HR2.out | (with_reducible refine Kd.C_alloc ?_ _) | (with_reducible refine Kd.C_drewN ?_ _) | (with_reducible refine Kd.C_drew ?_))); (case side4 => exact HC2.out); rintro e w' ⟨rfl, ⟨nd, rfl⟩⟩; refine ⟨_, rfl, ?_⟩))
    go_ret2
    exact ⟨_, by first | rfl | (simp [errW_none, errW_some] <;> rfl) | (simp [*, errW_none, errW_some] <;> rfl), by first | exact Kd.R_nil _ _ _ _ _ | exact Kd.N_nil _ _ _ _ _ | exact Kd.V_nil _ _ _ _ _ | exact Kd.Q_nil _ _ _ _ _ | exact Kd.S_nil _ _ _ _ _, by repeat (first | (with_reducible first | exact HB.out | apply below_alloc | apply pw_below_drewN | apply below_drew1) | exact HB.out)⟩

/-! ### impl_in: function 64 -/
def impl_in.f (a0 : Int) (a1 : Int) (a2 : Int) : Option (Bool) := if a0 ≥ a1 then (some (decide (a0 ≤ a2))) else (some false)
set_option maxHeartbeats 8000000 in
set_option maxRecDepth 100000 in
theorem impl_in.calls (a0 : Int) (a1 : Int) (a2 : Int) (r : Bool) (w : World) (h : impl_in.f a0 a1 a2 = some r) :
    Calls Try.prog 64 #[.int .i64 a0, .int .i64 a1, .int .i64 a2] w fun e w' => e = .returned (.bool r) ∧ Drawn0 w w' := by
  have H : (if a0 ≥ a1 then (some (decide (a0 ≤ a2))) else (some false)) = some r := h
  clear h
  by_cases c4 : a0 ≥ a1
  · rw [if_pos c4] at H
    have c4b0 : decide (a1 ≤ a0) = true := decide_eq_true c4
    clear c4
    obtain rfl := Option.some.inj H
    go_enter Try.func64, Try.ntmps64
    go_wp2
    go_ret
    exact ⟨by first | rfl | (simp; done) | (simp [*]; done), by repeat (first | exact Drawn0.refl _ | apply Drawn0.step)⟩
  · rw [if_neg c4] at H
    have c4b0 : decide (a1 ≤ a0) = false := decide_eq_false c4
    clear c4
    obtain rfl := Option.some.inj H
    go_enter Try.func64, Try.ntmps64
    go_wp2
    go_ret
    exact ⟨by first | rfl | (simp; done) | (simp [*]; done), by repeat (first | exact Drawn0.refl _ | apply Drawn0.step)⟩

/-! ### impl_isLiteral: function 65 -/
def impl_isLiteral.f (a0 : Int) (a1 : Int) : Option (Bool) := if a0 = 0 then (some false) else ((impl_in.f a0 (wrap64 (-a1)) a1).bind fun t194 => (some t194))
set_option maxHeartbeats 8000000 in
set_option maxRecDepth 100000 in
theorem impl_isLiteral.calls (a0 : Int) (a1 : Int) (r : Bool) (w : World) (h : impl_isLiteral.f a0 a1 = some r) :
    Calls Try.prog 65 #[.int .i64 a0, .int .i64 a1] w fun e w' => e = .returned (.bool r) ∧ Drawn0 w w' := by
  have H : (if a0 = 0 then (some false) else ((impl_in.f a0 (wrap64 (-a1)) a1).bind fun t194 => (some t194))) = some r := h
  clear h
  by_cases c3 : a0 = 0
  · rw [if_pos c3] at H
    have c3b0 : (a0 == 0) = true := beq_iff_eq.mpr c3
    have c3b1 : (a0 != 0) = false := bne_eq_false_iff_eq.mpr c3
    clear c3
    obtain rfl := Option.some.inj H
    go_enter Try.func65, Try.ntmps65
    go_wp2
    go_ret
    exact ⟨by first | rfl | (simp; done) | (simp [*]; done), by repeat (first | exact Drawn0.refl _ | apply Drawn0.step)⟩
  · rw [if_neg c3] at H
    have c3b0 : (a0 == 0) = false := beq_eq_false_iff_ne.mpr c3
    have c3b1 : (a0 != 0) = true := bne_iff_ne.mpr c3
    replace H := Option.bind_eq_some_iff.mp H
    obtain ⟨t194, A40, H⟩ := H
    replace H : (some t194) = some r := H
    have A4 := Aside0.mk A40
    clear A40
    obtain rfl := Option.some.inj H
    go_enter Try.func65, Try.ntmps65
    go_wp2_with (first | (go_at_call 64; (with_reducible refine (impl_in.calls a0 (wrap64 (-a1)) a1 t194 _ A4.out).mono ?_); rintro e w' ⟨rfl, ⟨nd, rfl⟩⟩))
    go_ret
    exact ⟨by first | rfl | (simp; done) | (simp [*]; done), by repeat (first | exact Drawn0.refl _ | apply Drawn0.step)⟩

/-! ### slices_IndexFunc_int_int_78: function 78 -/
def pidx (p : Int → Bool) (l : List Int) : Int := if l.any p = true then (l.findIdx p : Int) else -1
theorem pidx_hit (p : Int → Bool) (l : List Int) (i : Int) (h0 : 0 ≤ i) (h1 : i < (l.length : Int)) (hb : ∀ j : Nat, (j : Int) < i → p (rd l j) = false) (hp : p (rd l i) = true) : pidx p l = i := by
  have hl : i.toNat < l.length := by omega
  have e : rd l i = l[i.toNat] := by unfold rd; rw [List.getD_eq_getElem?_getD, List.getElem?_eq_getElem hl]; rfl
  have hany : l.any p = true := List.any_eq_true.2 ⟨_, List.getElem_mem hl, by rw [← e]; exact hp⟩
  have hf : l.findIdx p = i.toNat := by
    rw [List.findIdx_eq hl]
    refine ⟨by rw [← e]; exact hp, fun j hj => ?_⟩
    have := hb j (by omega)
    unfold rd at this
    rw [List.getD_eq_getElem?_getD, show ((j : Int).toNat) = j by omega, List.getElem?_eq_getElem (by omega)] at this
    simpa using this
  unfold pidx
  rw [if_pos hany, hf]
  omega
theorem pidx_miss (p : Int → Bool) (l : List Int) (h : ∀ j : Nat, j < l.length → p (rd l j) = false) : pidx p l = -1 := by
  have : ¬ l.any p = true := by
    intro hany
    obtain ⟨x, hx, hp⟩ := List.any_eq_true.1 hany
    obtain ⟨j, hj, rfl⟩ := List.mem_iff_getElem.1 hx
    have := h j hj
    unfold rd at this
    rw [List.getD_eq_getElem?_getD, show ((j : Int).toNat) = j by omega, List.getElem?_eq_getElem hj] at this
    simp [hp] at this
  unfold pidx
  rw [if_neg this]
theorem pidx_nonneg (p : Int → Bool) (l : List Int) : decide (0 ≤ pidx p l) = l.any p := by
  unfold pidx
  cases h : l.any p
  · simp
  · simp
set_option maxHeartbeats 8000000 in
set_option maxRecDepth 100000 in
theorem slices_IndexFunc_int_calls (p : Int → Bool) (g : Nat) (lb : Array Value) (eg : ∀ args w, (callFunc g args).run Try.prog w = .ok (.enter g args) w) (A0 : Option Addr) (c0 : Nat) (l0 : List Int) (w : World) (hr0 : Kd.C (Kd.int .i64) w A0 l0.length l0)
    (hp : ∀ (x : Int) (q : Nat), x ∈ l0 → Calls Try.prog g (#[.int .i64 x] ++ lb) (w.drewN q) fun e w' => e = .returned (.bool (p x)) ∧ ∃ q', w' = (w.drewN q).drewN q') :
    Calls Try.prog 78 #[.slice A0 l0.length c0, .func (.func g) #[] lb] w fun e w' => e = .returned (.int .i64 (pidx p l0)) ∧ Drawn0 w w' := by
  have HR0 := Aside0.mk hr0
  have HP := Aside0.mk hp
  clear hr0 hp
  go_enter Try.func78, Try.ntmps78
  go_wp2
  go_loopg [5, 8] l0.length (fun kq _ v8 w' => ∃ (x : Int), v8 = .int .i64 x ∧ Aside0 (0 ≤ x ∧ x ≤ (l0.length : Int) ∧ (l0.length : Int) - x ≤ kq ∧ ∀ j : Nat, (j : Int) < x → p (rd l0 j) = false) ∧ Drawn0 w w')
  case atStart => exact ⟨0, rfl, ⟨by omega, by omega, by omega, fun j hj => absurd hj (by omega)⟩, by repeat (first | exact Drawn0.refl _ | apply Drawn0.step)⟩
  case round =>
    obtain ⟨x, rfl, HA, ⟨m1, rfl⟩⟩ := hrel
    by_cases c3 : x < (l0.length : Int)
    · have c3b0 : decide (x < (l0.length : Int)) = true := decide_eq_true c3
      have p101 : 0 ≤ x := HA.out.1
      have q101 := c3
      obtain ⟨ad101, e101, hx101_0⟩ := Kd.at_int HR0.out x p101 q101
      cases e101
      have hmem : rd l0 x ∈ l0 := by
        unfold rd
        rw [List.getD_eq_getElem?_getD, List.getElem?_eq_getElem (show x.toNat < l0.length by omega)]
        exact List.getElem_mem _
      have hcall := HP.out (rd l0 x)
      have hw1 : wrap64 (x + 1) = x + 1 := by
        have := HR0.out.2.1
        unfold wrap64
        omega
      have HW := Aside0.mk hw1
      have HM := Aside0.mk hmem
      clear hw1 hmem c3
      replace p101 := eq_true p101
      replace q101 := eq_true q101
      cases hq : p (rd l0 x) with
      | true =>
        rw [hq] at hcall
        have HQ := Aside0.mk hq
        clear hq
        go_wp2_with (go_at_fn g; refine (hcall _ HM.out).mono ?_; rintro e w' ⟨rfl, q', rfl⟩)
        go_ret
        refine ⟨?_, by repeat (first | exact Drawn0.refl _ | apply Drawn0.step)⟩
        rw [pidx_hit p l0 x HA.out.1 (of_eq_true q101) HA.out.2.2.2 HQ.out]
        rfl
      | false =>
        rw [hq] at hcall
        have HQ := Aside0.mk hq
        clear hq
        go_wp2_with (go_at_fn g; refine (hcall _ HM.out).mono ?_; rintro e w' ⟨rfl, q', rfl⟩)
        go_roundg (gk - 1)
        case measure => have := HA.out.2.2.1; have := of_eq_true q101; omega
        case rel =>
          refine ⟨x + 1, by first | rfl | (rw [← HW.out]; done) | (rw [HW.out]; done) | simp [HW.out], ⟨by have := HA.out.1; omega, by have := of_eq_true q101; omega, by have := HA.out.2.2.1; have := of_eq_true q101; omega, fun j hj => ?_⟩, by repeat (first | exact Drawn0.refl _ | apply Drawn0.step)⟩
          by_cases e : (j : Int) = x
          · rw [e]; exact HQ.out
          · exact HA.out.2.2.2 j (by omega)
    · have c3b0 : decide (x < (l0.length : Int)) = false := decide_eq_false c3
      have hx : x = (l0.length : Int) := by have := HA.out.2.1; omega
      have HX := Aside0.mk hx
      clear hx c3
      go_wp2
      go_ret
      refine ⟨?_, by repeat (first | exact Drawn0.refl _ | apply Drawn0.step)⟩
      rw [pidx_miss p l0 (fun j hj => HA.out.2.2.2 j (by rw [HX.out]; omega))]
      rfl


/-! ### slices_ContainsFunc_int_int_66: function 66 -/
set_option maxHeartbeats 8000000 in
set_option maxRecDepth 100000 in
theorem slices_ContainsFunc_int_calls (p : Int → Bool) (g : Nat) (lb : Array Value) (eg : ∀ args w, (callFunc g args).run Try.prog w = .ok (.enter g args) w) (A0 : Option Addr) (c0 : Nat) (l0 : List Int) (w : World) (hr0 : Kd.C (Kd.int .i64) w A0 l0.length l0)
    (hp : ∀ (x : Int) (q : Nat), x ∈ l0 → Calls Try.prog g (#[.int .i64 x] ++ lb) (w.drewN q) fun e w' => e = .returned (.bool (p x)) ∧ ∃ q', w' = (w.drewN q).drewN q') :
    Calls Try.prog 66 #[.slice A0 l0.length c0, .func (.func g) #[] lb] w fun e w' => e = .returned (.bool (l0.any p)) ∧ Drawn0 w w' := by
  have HN := Aside0.mk (pidx_nonneg p l0)
  generalize hv : l0.any p = v at HN
  have HR0 := Aside0.mk hr0
  clear hr0 hv
  go_enter Try.func66, Try.ntmps66
  have hn := HN.out
  go_wp2_with (go_at_call 78; (with_reducible refine (slices_IndexFunc_int_calls p g lb eg A0 c0 l0 _ HR0.out hp).mono ?_); rintro e w' ⟨rfl, ⟨nd, rfl⟩⟩)
  go_ret
  exact ⟨by first | rfl | simp, by repeat (first | exact Drawn0.refl _ | apply Drawn0.step)⟩


/-! ### impl_variable: function 68 -/
def vab (n : Int) : Int := if n < wrap64 (-n) then wrap64 (-n) else n
def impl_variable.f (a0 : Int) : Option (Int) := some (vab a0)
theorem impl_variable_val (n : Int) : impl_variable.f n = some (vab n) := rfl
set_option maxHeartbeats 8000000 in
set_option maxRecDepth 100000 in
theorem impl_variable.calls (a0 : Int) (r : Int) (w : World) (h : impl_variable.f a0 = some r) :
    Calls Try.prog 68 #[.int .i64 a0] w fun e w' => e = .returned (.int .i64 r) ∧ Drawn0 w w' := by
  have H : (some (vab a0)) = some r := h
  clear h
  obtain ⟨ji2, hji2⟩ : ∃ j_ : Int, (vab a0) = j_ := ⟨_, rfl⟩
  replace H : (some ji2) = some r := by rw [hji2] at H; exact H
  have hji2_ : (if a0 < (wrap64 (-a0)) then (wrap64 (-a0)) else a0) = ji2 := hji2
  obtain rfl := Option.some.inj H
  clear hji2
  go_enter Try.func68, Try.ntmps68
  go_wp2
  go_ret
  exact ⟨by first | rfl | simp, by repeat (first | exact Drawn0.refl _ | apply Drawn0.step)⟩


/-! ### impl_isClause_1: function 67 -/
theorem given_quiet {P : Program} {f : FuncId} {args : Array Value} {w : World} {n : Nat} {v : Value} (h : Calls P f args (w.drewN n) fun e w' => e = .returned v ∧ Drawn0 (w.drewN n) w') :
    Calls P f args (w.drewN n) fun e w'' => e = .returned v ∧ ∃ m, w'' = w.drewN m := by
  refine h.mono ?_
  rintro e w' ⟨he, ⟨m, rfl⟩⟩
  exact ⟨he, n + m, by rw [World.drewN_drewN]⟩
set_option maxHeartbeats 8000000 in
set_option maxRecDepth 100000 in
theorem impl_isClause_1_calls (n k : Int) (B : Nat) (w : World) (hc : w.cell? ⟨B, 0, none⟩ = some (.int .i64 n)) :
    Calls Try.prog 67 #[.int .i64 k, .pointer (some ⟨B, 0, none⟩)] w fun e w' => e = .returned (.bool (vab k == vab n)) ∧ ∃ q, w' = w.drewN q := by
  go_enter Try.func67, Try.ntmps67
  go_wp2
  go_quiet ((go_at_call 68; first | exact given_quiet (impl_variable.calls k (vab k) _ (impl_variable_val k)) | exact given_quiet (impl_variable.calls n (vab n) _ (impl_variable_val n))))
  go_wp2
  go_ret
  exact ⟨by first | rfl | simp, _, rfl⟩


/-! ### impl_isClause: function 51 -/
def litB (n v : Int) : Bool := decide (n ≠ 0) && (decide (wrap64 (-v) ≤ n) && decide (n ≤ v))
def clauseFrom (v : Int) : List Int → List Int → Bool
  | _, [] => true
  | seen, n :: r => litB n v && (!(seen.any fun k => vab k == vab n) && clauseFrom v (seen ++ [n]) r)
def isClauseB (l : List Int) (v : Int) : Bool := clauseFrom v [] l && decide (l.length ≤ 12)
def impl_isClause.f (l0 : List Int) (a1 : Int) : Option (Bool) := some (isClauseB l0 a1)
theorem impl_isLiteral_val (n v : Int) : impl_isLiteral.f n v = some (litB n v) := by
  unfold impl_isLiteral.f impl_in.f litB
  by_cases h : n = 0
  · simp [h]
  · rw [if_neg h]
    by_cases h2 : n ≥ wrap64 (-v)
    · rw [if_pos h2]
      simp [h, h2]
    · rw [if_neg h2]
      simp [h, h2]
theorem clauseFrom_at (v : Int) (l : List Int) (x : Int) (h0 : 0 ≤ x) (h1 : x < (l.length : Int)) :
    clauseFrom v (l.take x.toNat) (l.drop x.toNat) = (litB (rd l x) v && (!((l.take x.toNat).any fun k => vab k == vab (rd l x)) && clauseFrom v (l.take (x + 1).toNat) (l.drop (x + 1).toNat))) := by
  have hl : x.toNat < l.length := by omega
  have e : rd l x = l[x.toNat] := by unfold rd; rw [List.getD_eq_getElem?_getD, List.getElem?_eq_getElem hl]; rfl
  have e1 : (x + 1).toNat = x.toNat + 1 := by omega
  rw [List.drop_eq_getElem_cons hl, e1, List.take_succ_eq_append_getElem hl, e]
  rfl
set_option maxHeartbeats 8000000 in
set_option maxRecDepth 100000 in
theorem impl_isClause.calls (A0 : Option Addr) (c0 : Nat) (l0 : List Int) (a1 : Int) (r : Bool) (w : World) (hr0 : Kd.C (Kd.int .i64) w A0 l0.length l0) (hc0 : l0.length ≤ c0) (h : impl_isClause.f l0 a1 = some r) :
    Calls Try.prog 51 #[.slice A0 l0.length c0, .int .i64 a1] w fun e w' => e = .returned (.bool r) ∧ Below w.heap.size w w' := by
  have HR0 := Aside0.mk hr0
  have HC0 := Aside0.mk hc0
  have HR := Aside0.mk (Option.some.inj h)
  have HL := Aside0.mk hr0.2.1
  clear hr0 hc0 h
  have HB := Aside0.mk (Below.refl w.heap.size w)
  have eg := enters_of Try.func67 (by kernel_rfl) rfl
  go_enter Try.func51, Try.ntmps51
  go_wp2
  go_loopg [9] l0.length (fun kq v9 w' => ∃ (x : Int), v9 = .int .i64 x ∧ Aside0 (0 ≤ x ∧ x ≤ (l0.length : Int) ∧ (l0.length : Int) - x ≤ kq ∧ (clauseFrom a1 (l0.take x.toNat) (l0.drop x.toNat) && decide (l0.length ≤ 12)) = r) ∧ Aside0 (Below w.heap.size w w'))
  case atStart => exact ⟨0, rfl, ⟨by omega, by omega, by omega, HR.out⟩, HB⟩
  case round =>
    clear HB HR
    obtain ⟨x, rfl, HA, HB⟩ := hrel
    by_cases c3 : x < (l0.length : Int)
    · have c3b0 : decide (x < (l0.length : Int)) = true := decide_eq_true c3
      have p101 : 0 ≤ x := HA.out.1
      have q101 := c3
      obtain ⟨ad101, e101, hx101_0⟩ := Kd.at_int HR0.out x p101 q101
      cases e101
      replace hx101_0 := (HB.out.cell (World.block_lt_of_cell? w _ hx101_0)).trans hx101_0
      have HW := Aside0.mk (show wrap64 (x + 1) = x + 1 by have := HL.out; unfold wrap64; omega)
      have HS := Aside0.mk (clauseFrom_at a1 l0 x p101 q101)
      have q101' : x ≤ (l0.length : Int) := by omega
      have q101b : decide (x ≤ (l0.length : Int)) = true := decide_eq_true q101'
      clear c3
      have HP := Aside0.mk p101
      have HQ := Aside0.mk q101
      replace p101 := eq_true p101
      replace q101 := eq_true q101
      replace q101' := eq_true q101'
      generalize hn : rd l0 x = n at HS hx101_0
      clear hn
      obtain ⟨i0, hi0, _, hsz0, _⟩ := info_parts info3
      obtain ⟨hcut, hAt, hCt⟩ := print_take_of (P := Try.prog) (Value.int .i64) 0 29 3 .i64 Try.underlying29 hi0 hsz0 (some ad101) c0 l0 x HP.out (by have := HQ.out; omega) HC0.out
      have HRT := Aside0.mk (Kd.C_of_reads (d := (0 : Int)) (h1 := fun _ => rfl) (hAt _ (Kd.reads_of_C HR0.out)))
      clear hcut hAt hCt hi0 hsz0
      have qc := eq_true (show x ≤ (c0 : Int) by have := HC0.out; have := HQ.out; omega)
      have qcb : decide (x ≤ (c0 : Int)) = true := decide_eq_true (of_eq_true qc)
      cases hlit : litB n a1 with
      | false =>
        have HLit := Aside0.mk (show impl_isLiteral.f n a1 = some false by rw [impl_isLiteral_val, hlit])
        have HF := Aside0.mk (show r = false by rw [← HA.out.2.2.2, HS.out, hlit]; rfl)
        clear hlit HA HS
        obtain rfl := HF.out
        go_wp2_with (go_at_call 65; (with_reducible refine (impl_isLiteral.calls n a1 false _ HLit.out).mono ?_); rintro e w' ⟨rfl, ⟨nd, rfl⟩⟩)
        go_ret
        exact ⟨rfl, by repeat (first | (with_reducible first | exact HB.out | apply below_alloc | apply pw_below_drewN | apply below_drew1) | exact HB.out)⟩
      | true =>
        have HLit := Aside0.mk (show impl_isLiteral.f n a1 = some true by rw [impl_isLiteral_val, hlit])
        cases hany : ((l0.take x.toNat).any fun k => vab k == vab n) with
        | true =>
          have HF := Aside0.mk (show r = false by rw [← HA.out.2.2.2, HS.out, hlit, hany]; rfl)
          have HY := Aside0.mk hany
          clear hlit hany HA HS
          obtain rfl := HF.out
          go_wp2_with (first | (go_at_call 65; (with_reducible refine (impl_isLiteral.calls n a1 true _ HLit.out).mono ?_); rintro e w' ⟨rfl, ⟨nd, rfl⟩⟩) | (go_at_call 66; refine (recast_ (slices_ContainsFunc_int_calls (fun k => vab k == vab n) 67 #[.pointer (some ⟨wr.heap.size, 0, none⟩)] eg _ _ (l0.take x.toNat) _ ?s1 ?s2) (by rw [take_len_ l0 x HP.out (by have := HQ.out; omega)])).mono ?_; (case s1 => exact Kd.C_below HRT.out (by repeat (first | (with_reducible first | exact HB.out | apply below_alloc | apply pw_below_drewN | apply below_drew1) | exact HB.out))); (case s2 => exact fun z q _ => impl_isClause_1_calls n z _ _ (by simp)); rintro e w' ⟨he, ⟨nd2, rfl⟩⟩; rw [HY.out] at he; subst he))
          go_ret
          exact ⟨rfl, by repeat (first | (with_reducible first | exact HB.out | apply below_alloc | apply pw_below_drewN | apply below_drew1) | exact HB.out)⟩
        | false =>
          have HF := Aside0.mk (show (clauseFrom a1 (l0.take (x + 1).toNat) (l0.drop (x + 1).toNat) && decide (l0.length ≤ 12)) = r by rw [← HA.out.2.2.2, HS.out, hlit, hany]; rfl)
          have HY := Aside0.mk hany
          clear hlit hany HS
          go_wp2_with (first | (go_at_call 65; (with_reducible refine (impl_isLiteral.calls n a1 true _ HLit.out).mono ?_); rintro e w' ⟨rfl, ⟨nd, rfl⟩⟩) | (go_at_call 66; refine (recast_ (slices_ContainsFunc_int_calls (fun k => vab k == vab n) 67 #[.pointer (some ⟨wr.heap.size, 0, none⟩)] eg _ _ (l0.take x.toNat) _ ?s1 ?s2) (by rw [take_len_ l0 x HP.out (by have := HQ.out; omega)])).mono ?_; (case s1 => exact Kd.C_below HRT.out (by repeat (first | (with_reducible first | exact HB.out | apply below_alloc | apply pw_below_drewN | apply below_drew1) | exact HB.out))); (case s2 => exact fun z q _ => impl_isClause_1_calls n z _ _ (by simp)); rintro e w' ⟨he, ⟨nd2, rfl⟩⟩; rw [HY.out] at he; subst he))
          go_roundg (gk - 1)
          case measure => have := HA.out.2.2.1; have := HQ.out; omega
          case rel => exact ⟨x + 1, by first | rfl | (rw [← HW.out]; done) | (rw [HW.out]; done) | simp [HW.out], ⟨by have := HP.out; omega, by have := HQ.out; omega, by have := HA.out.2.2.1; have := HQ.out; omega, HF.out⟩, ⟨by repeat (first | (with_reducible first | exact HB.out | apply below_alloc | apply pw_below_drewN | apply below_drew1) | exact HB.out)⟩⟩
    · have c3b0 : decide (x < (l0.length : Int)) = false := decide_eq_false c3
      have hx : x = (l0.length : Int) := by have := HA.out.2.1; omega
      have HX := Aside0.mk hx
      clear hx c3
      go_wp2
      go_ret
      refine ⟨?_, by repeat (first | (with_reducible first | exact HB.out | apply below_alloc | apply pw_below_drewN | apply below_drew1) | exact HB.out)⟩
      have := HA.out.2.2.2
      rw [HX.out] at this
      simp [clauseFrom] at this
      rw [← this]
      first | rfl | (simp; omega) | simp


/-! ### slices_IndexFunc_int_int_83: function 83 -/
def rowAt_ (l : List (List Int)) (i : Int) : List Int := l.getD i.toNat []
def pidxR (p : List Int → Bool) (l : List (List Int)) : Int := if l.any p = true then (l.findIdx p : Int) else -1
theorem pidxR_hit (p : List Int → Bool) (l : List (List Int)) (i : Int) (h0 : 0 ≤ i) (h1 : i < (l.length : Int)) (hb : ∀ j : Nat, (j : Int) < i → p (rowAt_ l j) = false) (hp : p (rowAt_ l i) = true) : pidxR p l = i := by
  have hl : i.toNat < l.length := by omega
  have e : rowAt_ l i = l[i.toNat] := by unfold rowAt_; rw [List.getD_eq_getElem?_getD, List.getElem?_eq_getElem hl]; rfl
  have hany : l.any p = true := List.any_eq_true.2 ⟨_, List.getElem_mem hl, by rw [← e]; exact hp⟩
  have hf : l.findIdx p = i.toNat := by
    rw [List.findIdx_eq hl]
    refine ⟨by rw [← e]; exact hp, fun j hj => ?_⟩
    have := hb j (by omega)
    unfold rowAt_ at this
    rw [List.getD_eq_getElem?_getD, show ((j : Int).toNat) = j by omega, List.getElem?_eq_getElem (by omega)] at this
    simpa using this
  unfold pidxR
  rw [if_pos hany, hf]
  omega
theorem pidxR_miss (p : List Int → Bool) (l : List (List Int)) (h : ∀ j : Nat, j < l.length → p (rowAt_ l j) = false) : pidxR p l = -1 := by
  have : ¬ l.any p = true := by
    intro hany
    obtain ⟨x, hx, hp⟩ := List.any_eq_true.1 hany
    obtain ⟨j, hj, rfl⟩ := List.mem_iff_getElem.1 hx
    have := h j hj
    unfold rowAt_ at this
    rw [List.getD_eq_getElem?_getD, show ((j : Int).toNat) = j by omega, List.getElem?_eq_getElem hj] at this
    simp [hp] at this
  unfold pidxR
  rw [if_neg this]
theorem pidxR_nonneg (p : List Int → Bool) (l : List (List Int)) : decide (0 ≤ pidxR p l) = l.any p := by
  unfold pidxR
  cases h : l.any p
  · simp
  · simp
theorem given_at_row {w : World} {A : Option Addr} {n : Nat} {xs : List (List Int)} (h : Kd.C (Kd.slice 3 (Kd.int .i64)) w A n xs) (i : Int) (h0 : 0 ≤ i) (h1 : i < n) :
    ∃ ad A0 c0, A = some ad ∧ w.cell? (ad.add i.toNat) = some (.slice A0 (rowAt_ xs i).length c0) ∧ (rowAt_ xs i).length ≤ c0 ∧ (Kd.int .i64).C w A0 (rowAt_ xs i).length (rowAt_ xs i) := by
  obtain ⟨ad, c, e, _, hK, hc0⟩ := Kd.C_get h ([] : List Int) i h0 h1
  have hc : ∀ j u, c[j]? = some u → w.cell? (ad.add (i.toNat * 1 + j)) = some u := hc0
  obtain ⟨A0, c0, rfl, l0, g0⟩ := hK
  unfold rowAt_
  exact ⟨ad, A0, c0, e, by have hq := hc 0 _ rfl; rwa [Nat.mul_one, Nat.add_zero] at hq, l0, g0⟩
set_option maxHeartbeats 8000000 in
set_option maxRecDepth 100000 in
theorem slices_IndexFunc_rows_calls (p : List Int → Bool) (g : Nat) (lb : Array Value) (eg : ∀ args w, (callFunc g args).run Try.prog w = .ok (.enter g args) w) (A0 : Option Addr) (c0 : Nat) (l0 : List (List Int)) (w : World) (hr0 : Kd.C (Kd.slice 3 (Kd.int .i64)) w A0 l0.length l0)
    (hp : ∀ (x : List Int) (A : Option Addr) (c : Nat) (W : World), x ∈ l0 → Kd.C (Kd.int .i64) W A x.length x → x.length ≤ c → Below w.heap.size w W → Calls Try.prog g (#[.slice A x.length c] ++ lb) W fun e w' => e = .returned (.bool (p x)) ∧ Below W.heap.size W w') :
    Calls Try.prog 83 #[.slice A0 l0.length c0, .func (.func g) #[] lb] w fun e w' => e = .returned (.int .i64 (pidxR p l0)) ∧ Below w.heap.size w w' := by
  have HR0 := Aside0.mk hr0
  have HP := Aside0.mk hp
  clear hr0 hp
  have HB := Aside0.mk (Below.refl w.heap.size w)
  go_enter Try.func83, Try.ntmps83
  go_wp2
  go_loopg [5, 8] l0.length (fun kq _ v8 w' => ∃ (x : Int), v8 = .int .i64 x ∧ Aside0 (0 ≤ x ∧ x ≤ (l0.length : Int) ∧ (l0.length : Int) - x ≤ kq ∧ ∀ j : Nat, (j : Int) < x → p (rowAt_ l0 j) = false) ∧ Aside0 (Below w.heap.size w w'))
  case atStart => exact ⟨0, rfl, ⟨by omega, by omega, by omega, fun j hj => absurd hj (by omega)⟩, HB⟩
  case round =>
    clear HB
    obtain ⟨x, rfl, HA, HB⟩ := hrel
    by_cases c3 : x < (l0.length : Int)
    · have c3b0 : decide (x < (l0.length : Int)) = true := decide_eq_true c3
      have p101 : 0 ≤ x := HA.out.1
      have q101 := c3
      obtain ⟨ad101, A9, c9, e101, hx101_0, hl9, hr9⟩ := given_at_row HR0.out x p101 q101
      cases e101
      replace hx101_0 := (HB.out.cell (World.block_lt_of_cell? w _ hx101_0)).trans hx101_0
      have hmem : rowAt_ l0 x ∈ l0 := by
        unfold rowAt_
        rw [List.getD_eq_getElem?_getD, List.getElem?_eq_getElem (show x.toNat < l0.length by omega)]
        exact List.getElem_mem _
      have hcall := fun W hW hB => HP.out (rowAt_ l0 x) A9 c9 W hmem hW hl9 hB
      have hw1 : wrap64 (x + 1) = x + 1 := by
        have := HR0.out.2.1
        unfold wrap64
        omega
      have HW := Aside0.mk hw1
      have HR9 := Aside0.mk hr9
      clear hw1 hmem c3 hr9 hl9
      replace p101 := eq_true p101
      replace q101 := eq_true q101
      cases hq : p (rowAt_ l0 x) with
      | true =>
        rw [hq] at hcall
        have HQ := Aside0.mk hq
        have HC := Aside0.mk hcall
        clear hq hcall
        go_wp2_with (go_at_fn g; refine (HC.out _ ?s1 ?s2).mono ?_; (case s1 => exact Kd.C_below HR9.out (by repeat (first | (with_reducible first | exact HB.out | apply below_alloc | apply pw_below_drewN | apply below_drew1) | exact HB.out))); (case s2 => repeat (first | (with_reducible first | exact HB.out | apply below_alloc | apply pw_below_drewN | apply below_drew1) | exact HB.out)); rintro e w5 ⟨rfl, hb⟩; have n1_ := Aside0.mk (below_step (by repeat (first | (with_reducible first | exact HB.out | apply below_alloc | apply pw_below_drewN | apply below_drew1) | exact HB.out)) hb); clear HB; have HB := n1_; clear n1_ hb)
        go_ret
        refine ⟨?_, by repeat (first | (with_reducible first | exact HB.out | apply below_alloc | apply pw_below_drewN | apply below_drew1) | exact HB.out)⟩
        rw [pidxR_hit p l0 x HA.out.1 (of_eq_true q101) HA.out.2.2.2 HQ.out]
        rfl
      | false =>
        rw [hq] at hcall
        have HQ := Aside0.mk hq
        have HC := Aside0.mk hcall
        clear hq hcall
        go_wp2_with (go_at_fn g; refine (HC.out _ ?s1 ?s2).mono ?_; (case s1 => exact Kd.C_below HR9.out (by repeat (first | (with_reducible first | exact HB.out | apply below_alloc | apply pw_below_drewN | apply below_drew1) | exact HB.out))); (case s2 => repeat (first | (with_reducible first | exact HB.out | apply below_alloc | apply pw_below_drewN | apply below_drew1) | exact HB.out)); rintro e w5 ⟨rfl, hb⟩; have n1_ := Aside0.mk (below_step (by repeat (first | (with_reducible first | exact HB.out | apply below_alloc | apply pw_below_drewN | apply below_drew1) | exact HB.out)) hb); clear HB; have HB := n1_; clear n1_ hb)
        go_roundg (gk - 1)
        case measure => have := HA.out.2.2.1; have := of_eq_true q101; omega
        case rel =>
          refine ⟨x + 1, by first | rfl | (rw [← HW.out]; done) | (rw [HW.out]; done) | simp [HW.out], ⟨by have := HA.out.1; omega, by have := of_eq_true q101; omega, by have := HA.out.2.2.1; have := of_eq_true q101; omega, fun j hj => ?_⟩, ⟨by repeat (first | (with_reducible first | exact HB.out | apply below_alloc | apply pw_below_drewN | apply below_drew1) | exact HB.out)⟩⟩
          by_cases e : (j : Int) = x
          · rw [e]
            exact HQ.out
          · exact HA.out.2.2.2 j (by omega)
    · have c3b0 : decide (x < (l0.length : Int)) = false := decide_eq_false c3
      have hx : x = (l0.length : Int) := by have := HA.out.2.1; omega
      have HX := Aside0.mk hx
      clear hx c3
      go_wp2
      go_ret
      refine ⟨?_, by repeat (first | (with_reducible first | exact HB.out | apply below_alloc | apply pw_below_drewN | apply below_drew1) | exact HB.out)⟩
      rw [pidxR_miss p l0 (fun j hj => HA.out.2.2.2 j (by rw [HX.out]; omega))]
      rfl


/-! ### slices_ContainsFunc_int_int_75: function 75 -/
set_option maxHeartbeats 8000000 in
set_option maxRecDepth 100000 in
theorem slices_ContainsFunc_rows_calls (p : List Int → Bool) (g : Nat) (lb : Array Value) (eg : ∀ args w, (callFunc g args).run Try.prog w = .ok (.enter g args) w) (A0 : Option Addr) (c0 : Nat) (l0 : List (List Int)) (w : World) (hr0 : Kd.C (Kd.slice 3 (Kd.int .i64)) w A0 l0.length l0)
    (hp : ∀ (x : List Int) (A : Option Addr) (c : Nat) (W : World), x ∈ l0 → Kd.C (Kd.int .i64) W A x.length x → x.length ≤ c → Below w.heap.size w W → Calls Try.prog g (#[.slice A x.length c] ++ lb) W fun e w' => e = .returned (.bool (p x)) ∧ Below W.heap.size W w') :
    Calls Try.prog 75 #[.slice A0 l0.length c0, .func (.func g) #[] lb] w fun e w' => e = .returned (.bool (l0.any p)) ∧ Below w.heap.size w w' := by
  have HN := Aside0.mk (pidxR_nonneg p l0)
  generalize hv : l0.any p = v at HN
  have HR0 := Aside0.mk hr0
  have HP := Aside0.mk hp
  clear hr0 hv hp
  have HB := Aside0.mk (Below.refl w.heap.size w)
  go_enter Try.func75, Try.ntmps75
  have hn := HN.out
  go_wp2_with (go_at_call 83; (with_reducible refine (slices_IndexFunc_rows_calls p g lb eg A0 c0 l0 _ HR0.out HP.out).mono ?_); rintro e w5 ⟨rfl, hb⟩; have n1_ := Aside0.mk (below_step (by repeat (first | (with_reducible first | exact HB.out | apply below_alloc | apply pw_below_drewN | apply below_drew1) | exact HB.out)) hb); clear HB; have HB := n1_; clear n1_ hb)
  go_ret
  exact ⟨by first | rfl | simp, by repeat (first | (with_reducible first | exact HB.out | apply below_alloc | apply pw_below_drewN | apply below_drew1) | exact HB.out)⟩


/-! ### impl_areClauses_1: function 76 -/
set_option maxHeartbeats 8000000 in
set_option maxRecDepth 100000 in
theorem impl_areClauses_1_calls (v : Int) (B : Nat) (A : Option Addr) (c : Nat) (x : List Int) (w : World) (hr : Kd.C (Kd.int .i64) w A x.length x) (hl : x.length ≤ c) (hc : w.cell? ⟨B, 0, none⟩ = some (.int .i64 v)) :
    Calls Try.prog 76 (#[.slice A x.length c] ++ #[.pointer (some ⟨B, 0, none⟩)]) w fun e w' => e = .returned (.bool (!isClauseB x v)) ∧ Below w.heap.size w w' := by
  have HR := Aside0.mk hr
  have HL := Aside0.mk hl
  clear hr hl
  have HB := Aside0.mk (Below.refl w.heap.size w)
  obtain ⟨b, hb⟩ : ∃ b, isClauseB x v = b := ⟨_, rfl⟩
  have HV := Aside0.mk (show impl_isClause.f x v = some b by unfold impl_isClause.f; rw [hb])
  rw [hb]
  clear hb
  show Calls Try.prog 76 #[.slice A x.length c, .pointer (some ⟨B, 0, none⟩)] w _
  go_enter Try.func76, Try.ntmps76
  go_wp2_with (go_at_call 51; (with_reducible refine (impl_isClause.calls A c x v b _ ?s1 HL.out HV.out).mono ?_); (case s1 => repeat (first | exact HR.out | (with_reducible refine Kd.C_alloc ?_ _) | (with_reducible refine Kd.C_drewN ?_ _) | (with_reducible refine Kd.C_drew ?_))); rintro e w5 ⟨rfl, hb⟩; have n1_ := Aside0.mk (below_step (by repeat (first | (with_reducible first | exact HB.out | apply below_alloc | apply pw_below_drewN | apply below_drew1) | exact HB.out)) hb); clear HB; have HB := n1_; clear n1_ hb)
  go_ret
  exact ⟨by first | rfl | simp, by repeat (first | (with_reducible first | exact HB.out | apply below_alloc | apply pw_below_drewN | apply below_drew1) | exact HB.out)⟩


/-! ### impl_areClauses: function 60 -/
def impl_areClauses.f (l0 : List (List Int)) (a1 : Int) : Option (Bool) := some (!(l0.any fun x => !isClauseB x a1))
set_option maxHeartbeats 8000000 in
set_option maxRecDepth 100000 in
theorem impl_areClauses.calls (A0 : Option Addr) (c0 : Nat) (l0 : List (List Int)) (a1 : Int) (r : Bool) (w : World) (hr0 : Kd.C (Kd.slice 3 (Kd.int .i64)) w A0 l0.length l0) (hc0 : l0.length ≤ c0) (h : impl_areClauses.f l0 a1 = some r) :
    Calls Try.prog 60 #[.slice A0 l0.length c0, .int .i64 a1] w fun e w' => e = .returned (.bool r) ∧ Below w.heap.size w w' := by
  have HR0 := Aside0.mk hr0
  have HR := Aside0.mk (Option.some.inj h)
  clear hr0 hc0 h
  have HB := Aside0.mk (Below.refl w.heap.size w)
  have eg := enters_of Try.func76 (by kernel_rfl) rfl
  obtain ⟨b, hb⟩ : ∃ b, (l0.any fun x => !isClauseB x a1) = b := ⟨_, rfl⟩
  have HY := Aside0.mk hb
  have HF := Aside0.mk (show r = !b by rw [← HR.out, hb])
  clear hb HR
  obtain rfl := HF.out
  go_enter Try.func60, Try.ntmps60
  go_wp2_with (go_at_call 75; refine (slices_ContainsFunc_rows_calls (fun x => !isClauseB x a1) 76 #[.pointer (some ⟨w.heap.size, 0, none⟩)] eg _ _ l0 _ ?s1 ?s2).mono ?_; (case s1 => repeat (first | exact HR0.out | (with_reducible refine Kd.C_alloc ?_ _) | (with_reducible refine Kd.C_drewN ?_ _) | (with_reducible refine Kd.C_drew ?_))); (case s2 => exact fun x A c W _ hx hl hW => impl_areClauses_1_calls a1 _ A c x W hx hl ((hW.cell (p := ⟨w.heap.size, 0, none⟩) (by simp)).trans (by simp))); rintro e w5 ⟨he, hb⟩; rw [HY.out] at he; subst he; have n1_ := Aside0.mk (below_step (by repeat (first | (with_reducible first | exact HB.out | apply below_alloc | apply pw_below_drewN | apply below_drew1) | exact HB.out)) hb); clear HB; have HB := n1_; clear n1_ hb)
  go_ret
  exact ⟨by first | rfl | simp, by repeat (first | (with_reducible first | exact HB.out | apply below_alloc | apply pw_below_drewN | apply below_drew1) | exact HB.out)⟩


end Go.Proofs.Ytafffpbagdoniaa.PFnExactNeededIn
