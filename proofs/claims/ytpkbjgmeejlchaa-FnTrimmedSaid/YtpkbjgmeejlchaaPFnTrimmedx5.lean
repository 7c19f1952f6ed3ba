-- Made by a program of this session (wip/tools), which leans on the kit's print: checked by Lean alone.
import Derived.Test.YtpkbjgmeejlchaaPFnTrimmedx0
import Derived.Test.YtpkbjgmeejlchaaPFnTrimmedx3
import Derived.Test.YtpkbjgmeejlchaaPFnTrimmedx4
namespace Go.Proofs.Ytpkbjgmeejlchaa.PFnTrimmed
open Go.RowKit Go.Proofs.YtpkbjgmeejlchaaW.PrintWords Go.Proofs.YtpkbjgmeejlchaaW.PrintLast Go.Proofs.YtpkbjgmeejlchaaW.PrintMore
attribute [local go_sem] max2_int min2_int max_two min_two max_three min_three max_four min_four   -- for this text's walks alone
set_option linter.unusedVariables false
set_option linter.unusedSimpArgs false
def spec_l5Negate.l0 : Nat → List Int → List Int → Int → Int → Option (List Int)
 | 0, _, _, _, _ => none
 | k + 1, x3, x6, x7, x8 => if x8 < x7 then (if 0 ≤ x8 then (if x8 < (x6.length : Int) then (if x3.length < 17592186044416 then (spec_l5Negate.l0 k (x3 ++ [wrap64 (-(rd x6 x8))]) x6 x7 (wrap64 (x8 + 1))) else (none)) else (none)) else (none)) else (some x3)
def spec_l5Negate.f (k : Nat) (l0 : List Int) : Option (List Int) := spec_l5Negate.l0 k ([] : List Int) l0 (l0.length : Int) 0
theorem spec_l5Negate.mono_l : ∀ k, (∀ y0 y1 y2 y3, LeO (spec_l5Negate.l0 k y0 y1 y2 y3) (spec_l5Negate.l0 (k + 1) y0 y1 y2 y3))
 | 0 => fun _ _ _ _ r h => by simp [spec_l5Negate.l0] at h
 | k + 1 => by
  have ih0 := spec_l5Negate.mono_l k
  ·intro y0 y1 y2 y3
   unfold spec_l5Negate.l0
   repeat' first
   | (with_reducible exact ih0 _ _ _ _)
   | (with_reducible exact LeO.refl _)
   | (with_reducible exact LeO.none _)
   | (with_reducible refine LeO.ite ?_ ?_)
   | (with_reducible refine LeO.bind ?_ (fun _ => ?_))
   | exact ih0 _ _ _ _
   | exact LeO.none _
   | refine LeO.ite ?_ ?_
   | refine LeO.bind ?_ (fun _ => ?_)
theorem spec_l5Negate.mono : ∀ a0 k, LeO (spec_l5Negate.f k a0) (spec_l5Negate.f (k + 1) a0) := by
 intro a0 k
 have ih0 := spec_l5Negate.mono_l k
 unfold spec_l5Negate.f
 repeat' first
   | (with_reducible exact ih0 _ _ _ _)
   | (with_reducible exact LeO.refl _)
   | (with_reducible exact LeO.none _)
   | (with_reducible refine LeO.ite ?_ ?_)
   | (with_reducible refine LeO.bind ?_ (fun _ => ?_))
   | exact ih0 _ _ _ _
   | exact LeO.none _
   | refine LeO.ite ?_ ?_
   | refine LeO.bind ?_ (fun _ => ?_)
set_option maxHeartbeats 8000000 in
set_option maxRecDepth 100000 in
theorem spec_l5Negate.calls (k : Nat) (A0 : Option Addr) (c0 : Nat) (l0 : List Int) (r : List Int) (w : World) (hr0 : Kd.C (Kd.int .i64) w A0 l0.length l0) (hc0 : l0.length ≤ c0) (h : spec_l5Negate.f k l0 = some r) :
  Calls Try.prog 137 #[.slice A0 l0.length c0] w fun e w' => ∃ v0_ : Value, e = .returned (v0_) ∧ Kd.R (Kd.int .i64) 3 w' w.heap.size (fun _ => True) v0_ r ∧ Below w.heap.size w w' := by
 have HR0 := Aside0.mk hr0
 have HC0 := Aside0.mk hc0
 clear hr0 hc0
 have HB := Aside0.mk (Below.refl w.heap.size w)
 have H : (spec_l5Negate.l0 k ([] : List Int) l0 (l0.length : Int) 0) = some r := h
 clear h
 have H' := Aside0.mk H
 clear H
 go_enter Try.func137, Try.ntmps137
 go_wp2
 go_loopg [3, 8] k (fun kq v3 v8 w' => ∃ (x3_1 : List Int) (x8_1 : Int), v8 = .int .i64 x8_1 ∧ Aside0 (spec_l5Negate.l0 kq x3_1 l0 (l0.length : Int) x8_1 = some r) ∧ Aside0 (kq ≤ k) ∧ Aside0 (Kd.R (Kd.int .i64) 3 w' w.heap.size (fun _ => True) v3 x3_1) ∧ Aside0 (Below w.heap.size w w'))
 case atStart => exact ⟨(([] : List Int)), (0), (by first | rfl | (simp; done) | (simp [*]; done)), H', ⟨Nat.le_refl _⟩, ⟨by first | exact Kd.R_nil _ _ _ _ _ | exact Kd.N_nil _ _ _ _ _ | exact Kd.V_nil _ _ _ _ _ | exact Kd.Q_nil _ _ _ _ _ | exact Kd.S_nil _ _ _ _ _⟩, ⟨zb_ HB.out⟩⟩
 case round =>
  clear H'
  try clear c1
  obtain ⟨x3_1, x8_1, rfl, HA, HK1, HO_3, HB⟩ := hrel
  cases gk with
  | zero => exact absurd HA.out (by simp [spec_l5Negate.l0])
  | succ k1 =>
   have H := HA.out
   clear HA
   simp only [spec_l5Negate.l0] at H
   by_cases c2 : x8_1 < (l0.length : Int)
   ·rw [if_pos c2] at H
    have c2b0 : decide (x8_1 < (l0.length : Int)) = true := decide_eq_true c2
    clear c2
    by_cases c3 : 0 ≤ x8_1
    ·rw [if_pos c3] at H
     have c3b0 : decide (0 ≤ x8_1) = true := decide_eq_true c3
     clear c3
     by_cases c4 : x8_1 < (l0.length : Int)
     ·rw [if_pos c4] at H
      have c4b0 : decide (x8_1 < (l0.length : Int)) = true := decide_eq_true c4
      clear c4
      by_cases c5 : x3_1.length < 17592186044416
      ·rw [if_pos c5] at H
       have LMc5 := Aside0.mk c5
       clear c5
       obtain ⟨y174, hy174⟩ : ∃ y_ : List Int, y_ = (x3_1 ++ [wrap64 (-(rd l0 x8_1))]) := ⟨_, rfl⟩
       replace H : (spec_l5Negate.l0 k1 y174 l0 (l0.length : Int) (wrap64 (x8_1 + 1))) = some r := by first | (rw [hy174]; with_reducible exact H) | (have H2_ := (Option.bind_some _ _).symm.trans H; rw [hy174]; with_reducible exact H2_) | (have H2_ := (Option.bind_some _ _).symm.trans H; with_reducible exact H2_) | with_reducible exact H | (rw [hy174]; exact H) | exact H
       have Ny174 := Aside0.mk hy174
       clear hy174
       have H' := Aside0.mk H
       clear H
       have p173 : 0 ≤ (x8_1 : Int) := of_decide_eq_true (by assumption)
       have q173 : x8_1 < (l0.length : Int) := of_decide_eq_true (by assumption)
       obtain ⟨ad173, e173, hx173_0⟩ := Kd.at_int HR0.out x8_1 p173 q173
       cases e173
       (try replace hx173_0 := (HB.out.cell (World.block_lt_of_cell? w _ hx173_0)).trans hx173_0)
       replace p173 := eq_true p173
       replace q173 := eq_true q173
       go_wp2_with (first | ((with_reducible refine gate_builtin (b := .append) (xs := #[.tmp 12, .tmp 15]) rfl ?_); at_builtin; refine Kd.R_append (Kd.int .i64) (w0 := w) w.heap.size rfl (.tmp 12) (.tmp 15) 42 3 (.int .i64 0) 8 rfl Try.underlying42 info3 rfl (by decide) (by omega) u3 x3_1 (wrap64 (-(rd l0 x8_1))) [.int .i64 (wrap64 (-(rd l0 x8_1)))] (fun _ => True) (fun _ => False) rfl rfl ?aP (fun _ hk => hk.elim) ?aF ?aO ?aB ?aS ?aL ?_; (case aP => exact rfl); (case aB => exact (zb_ HB.out)); (case aF => exact (fun _ _ => trivial)); (case aO => exact (zR_ HO_3.out)); (case aS => exact (below_size (zb_ HB.out))); (case aL => have := LMc5.out; omega); intro v175 w6 ho hb hg hat; rw [← Ny174.out] at ho; have n0_ := Aside0.mk (hb); have n1_ := Aside0.mk (ho); clear HB; clear HO_3; have HB := n0_; have HO176 := n1_; clear n0_ n1_; clear ho hb hg hat))
       go_roundg k1
       case measure => have := HK1.out; omega
       case rel => exact ⟨(y174), (wrap64 (x8_1 + 1)), (by first | rfl | (simp; done) | (simp [*]; done)), H', ⟨by have := HK1.out; omega⟩, ⟨zR_ HO176.out⟩, ⟨zb_ HB.out⟩⟩
      ·rw [if_neg c5] at H
       exact absurd H (by simp)
     ·rw [if_neg c4] at H
      exact absurd H (by simp)
    ·rw [if_neg c3] at H
     exact absurd H (by simp)
   ·rw [if_neg c2] at H
    have c2b0 : decide (x8_1 < (l0.length : Int)) = false := decide_eq_false c2
    clear c2
    obtain rfl := Option.some.inj H
    go_wp2
    go_ret
    exact ⟨_, by first | rfl | (simp [errW_none, errW_some] <;> rfl) | (simp [*, errW_none, errW_some] <;> rfl), zR_ HO_3.out, zb_ HB.out⟩
def spec_l5First.l0 : Nat → Int → List Int → Int → Option (Int)
 | 0, _, _, _ => none
 | k + 1, x0, x1, x5 => if x5 ≤ x0 then ((spec_l1Has.f k x1 x5).bind fun t177 => (if t177 = true then (spec_l5First.l0 k x0 x1 (wrap64 (x5 + 1))) else ((spec_l1Has.f k x1 (wrap64 (-x5))).bind fun t178 => (if t178 = true then (spec_l5First.l0 k x0 x1 (wrap64 (x5 + 1))) else (some x5))))) else (some 0)
def spec_l5First.f (k : Nat) (a0 : Int) (l1 : List Int) : Option (Int) := spec_l5First.l0 k a0 l1 1
theorem spec_l5First.mono_l : ∀ k, (∀ y0 y1 y2, LeO (spec_l5First.l0 k y0 y1 y2) (spec_l5First.l0 (k + 1) y0 y1 y2))
 | 0 => fun _ _ _ r h => by simp [spec_l5First.l0] at h
 | k + 1 => by
  have ih0 := spec_l5First.mono_l k
  ·intro y0 y1 y2
   unfold spec_l5First.l0
   repeat' first
   | (with_reducible exact ih0 _ _ _)
   | (with_reducible exact spec_l1Has.mono _ _ _)
   | (with_reducible exact LeO.refl _)
   | (with_reducible exact LeO.none _)
   | (with_reducible refine LeO.ite ?_ ?_)
   | (with_reducible refine LeO.bind ?_ (fun _ => ?_))
   | exact ih0 _ _ _
   | exact spec_l1Has.mono _ _ _
   | exact LeO.none _
   | refine LeO.ite ?_ ?_
   | refine LeO.bind ?_ (fun _ => ?_)
theorem spec_l5First.mono : ∀ a0 a1 k, LeO (spec_l5First.f k a0 a1) (spec_l5First.f (k + 1) a0 a1) := by
 intro a0 a1 k
 have ih0 := spec_l5First.mono_l k
 unfold spec_l5First.f
 repeat' first
   | (with_reducible exact ih0 _ _ _)
   | (with_reducible exact spec_l1Has.mono _ _ _)
   | (with_reducible exact LeO.refl _)
   | (with_reducible exact LeO.none _)
   | (with_reducible refine LeO.ite ?_ ?_)
   | (with_reducible refine LeO.bind ?_ (fun _ => ?_))
   | exact ih0 _ _ _
   | exact spec_l1Has.mono _ _ _
   | exact LeO.none _
   | refine LeO.ite ?_ ?_
   | refine LeO.bind ?_ (fun _ => ?_)
set_option maxHeartbeats 8000000 in
set_option maxRecDepth 100000 in
theorem spec_l5First.calls (k : Nat) (a0 : Int) (A1 : Option Addr) (c1 : Nat) (l1 : List Int) (r : Int) (w : World) (hr1 : Kd.C (Kd.int .i64) w A1 l1.length l1) (hc1 : l1.length ≤ c1) (h : spec_l5First.f k a0 l1 = some r) :
  Calls Try.prog 148 #[.int .i64 a0, .slice A1 l1.length c1] w fun e w' => e = .returned (.int .i64 r) ∧ Drawn0 w w' := by
 have HR1 := Aside0.mk hr1
 have HC1 := Aside0.mk hc1
 clear hr1 hc1
 have H : (spec_l5First.l0 k a0 l1 1) = some r := h
 clear h
 have H' := Aside0.mk H
 clear H
 go_enter Try.func148, Try.ntmps148
 go_wp2
 go_loopg [5] k (fun kq v5 w' => ∃ (x5_1 : Int), v5 = .int .i64 x5_1 ∧ Aside0 (spec_l5First.l0 kq a0 l1 x5_1 = some r) ∧ Aside0 (kq ≤ k) ∧ Drawn0 w w')
 case atStart => exact ⟨(1), (by first | rfl | (simp; done) | (simp [*]; done)), H', ⟨Nat.le_refl _⟩, by repeat (first | exact Drawn0.refl _ | apply Drawn0.step)⟩
 case round =>
  clear H'
  try clear c1
  try clear p2
  obtain ⟨x5_1, rfl, HA, HK1, ⟨m1, rfl⟩⟩ := hrel
  cases gk with
  | zero => exact absurd HA.out (by simp [spec_l5First.l0])
  | succ k1 =>
   have H := HA.out
   clear HA
   simp only [spec_l5First.l0] at H
   by_cases c3 : x5_1 ≤ a0
   ·rw [if_pos c3] at H
    have c3b0 : decide (x5_1 ≤ a0) = true := decide_eq_true c3
    clear c3
    replace H := Option.bind_eq_some_iff.mp H
    obtain ⟨t177, A40, H⟩ := H
    (try dsimp only at H)
    have A4 := Aside0.mk A40
    clear A40
    by_cases c5 : t177 = true
    ·subst c5
     have H1 : (spec_l5First.l0 k1 a0 l1 (wrap64 (x5_1 + 1))) = some r := by rw [if_pos rfl] at H; exact H
     clear H
     have H := H1
     clear H1
     have H' := Aside0.mk H
     clear H
     go_wp2_with (first | ((with_reducible refine gate_callee (f := 150) rfl ?_); refine goesL_ (some 13) rfl rfl Try.func150 (by kernel_rfl) rfl #[.slice A1 l1.length c1, .int .i64 x5_1] rfl (by simp only [zA_, zB_, zD_] <;> rfl) ?_; (with_reducible refine (spec_l1Has.calls k1 _ _ l1 x5_1 true _ ?side1 ?side2 A4.out).mono ?_); (case side1 => exact zC_ HR1.out); (case side2 => exact HC1.out); rintro e w' ⟨rfl, ⟨nd, rfl⟩⟩; refine ⟨_, rfl, ?_⟩))
     go_roundg k1
     case measure => have := HK1.out; omega
     case rel => exact ⟨(wrap64 (x5_1 + 1)), (by first | rfl | (simp; done) | (simp [*]; done)), H', ⟨by have := HK1.out; omega⟩, by repeat (first | exact Drawn0.refl _ | apply Drawn0.step)⟩
    ·replace c5 := Bool.eq_false_iff.mpr c5
     subst c5
     have H1 : ((spec_l1Has.f k1 l1 (wrap64 (-x5_1))).bind fun t178 => (if t178 = true then (spec_l5First.l0 k1 a0 l1 (wrap64 (x5_1 + 1))) else (some x5_1))) = some r := by rw [if_neg (show ¬ (false = true) by decide)] at H; exact H
     clear H
     have H := H1
     clear H1
     replace H := Option.bind_eq_some_iff.mp H
     obtain ⟨t178, A60, H⟩ := H
     (try dsimp only at H)
     have A6 := Aside0.mk A60
     clear A60
     by_cases c7 : t178 = true
     ·subst c7
      have H1 : (spec_l5First.l0 k1 a0 l1 (wrap64 (x5_1 + 1))) = some r := by rw [if_pos rfl] at H; exact H
      clear H
      have H := H1
      clear H1
      have H' := Aside0.mk H
      clear H
      go_wp2_with (first | ((with_reducible refine gate_callee (f := 150) rfl ?_); refine goesL_ (some 13) rfl rfl Try.func150 (by kernel_rfl) rfl #[.slice A1 l1.length c1, .int .i64 x5_1] rfl (by simp only [zA_, zB_, zD_] <;> rfl) ?_; (with_reducible refine (spec_l1Has.calls k1 _ _ l1 x5_1 false _ ?side1 ?side2 A4.out).mono ?_); (case side1 => exact zC_ HR1.out); (case side2 => exact HC1.out); rintro e w' ⟨rfl, ⟨nd, rfl⟩⟩; refine ⟨_, rfl, ?_⟩) | (go_at_call 150; (with_reducible refine (spec_l1Has.calls k1 _ _ l1 (wrap64 (-x5_1)) true _ ?side1 ?side2 A6.out).mono ?_); (case side1 => exact zC_ HR1.out); (case side2 => exact HC1.out); rintro e w' ⟨rfl, ⟨nd, rfl⟩⟩))
      go_roundg k1
      case measure => have := HK1.out; omega
      case rel => exact ⟨(wrap64 (x5_1 + 1)), (by first | rfl | (simp; done) | (simp [*]; done)), H', ⟨by have := HK1.out; omega⟩, by repeat (first | exact Drawn0.refl _ | apply Drawn0.step)⟩
     ·replace c7 := Bool.eq_false_iff.mpr c7
      subst c7
      have H1 : (some x5_1) = some r := by rw [if_neg (show ¬ (false = true) by decide)] at H; exact H
      clear H
      have H := H1
      clear H1
      obtain rfl := Option.some.inj H
      go_wp2_with (first | ((with_reducible refine gate_callee (f := 150) rfl ?_); refine goesL_ (some 13) rfl rfl Try.func150 (by kernel_rfl) rfl #[.slice A1 l1.length c1, .int .i64 x5_1] rfl (by simp only [zA_, zB_, zD_] <;> rfl) ?_; (with_reducible refine (spec_l1Has.calls k1 _ _ l1 x5_1 false _ ?side1 ?side2 A4.out).mono ?_); (case side1 => exact zC_ HR1.out); (case side2 => exact HC1.out); rintro e w' ⟨rfl, ⟨nd, rfl⟩⟩; refine ⟨_, rfl, ?_⟩) | (go_at_call 150; (with_reducible refine (spec_l1Has.calls k1 _ _ l1 (wrap64 (-x5_1)) false _ ?side1 ?side2 A6.out).mono ?_); (case side1 => exact zC_ HR1.out); (case side2 => exact HC1.out); rintro e w' ⟨rfl, ⟨nd, rfl⟩⟩))
      go_ret
      exact ⟨by first | rfl | (simp; done) | (simp [*]; done), by repeat (first | exact Drawn0.refl _ | apply Drawn0.step)⟩
   ·rw [if_neg c3] at H
    have c3b0 : decide (x5_1 ≤ a0) = false := decide_eq_false c3
    clear c3
    obtain rfl := Option.some.inj H
    go_wp2
    go_ret
    exact ⟨by first | rfl | (simp; done) | (simp [*]; done), by repeat (first | exact Drawn0.refl _ | apply Drawn0.step)⟩
def spec_l5Solve.l1 : Nat → List Int → List Bool → Int → Option (List Bool)
 | 0, _, _, _ => none
 | k + 1, y, m, x => if x < (y.length : Int) then (if 0 ≤ x then (if 0 < rd y x then (if rd y x ≤ (m.length : Int) then spec_l5Solve.l1 k y (m.set ((rd y x).toNat - 1) true) (wrap64 (x + 1)) else none) else spec_l5Solve.l1 k y m (wrap64 (x + 1))) else none) else some m
def spec_l5Solve.l0 : Nat → Int → List (List Int) → List (List Int) → List Int → Option (Bool × List Bool × List (List Int) × Bool)
 | 0, _, _, _, _ => none
 | k + 1, v, a, L, D => (spec_l4Propagate.f k a D).bind fun p => (spec_l5First.f k v p.1).bind fun u => if p.2 = true then (if L.length = 300 then some (false, [], [], false) else ((spec_l5Negate.f k D).bind fun c => if L.length < 4398046511104 ∧ a.length < 4398046511104 then (if D.length = 0 then ((spec_l5Copy.f k (L ++ [c])).bind fun z => some (false, [], z, true)) else spec_l5Solve.l0 k v (a ++ [c]) (L ++ [c]) (D.take (D.length - 1))) else none)) else (if 0 < u then (if D.length < 4398046511104 then spec_l5Solve.l0 k v a L (D ++ [u]) else none) else (if 0 ≤ v ∧ v ≤ 4398046511104 then ((spec_l5Solve.l1 k p.1 (List.replicate v.toNat false) 0).bind fun m => (spec_l5Copy.f k L).bind fun z => some (true, m, z, true)) else none))
def spec_l5Solve.f (k : Nat) (a0 : Int) (l1 : List (List Int)) : Option (Bool × List Bool × List (List Int) × Bool) := (spec_l5Copy.f k l1).bind fun a => spec_l5Solve.l0 k a0 a [] []
theorem spec_l5Solve.mono_l1 : ∀ k, (∀ y0 y1 y2, LeO (spec_l5Solve.l1 k y0 y1 y2) (spec_l5Solve.l1 (k + 1) y0 y1 y2))
 | 0 => fun _ _ _ r h => by simp [spec_l5Solve.l1] at h
 | k + 1 => by
  have ih0 := spec_l5Solve.mono_l1 k
  ·intro y0 y1 y2
   unfold spec_l5Solve.l1
   repeat' first
   | (with_reducible exact ih0 _ _ _)
   | (with_reducible exact LeO.refl _)
   | (with_reducible exact LeO.none _)
   | (with_reducible refine LeO.ite ?_ ?_)
   | (with_reducible refine LeO.bind ?_ (fun _ => ?_))
theorem spec_l5Solve.mono_l : ∀ k, (∀ y0 y1 y2 y3, LeO (spec_l5Solve.l0 k y0 y1 y2 y3) (spec_l5Solve.l0 (k + 1) y0 y1 y2 y3))
 | 0 => fun _ _ _ _ r h => by simp [spec_l5Solve.l0] at h
 | k + 1 => by
  have ih0 := spec_l5Solve.mono_l k
  ·intro y0 y1 y2 y3
   unfold spec_l5Solve.l0
   repeat' first
   | (with_reducible exact ih0 _ _ _ _)
   | (with_reducible exact spec_l5Solve.mono_l1 _ _ _ _)
   | (with_reducible exact spec_l4Propagate.mono _ _ _)
   | (with_reducible exact spec_l5First.mono _ _ _)
   | (with_reducible exact spec_l5Negate.mono _ _)
   | (with_reducible exact spec_l5Copy.mono _ _)
   | (with_reducible exact LeO.refl _)
   | (with_reducible exact LeO.none _)
   | (with_reducible refine LeO.ite ?_ ?_)
   | (with_reducible refine LeO.bind ?_ (fun _ => ?_))
theorem spec_l5Solve.mono : ∀ a0 a1 k, LeO (spec_l5Solve.f k a0 a1) (spec_l5Solve.f (k + 1) a0 a1) := by
 intro a0 a1 k
 exact LeO.bind (spec_l5Copy.mono _ _) (fun _ => spec_l5Solve.mono_l k _ _ _ _)
set_option maxHeartbeats 2000000 in
set_option maxRecDepth 100000 in
theorem spec_l5Solve.calls (k : Nat) (a0 : Int) (A1 : Option Addr) (c1 : Nat) (l1 : List (List Int)) (r1 : Bool) (r2 : List Bool) (r3 : List (List Int)) (r4 : Bool) (w : World) (hr1 : Kd.C (Kd.slice 3 (Kd.int .i64)) w A1 l1.length l1) (hc1 : l1.length ≤ c1) (h : spec_l5Solve.f k a0 l1 = some (r1, r2, r3, r4)) :
  Calls Try.prog 126 #[.int .i64 a0, .slice A1 l1.length c1] w fun e w' => ∃ v1_ v2_ : Value, e = .returned (.tuple #[.bool r1, v1_, v2_, .bool r4]) ∧ Kd.R Kd.bool 4 w' w.heap.size (fun _ => True) v1_ r2 ∧ Kd.S (Kd.slice 3 (Kd.int .i64)) 42 w' w.heap.size (fun _ => True) v2_ r3 ∧ Below w.heap.size w w' := by
 have HR1 := Aside0.mk hr1
 have HC1 := Aside0.mk hc1
 clear hr1 hc1
 have HB := Aside0.mk (Below.refl w.heap.size w)
 unfold spec_l5Solve.f at h
 replace h := Option.bind_eq_some_iff.mp h
 obtain ⟨b0, A0', h⟩ := h
 have G0 := Aside0.mk A0'
 have H' := Aside0.mk h
 clear h A0'
 go_enter Try.func126, Try.ntmps126
 go_wp2_with (go_at_call 119; (with_reducible refine (spec_l5Copy.calls k _ _ l1 b0 _ ?side1 ?side2 G0.out).mono ?_); (case side1 => exact zC_ HR1.out); (case side2 => exact HC1.out); rintro e w4 ⟨v4, rfl, ho, hb⟩; have n1_ := Aside0.mk (Kd.R_apart_nil (Kd.R_lower (Kd.S_R ho) (below_size (zb_ HB.out)))); have n0_ := Aside0.mk (below_step (zb_ HB.out) hb); clear HB; have HB := n0_; have HO4 := n1_; clear n0_ n1_ ho hb)
 go_loopg [8, 9, 10] k (fun kq v8 v9 v10 w' => ∃ (a : List (List Int)) (L : List (List Int)) (D : List Int), Aside0 (spec_l5Solve.l0 kq a0 a L D = some (r1, r2, r3, r4)) ∧ Aside0 (kq ≤ k) ∧ Aside0 (Kd.R (Kd.slice 3 (Kd.int .i64)) 42 w' w.heap.size (fun k_ => True ∧ some k_ ≠ v9.ownBlock) v8 a) ∧ Aside0 (Kd.R (Kd.slice 3 (Kd.int .i64)) 42 w' w.heap.size (fun k_ => True ∧ some k_ ≠ v8.ownBlock) v9 L) ∧ Aside0 (Kd.R (Kd.int .i64) 3 w' w.heap.size (fun _ => True) v10 D) ∧ Aside0 (Below w.heap.size w w'))
 case atStart => exact ⟨b0, [], [], H', ⟨Nat.le_refl _⟩, ⟨zR_ HO4.out⟩, ⟨Kd.R_nil _ _ _ _ _⟩, ⟨Kd.R_nil _ _ _ _ _⟩, ⟨zb_ HB.out⟩⟩
 case round =>
  clear H' HB HO4
  obtain ⟨a, L, D, HA, HK, HOA, HOL, HOD, HB⟩ := hrel
  obtain ⟨Ad, cd, ed⟩ := Kd.R_slice HOD.out
  subst ed
  obtain ⟨Al, cl, el⟩ := Kd.R_slice HOL.out
  subst el
  obtain ⟨Aa, ca, ea⟩ := Kd.R_slice HOA.out
  subst ea
  cases gk with
  | zero => exact absurd HA.out (by simp [spec_l5Solve.l0])
  | succ k1 =>
   have h := HA.out
   clear HA
   simp only [spec_l5Solve.l0] at h
   replace h := Option.bind_eq_some_iff.mp h
   obtain ⟨⟨p1, p2⟩, A1', h⟩ := h
   have G1 := Aside0.mk A1'
   replace h := Option.bind_eq_some_iff.mp h
   obtain ⟨u, A2', h⟩ := h
   have G2 := Aside0.mk A2'
   clear A1' A2'
   cases p2 with
   | true =>
    replace h : (if L.length = 300 then some (false, [], [], false) else ((spec_l5Negate.f k1 D).bind fun c => if L.length < 4398046511104 ∧ a.length < 4398046511104 then (if D.length = 0 then ((spec_l5Copy.f k1 (L ++ [c])).bind fun z => some (false, [], z, true)) else spec_l5Solve.l0 k1 a0 (a ++ [c]) (L ++ [c]) (D.take (D.length - 1))) else none)) = some (r1, r2, r3, r4) := h
    by_cases c3 : L.length = 300
    ·rw [if_pos c3] at h
     obtain ⟨rfl, rfl, rfl, rfl⟩ : false = r1 ∧ [] = r2 ∧ [] = r3 ∧ false = r4 := by simpa using h
     have d1 : ((L.length : Int) == 300) = true := by rw [c3]; rfl
     have HC3 := Aside0.mk c3
     clear h c3
     go_wp2_with (first | (go_at_call 136; (with_reducible refine (spec_l4Propagate.calls k1 _ _ a _ _ D p1 _ _ ?side1 ?side2 ?side3 ?side4 G1.out).mono ?_); (case side1 => exact zC_ (Kd.R_reads' HOA.out).2.2); (case side2 => exact (Kd.R_reads' HOA.out).2.1); (case side3 => exact zC_ (Kd.R_reads' HOD.out).2.2); (case side4 => exact (Kd.R_reads' HOD.out).2.1); rintro e w6 ⟨v6, rfl, ho, hb⟩; have HOP := Aside0.mk (Kd.R_lower ho (below_size (zb_ HB.out))); obtain ⟨Ap, cp, ep⟩ := Kd.R_slice HOP.out; subst ep; have mHOD_ := Aside0.mk (Kd.R_below (zR_ HOD.out : Kd.R (Kd.int .i64) 3 _ w.heap.size (fun _ => True) (.slice Ad D.length cd) D) hb); have mHOL_ := Aside0.mk (Kd.R_below (zR_ HOL.out : Kd.R (Kd.slice 3 (Kd.int .i64)) 42 _ w.heap.size (fun k_ => True ∧ some k_ ≠ (.slice Aa a.length ca : Value).ownBlock) (.slice Al L.length cl) L) hb); have mHOA_ := Aside0.mk (Kd.R_below (zR_ HOA.out : Kd.R (Kd.slice 3 (Kd.int .i64)) 42 _ w.heap.size (fun k_ => True ∧ some k_ ≠ (.slice Al L.length cl : Value).ownBlock) (.slice Aa a.length ca) a) hb); have mHB_ := Aside0.mk (below_step (zb_ HB.out) hb); clear HOD HOL HOA HB; have HOD := mHOD_; have HOL := mHOL_; have HOA := mHOA_; have HB := mHB_; clear mHOD_ mHOL_ mHOA_ mHB_; clear ho hb) | (go_at_call 148; (with_reducible refine (spec_l5First.calls k1 a0 _ _ p1 u _ ?side1 ?side2 G2.out).mono ?_); (case side1 => exact zC_ (Kd.R_reads' HOP.out).2.2); (case side2 => exact (Kd.R_reads' HOP.out).2.1); rintro e w7 ⟨rfl, hd⟩; have hb := Drawn0.below hd; have mHOP_ := Aside0.mk (Kd.R_below (zR_ HOP.out : Kd.R (Kd.int .i64) 3 _ w.heap.size (fun _ => True) (.slice Ap p1.length cp) p1) hb); have mHOD_ := Aside0.mk (Kd.R_below (zR_ HOD.out : Kd.R (Kd.int .i64) 3 _ w.heap.size (fun _ => True) (.slice Ad D.length cd) D) hb); have mHOL_ := Aside0.mk (Kd.R_below (zR_ HOL.out : Kd.R (Kd.slice 3 (Kd.int .i64)) 42 _ w.heap.size (fun k_ => True ∧ some k_ ≠ (.slice Aa a.length ca : Value).ownBlock) (.slice Al L.length cl) L) hb); have mHOA_ := Aside0.mk (Kd.R_below (zR_ HOA.out : Kd.R (Kd.slice 3 (Kd.int .i64)) 42 _ w.heap.size (fun k_ => True ∧ some k_ ≠ (.slice Al L.length cl : Value).ownBlock) (.slice Aa a.length ca) a) hb); have mHB_ := Aside0.mk (below_step (zb_ HB.out) hb); clear HOP HOD HOL HOA HB; have HOP := mHOP_; have HOD := mHOD_; have HOL := mHOL_; have HOA := mHOA_; have HB := mHB_; clear mHOP_ mHOD_ mHOL_ mHOA_ mHB_; have HS7 := Aside0.mk (Below.refl w7.heap.size w7); clear hb hd))
     (try simp only [Exit.inBlock, Exit.then])
     refine bodyPost_ret (results_tmp4_ rfl _ _ _) rfl ?_
     exact ⟨_, _, by first | rfl | simp, Kd.R_nil _ _ _ _ _, Kd.S_nil _ _ _ _ _, zb_ HB.out⟩
    ·rw [if_neg c3] at h
     have d1 : ((L.length : Int) == 300) = false := beq_eq_false_iff_ne.2 (by omega)
     clear c3
     replace h := Option.bind_eq_some_iff.mp h
     obtain ⟨c, A3', h⟩ := h
     have G3 := Aside0.mk A3'
     clear A3'
     by_cases c4 : L.length < 4398046511104 ∧ a.length < 4398046511104
     ·rw [if_pos c4] at h
      have LMA := Aside0.mk c4
      obtain ⟨y8, hy8⟩ : ∃ y_, y_ = L ++ [c] := ⟨_, rfl⟩
      obtain ⟨y9, hy9⟩ : ∃ y_, y_ = a ++ [c] := ⟨_, rfl⟩
      rw [← hy8, ← hy9] at h
      have NY8 := Aside0.mk hy8
      have NY9 := Aside0.mk hy9
      clear c4 hy8 hy9
      by_cases c5 : D.length = 0
      ·rw [if_pos c5] at h
       replace h := Option.bind_eq_some_iff.mp h
       obtain ⟨z, A4', h⟩ := h
       have G4 := Aside0.mk A4'
       obtain ⟨rfl, rfl, rfl, rfl⟩ : false = r1 ∧ [] = r2 ∧ z = r3 ∧ true = r4 := by simpa using h
       have HD0 := Aside0.mk (show D = [] from List.eq_nil_of_length_eq_zero c5)
       have d3 : ((D.length : Int) == 0) = true := by simp [c5]
       have d4 : (D.length == 0) = true := by simp [c5]
       have d5 := eq_true (show D = [] from HD0.out)
       clear h c5 A4'
       go_wp2_with (first | (go_at_call 136; (with_reducible refine (spec_l4Propagate.calls k1 _ _ a _ _ D p1 _ _ ?side1 ?side2 ?side3 ?side4 G1.out).mono ?_); (case side1 => exact zC_ (Kd.R_reads' HOA.out).2.2); (case side2 => exact (Kd.R_reads' HOA.out).2.1); (case side3 => exact zC_ (Kd.R_reads' HOD.out).2.2); (case side4 => exact (Kd.R_reads' HOD.out).2.1); rintro e w6 ⟨v6, rfl, ho, hb⟩; have HOP := Aside0.mk (Kd.R_lower ho (below_size (zb_ HB.out))); obtain ⟨Ap, cp, ep⟩ := Kd.R_slice HOP.out; subst ep; have mHOD_ := Aside0.mk (Kd.R_below (zR_ HOD.out : Kd.R (Kd.int .i64) 3 _ w.heap.size (fun _ => True) (.slice Ad D.length cd) D) hb); have mHOL_ := Aside0.mk (Kd.R_below (zR_ HOL.out : Kd.R (Kd.slice 3 (Kd.int .i64)) 42 _ w.heap.size (fun k_ => True ∧ some k_ ≠ (.slice Aa a.length ca : Value).ownBlock) (.slice Al L.length cl) L) hb); have mHOA_ := Aside0.mk (Kd.R_below (zR_ HOA.out : Kd.R (Kd.slice 3 (Kd.int .i64)) 42 _ w.heap.size (fun k_ => True ∧ some k_ ≠ (.slice Al L.length cl : Value).ownBlock) (.slice Aa a.length ca) a) hb); have mHB_ := Aside0.mk (below_step (zb_ HB.out) hb); clear HOD HOL HOA HB; have HOD := mHOD_; have HOL := mHOL_; have HOA := mHOA_; have HB := mHB_; clear mHOD_ mHOL_ mHOA_ mHB_; clear ho hb) | (go_at_call 148; (with_reducible refine (spec_l5First.calls k1 a0 _ _ p1 u _ ?side1 ?side2 G2.out).mono ?_); (case side1 => exact zC_ (Kd.R_reads' HOP.out).2.2); (case side2 => exact (Kd.R_reads' HOP.out).2.1); rintro e w7 ⟨rfl, hd⟩; have hb := Drawn0.below hd; have mHOP_ := Aside0.mk (Kd.R_below (zR_ HOP.out : Kd.R (Kd.int .i64) 3 _ w.heap.size (fun _ => True) (.slice Ap p1.length cp) p1) hb); have mHOD_ := Aside0.mk (Kd.R_below (zR_ HOD.out : Kd.R (Kd.int .i64) 3 _ w.heap.size (fun _ => True) (.slice Ad D.length cd) D) hb); have mHOL_ := Aside0.mk (Kd.R_below (zR_ HOL.out : Kd.R (Kd.slice 3 (Kd.int .i64)) 42 _ w.heap.size (fun k_ => True ∧ some k_ ≠ (.slice Aa a.length ca : Value).ownBlock) (.slice Al L.length cl) L) hb); have mHOA_ := Aside0.mk (Kd.R_below (zR_ HOA.out : Kd.R (Kd.slice 3 (Kd.int .i64)) 42 _ w.heap.size (fun k_ => True ∧ some k_ ≠ (.slice Al L.length cl : Value).ownBlock) (.slice Aa a.length ca) a) hb); have mHB_ := Aside0.mk (below_step (zb_ HB.out) hb); clear HOP HOD HOL HOA HB; have HOP := mHOP_; have HOD := mHOD_; have HOL := mHOL_; have HOA := mHOA_; have HB := mHB_; clear mHOP_ mHOD_ mHOL_ mHOA_ mHB_; have HS7 := Aside0.mk (Below.refl w7.heap.size w7); clear hb hd) | (go_at_call 137; (with_reducible refine (spec_l5Negate.calls k1 _ _ D c _ ?side1 ?side2 G3.out).mono ?_); (case side1 => exact zC_ (Kd.R_reads' HOD.out).2.2); (case side2 => exact (Kd.R_reads' HOD.out).2.1); rintro e w8 ⟨v8, rfl, ho, hb⟩; have HO7 := Aside0.mk (Kd.R_lower ho (below_size (zb_ HB.out))); obtain ⟨A7, c7, e7⟩ := Kd.R_slice HO7.out; subst e7; have mHOD_ := Aside0.mk (Kd.R_below (zR_ HOD.out : Kd.R (Kd.int .i64) 3 _ w.heap.size (fun _ => True) (.slice Ad D.length cd) D) hb); have mHOL_ := Aside0.mk (Kd.R_below (zR_ HOL.out : Kd.R (Kd.slice 3 (Kd.int .i64)) 42 _ w.heap.size (fun k_ => True ∧ some k_ ≠ (.slice Aa a.length ca : Value).ownBlock) (.slice Al L.length cl) L) hb); have mHOA_ := Aside0.mk (Kd.R_below (zR_ HOA.out : Kd.R (Kd.slice 3 (Kd.int .i64)) 42 _ w.heap.size (fun k_ => True ∧ some k_ ≠ (.slice Al L.length cl : Value).ownBlock) (.slice Aa a.length ca) a) hb); have mHB_ := Aside0.mk (below_step (zb_ HB.out) hb); clear HOD HOL HOA HB; have HOD := mHOD_; have HOL := mHOL_; have HOA := mHOA_; have HB := mHB_; clear mHOD_ mHOL_ mHOA_ mHB_; clear ho hb) | ((with_reducible refine gate_builtin (b := .append) (xs := #[.tmp 58, .tmp 60]) rfl ?_); at_builtin; refine Kd.R_append (Kd.slice 3 (Kd.int .i64)) (w0 := w) w.heap.size rfl (.tmp 58) (.tmp 60) 50 42 (.slice none 0 0) 24 rfl Try.underlying50 info42 rfl (by decide) (by omega) (.slice Al L.length cl) L c [.slice A7 c.length c7] (fun k_ => True ∧ some k_ ≠ (.slice Aa a.length ca : Value).ownBlock) (fun k_ => some k_ = (.slice A7 c.length c7 : Value).ownBlock) rfl rfl ?aP ?aK ?aF ?aO ?aB ?aS ?aL ?_; (case aP => exact Kd.M_row (Kd.R_tight rfl (zR_ HO7.out : Kd.R (Kd.int .i64) 3 _ w.heap.size (fun _ => True) (.slice A7 c.length c7) c))); (case aK => exact fun k_ hk_ => ⟨⟨trivial, typed_ne_ (Kd.R_typed HO7.out) (Kd.R_typed HOA.out) (by decide) k_ hk_⟩, typed_ne_ (Kd.R_typed HO7.out) (Kd.R_typed HOL.out) (by decide) k_ hk_⟩); (case aF => exact fun k_ hk_ => ⟨trivial, fun e_ => Nat.lt_irrefl _ (Nat.lt_of_lt_of_le (Kd.R_lt HOA.out k_ e_.symm) hk_)⟩); (case aO => exact (zR_ HOL.out)); (case aB => exact (zb_ HB.out)); (case aS => exact (below_size (zb_ HB.out))); (case aL => have := LMA.out; omega); intro v8 w8 ho hb hg hat; rw [← NY8.out] at ho; have n1_ := Aside0.mk (Kd.R_over' (zR_ HOD.out : Kd.R (Kd.int .i64) 3 _ w.heap.size (fun _ => True) (.slice Ad D.length cd) D) (Kd.R_typed (zR_ HOL.out : Kd.R (Kd.slice 3 (Kd.int .i64)) 42 _ w.heap.size (fun k_ => True ∧ some k_ ≠ (.slice Aa a.length ca : Value).ownBlock) (.slice Al L.length cl) L)) (by decide) hg); have n2_ := Aside0.mk ho; have n3_ := Aside0.mk hb; have n4_ := Aside0.mk (Kd.R_after (zR_ HOA.out : Kd.R (Kd.slice 3 (Kd.int .i64)) 42 _ w.heap.size (fun k_ => True ∧ some k_ ≠ (.slice Al L.length cl : Value).ownBlock) (.slice Aa a.length ca) a) hg hat); have n5_ := Aside0.mk (Kd.R_over' (zR_ HO7.out : Kd.R (Kd.int .i64) 3 _ w.heap.size (fun _ => True) (.slice A7 c.length c7) c) (Kd.R_typed (zR_ HOL.out : Kd.R (Kd.slice 3 (Kd.int .i64)) 42 _ w.heap.size (fun k_ => True ∧ some k_ ≠ (.slice Aa a.length ca : Value).ownBlock) (.slice Al L.length cl) L)) (by decide) hg); clear HB HOD HOL HOA HO7; have HOD := n1_; have HB := n3_; have HO7 := n5_; obtain ⟨A8, c8, e8⟩ := Kd.R_slice n2_.out; subst e8; have HOL8 := n2_; have HOA := n4_; clear n1_ n2_ n3_ n4_ n5_ ho hb hg hat) | ((with_reducible refine gate_builtin (b := .append) (xs := #[.tmp 62, .tmp 64]) rfl ?_); at_builtin; refine Kd.R_append (Kd.slice 3 (Kd.int .i64)) (w0 := w) w.heap.size rfl (.tmp 62) (.tmp 64) 50 42 (.slice none 0 0) 24 rfl Try.underlying50 info42 rfl (by decide) (by omega) (.slice Aa a.length ca) a c [.slice A7 c.length c7] (fun k_ => True ∧ some k_ ≠ (.slice A8 y8.length c8 : Value).ownBlock) (fun k_ => some k_ = (.slice A7 c.length c7 : Value).ownBlock) rfl rfl ?aP ?aK ?aF ?aO ?aB ?aS ?aL ?_; (case aP => exact Kd.M_row (Kd.R_tight rfl (zR_ HO7.out : Kd.R (Kd.int .i64) 3 _ w.heap.size (fun _ => True) (.slice A7 c.length c7) c))); (case aK => exact fun k_ hk_ => ⟨⟨trivial, typed_ne_ (Kd.R_typed HO7.out) (Kd.R_typed HOL8.out) (by decide) k_ hk_⟩, typed_ne_ (Kd.R_typed HO7.out) (Kd.R_typed HOA.out) (by decide) k_ hk_⟩); (case aF => exact fun k_ hk_ => ⟨trivial, fun e_ => Nat.lt_irrefl _ (Nat.lt_of_lt_of_le (Kd.R_lt HOL8.out k_ e_.symm) hk_)⟩); (case aO => exact (zR_ HOA.out)); (case aB => exact (zb_ HB.out)); (case aS => exact (below_size (zb_ HB.out))); (case aL => have := LMA.out; omega); intro v8 w8 ho hb hg hat; rw [← NY9.out] at ho; have n1_ := Aside0.mk (Kd.R_over' (zR_ HOD.out : Kd.R (Kd.int .i64) 3 _ w.heap.size (fun _ => True) (.slice Ad D.length cd) D) (Kd.R_typed (zR_ HOA.out : Kd.R (Kd.slice 3 (Kd.int .i64)) 42 _ w.heap.size (fun k_ => True ∧ some k_ ≠ (.slice A8 y8.length c8 : Value).ownBlock) (.slice Aa a.length ca) a)) (by decide) hg); have n2_ := Aside0.mk ho; have n3_ := Aside0.mk hb; have n4_ := Aside0.mk (Kd.R_after (zR_ HOL8.out : Kd.R (Kd.slice 3 (Kd.int .i64)) 42 _ w.heap.size (fun k_ => True ∧ some k_ ≠ (.slice Aa a.length ca : Value).ownBlock) (.slice A8 y8.length c8) y8) hg hat); have n5_ := Aside0.mk (Kd.R_over' (zR_ HO7.out : Kd.R (Kd.int .i64) 3 _ w.heap.size (fun _ => True) (.slice A7 c.length c7) c) (Kd.R_typed (zR_ HOA.out : Kd.R (Kd.slice 3 (Kd.int .i64)) 42 _ w.heap.size (fun k_ => True ∧ some k_ ≠ (.slice A8 y8.length c8 : Value).ownBlock) (.slice Aa a.length ca) a)) (by decide) hg); clear HB HOD HOA HOL8 HO7; have HOD := n1_; have HB := n3_; have HO7 := n5_; obtain ⟨A9, c9, e8⟩ := Kd.R_slice n2_.out; subst e8; have HOA9 := n2_; have HOL8 := n4_; clear n1_ n2_ n3_ n4_ n5_ ho hb hg hat) | (go_at_call 119; (with_reducible refine (spec_l5Copy.calls k1 _ _ y8 z _ ?side1 ?side2 G4.out).mono ?_); (case side1 => exact zC_ (Kd.R_reads' HOL8.out).2.2); (case side2 => exact (Kd.R_reads' HOL8.out).2.1); rintro e w10 ⟨v10, rfl, ho, hb⟩; have HOZ := Aside0.mk (Kd.S_lower ho (below_size (zb_ HB.out))); have n0_ := Aside0.mk (below_step (zb_ HB.out) hb); clear HB; have HB := n0_; clear n0_ ho hb))
       (try simp only [Exit.inBlock, Exit.then])
       refine bodyPost_ret (results_tmp4_ rfl _ _ _) rfl ?_
       exact ⟨_, _, by first | rfl | simp, Kd.R_nil _ _ _ _ _, zS_ HOZ.out, zb_ HB.out⟩
      ·rw [if_neg c5] at h
       have H' := Aside0.mk h
       have HDL := Aside0.mk (show D.length - 1 ≤ D.length by omega)
       have d3 : ((D.length : Int) == 0) = false := beq_eq_false_iff_ne.2 (by omega)
       have d4 : (D.length == 0) = false := beq_eq_false_iff_ne.2 (by omega)
       have d5 := eq_false (show ¬ D.length = 0 from c5)
       have d6 : 1 ≤ (D.length : Int) := by omega
       have d7 : (D.length : Int) ≤ 9223372036854775807 := by have := (Kd.R_reads' HOD.out).2.2.2.1; omega
       have d8 := eq_true (show (0 : Int) ≤ (D.length : Int) - 1 by omega)
       have d9 := eq_true (show (D.length : Int) - 1 ≤ (cd : Int) by have := (Kd.R_reads' HOD.out).2.1; omega)
       have d10 := eq_true (show (D.length : Int) ≤ (cd : Int) + 1 by have := (Kd.R_reads' HOD.out).2.1; omega)
       have d11 := eq_true (show D.length - 1 ≤ cd by have := (Kd.R_reads' HOD.out).2.1; omega)
       have d12 := eq_false (show ¬ D = [] by intro e; apply c5; rw [e]; rfl)
       clear h c5
       go_wp2_with (first | (go_at_call 136; (with_reducible refine (spec_l4Propagate.calls k1 _ _ a _ _ D p1 _ _ ?side1 ?side2 ?side3 ?side4 G1.out).mono ?_); (case side1 => exact zC_ (Kd.R_reads' HOA.out).2.2); (case side2 => exact (Kd.R_reads' HOA.out).2.1); (case side3 => exact zC_ (Kd.R_reads' HOD.out).2.2); (case side4 => exact (Kd.R_reads' HOD.out).2.1); rintro e w6 ⟨v6, rfl, ho, hb⟩; have HOP := Aside0.mk (Kd.R_lower ho (below_size (zb_ HB.out))); obtain ⟨Ap, cp, ep⟩ := Kd.R_slice HOP.out; subst ep; have mHOD_ := Aside0.mk (Kd.R_below (zR_ HOD.out : Kd.R (Kd.int .i64) 3 _ w.heap.size (fun _ => True) (.slice Ad D.length cd) D) hb); have mHOL_ := Aside0.mk (Kd.R_below (zR_ HOL.out : Kd.R (Kd.slice 3 (Kd.int .i64)) 42 _ w.heap.size (fun k_ => True ∧ some k_ ≠ (.slice Aa a.length ca : Value).ownBlock) (.slice Al L.length cl) L) hb); have mHOA_ := Aside0.mk (Kd.R_below (zR_ HOA.out : Kd.R (Kd.slice 3 (Kd.int .i64)) 42 _ w.heap.size (fun k_ => True ∧ some k_ ≠ (.slice Al L.length cl : Value).ownBlock) (.slice Aa a.length ca) a) hb); have mHB_ := Aside0.mk (below_step (zb_ HB.out) hb); clear HOD HOL HOA HB; have HOD := mHOD_; have HOL := mHOL_; have HOA := mHOA_; have HB := mHB_; clear mHOD_ mHOL_ mHOA_ mHB_; clear ho hb) | (go_at_call 148; (with_reducible refine (spec_l5First.calls k1 a0 _ _ p1 u _ ?side1 ?side2 G2.out).mono ?_); (case side1 => exact zC_ (Kd.R_reads' HOP.out).2.2); (case side2 => exact (Kd.R_reads' HOP.out).2.1); rintro e w7 ⟨rfl, hd⟩; have hb := Drawn0.below hd; have mHOP_ := Aside0.mk (Kd.R_below (zR_ HOP.out : Kd.R (Kd.int .i64) 3 _ w.heap.size (fun _ => True) (.slice Ap p1.length cp) p1) hb); have mHOD_ := Aside0.mk (Kd.R_below (zR_ HOD.out : Kd.R (Kd.int .i64) 3 _ w.heap.size (fun _ => True) (.slice Ad D.length cd) D) hb); have mHOL_ := Aside0.mk (Kd.R_below (zR_ HOL.out : Kd.R (Kd.slice 3 (Kd.int .i64)) 42 _ w.heap.size (fun k_ => True ∧ some k_ ≠ (.slice Aa a.length ca : Value).ownBlock) (.slice Al L.length cl) L) hb); have mHOA_ := Aside0.mk (Kd.R_below (zR_ HOA.out : Kd.R (Kd.slice 3 (Kd.int .i64)) 42 _ w.heap.size (fun k_ => True ∧ some k_ ≠ (.slice Al L.length cl : Value).ownBlock) (.slice Aa a.length ca) a) hb); have mHB_ := Aside0.mk (below_step (zb_ HB.out) hb); clear HOP HOD HOL HOA HB; have HOP := mHOP_; have HOD := mHOD_; have HOL := mHOL_; have HOA := mHOA_; have HB := mHB_; clear mHOP_ mHOD_ mHOL_ mHOA_ mHB_; have HS7 := Aside0.mk (Below.refl w7.heap.size w7); clear hb hd) | (go_at_call 137; (with_reducible refine (spec_l5Negate.calls k1 _ _ D c _ ?side1 ?side2 G3.out).mono ?_); (case side1 => exact zC_ (Kd.R_reads' HOD.out).2.2); (case side2 => exact (Kd.R_reads' HOD.out).2.1); rintro e w8 ⟨v8, rfl, ho, hb⟩; have HO7 := Aside0.mk (Kd.R_lower ho (below_size (zb_ HB.out))); obtain ⟨A7, c7, e7⟩ := Kd.R_slice HO7.out; subst e7; have mHOD_ := Aside0.mk (Kd.R_below (zR_ HOD.out : Kd.R (Kd.int .i64) 3 _ w.heap.size (fun _ => True) (.slice Ad D.length cd) D) hb); have mHOL_ := Aside0.mk (Kd.R_below (zR_ HOL.out : Kd.R (Kd.slice 3 (Kd.int .i64)) 42 _ w.heap.size (fun k_ => True ∧ some k_ ≠ (.slice Aa a.length ca : Value).ownBlock) (.slice Al L.length cl) L) hb); have mHOA_ := Aside0.mk (Kd.R_below (zR_ HOA.out : Kd.R (Kd.slice 3 (Kd.int .i64)) 42 _ w.heap.size (fun k_ => True ∧ some k_ ≠ (.slice Al L.length cl : Value).ownBlock) (.slice Aa a.length ca) a) hb); have mHB_ := Aside0.mk (below_step (zb_ HB.out) hb); clear HOD HOL HOA HB; have HOD := mHOD_; have HOL := mHOL_; have HOA := mHOA_; have HB := mHB_; clear mHOD_ mHOL_ mHOA_ mHB_; clear ho hb) | ((with_reducible refine gate_builtin (b := .append) (xs := #[.tmp 58, .tmp 60]) rfl ?_); at_builtin; refine Kd.R_append (Kd.slice 3 (Kd.int .i64)) (w0 := w) w.heap.size rfl (.tmp 58) (.tmp 60) 50 42 (.slice none 0 0) 24 rfl Try.underlying50 info42 rfl (by decide) (by omega) (.slice Al L.length cl) L c [.slice A7 c.length c7] (fun k_ => True ∧ some k_ ≠ (.slice Aa a.length ca : Value).ownBlock) (fun k_ => some k_ = (.slice A7 c.length c7 : Value).ownBlock) rfl rfl ?aP ?aK ?aF ?aO ?aB ?aS ?aL ?_; (case aP => exact Kd.M_row (Kd.R_tight rfl (zR_ HO7.out : Kd.R (Kd.int .i64) 3 _ w.heap.size (fun _ => True) (.slice A7 c.length c7) c))); (case aK => exact fun k_ hk_ => ⟨⟨trivial, typed_ne_ (Kd.R_typed HO7.out) (Kd.R_typed HOA.out) (by decide) k_ hk_⟩, typed_ne_ (Kd.R_typed HO7.out) (Kd.R_typed HOL.out) (by decide) k_ hk_⟩); (case aF => exact fun k_ hk_ => ⟨trivial, fun e_ => Nat.lt_irrefl _ (Nat.lt_of_lt_of_le (Kd.R_lt HOA.out k_ e_.symm) hk_)⟩); (case aO => exact (zR_ HOL.out)); (case aB => exact (zb_ HB.out)); (case aS => exact (below_size (zb_ HB.out))); (case aL => have := LMA.out; omega); intro v8 w8 ho hb hg hat; rw [← NY8.out] at ho; have n1_ := Aside0.mk (Kd.R_over' (zR_ HOD.out : Kd.R (Kd.int .i64) 3 _ w.heap.size (fun _ => True) (.slice Ad D.length cd) D) (Kd.R_typed (zR_ HOL.out : Kd.R (Kd.slice 3 (Kd.int .i64)) 42 _ w.heap.size (fun k_ => True ∧ some k_ ≠ (.slice Aa a.length ca : Value).ownBlock) (.slice Al L.length cl) L)) (by decide) hg); have n2_ := Aside0.mk ho; have n3_ := Aside0.mk hb; have n4_ := Aside0.mk (Kd.R_after (zR_ HOA.out : Kd.R (Kd.slice 3 (Kd.int .i64)) 42 _ w.heap.size (fun k_ => True ∧ some k_ ≠ (.slice Al L.length cl : Value).ownBlock) (.slice Aa a.length ca) a) hg hat); have n5_ := Aside0.mk (Kd.R_over' (zR_ HO7.out : Kd.R (Kd.int .i64) 3 _ w.heap.size (fun _ => True) (.slice A7 c.length c7) c) (Kd.R_typed (zR_ HOL.out : Kd.R (Kd.slice 3 (Kd.int .i64)) 42 _ w.heap.size (fun k_ => True ∧ some k_ ≠ (.slice Aa a.length ca : Value).ownBlock) (.slice Al L.length cl) L)) (by decide) hg); clear HB HOD HOL HOA HO7; have HOD := n1_; have HB := n3_; have HO7 := n5_; obtain ⟨A8, c8, e8⟩ := Kd.R_slice n2_.out; subst e8; have HOL8 := n2_; have HOA := n4_; clear n1_ n2_ n3_ n4_ n5_ ho hb hg hat) | ((with_reducible refine gate_builtin (b := .append) (xs := #[.tmp 62, .tmp 64]) rfl ?_); at_builtin; refine Kd.R_append (Kd.slice 3 (Kd.int .i64)) (w0 := w) w.heap.size rfl (.tmp 62) (.tmp 64) 50 42 (.slice none 0 0) 24 rfl Try.underlying50 info42 rfl (by decide) (by omega) (.slice Aa a.length ca) a c [.slice A7 c.length c7] (fun k_ => True ∧ some k_ ≠ (.slice A8 y8.length c8 : Value).ownBlock) (fun k_ => some k_ = (.slice A7 c.length c7 : Value).ownBlock) rfl rfl ?aP ?aK ?aF ?aO ?aB ?aS ?aL ?_; (case aP => exact Kd.M_row (Kd.R_tight rfl (zR_ HO7.out : Kd.R (Kd.int .i64) 3 _ w.heap.size (fun _ => True) (.slice A7 c.length c7) c))); (case aK => exact fun k_ hk_ => ⟨⟨trivial, typed_ne_ (Kd.R_typed HO7.out) (Kd.R_typed HOL8.out) (by decide) k_ hk_⟩, typed_ne_ (Kd.R_typed HO7.out) (Kd.R_typed HOA.out) (by decide) k_ hk_⟩); (case aF => exact fun k_ hk_ => ⟨trivial, fun e_ => Nat.lt_irrefl _ (Nat.lt_of_lt_of_le (Kd.R_lt HOL8.out k_ e_.symm) hk_)⟩); (case aO => exact (zR_ HOA.out)); (case aB => exact (zb_ HB.out)); (case aS => exact (below_size (zb_ HB.out))); (case aL => have := LMA.out; omega); intro v8 w8 ho hb hg hat; rw [← NY9.out] at ho; have n1_ := Aside0.mk (Kd.R_over' (zR_ HOD.out : Kd.R (Kd.int .i64) 3 _ w.heap.size (fun _ => True) (.slice Ad D.length cd) D) (Kd.R_typed (zR_ HOA.out : Kd.R (Kd.slice 3 (Kd.int .i64)) 42 _ w.heap.size (fun k_ => True ∧ some k_ ≠ (.slice A8 y8.length c8 : Value).ownBlock) (.slice Aa a.length ca) a)) (by decide) hg); have n2_ := Aside0.mk ho; have n3_ := Aside0.mk hb; have n4_ := Aside0.mk (Kd.R_after (zR_ HOL8.out : Kd.R (Kd.slice 3 (Kd.int .i64)) 42 _ w.heap.size (fun k_ => True ∧ some k_ ≠ (.slice Aa a.length ca : Value).ownBlock) (.slice A8 y8.length c8) y8) hg hat); have n5_ := Aside0.mk (Kd.R_over' (zR_ HO7.out : Kd.R (Kd.int .i64) 3 _ w.heap.size (fun _ => True) (.slice A7 c.length c7) c) (Kd.R_typed (zR_ HOA.out : Kd.R (Kd.slice 3 (Kd.int .i64)) 42 _ w.heap.size (fun k_ => True ∧ some k_ ≠ (.slice A8 y8.length c8 : Value).ownBlock) (.slice Aa a.length ca) a)) (by decide) hg); clear HB HOD HOA HOL8 HO7; have HOD := n1_; have HB := n3_; have HO7 := n5_; obtain ⟨A9, c9, e8⟩ := Kd.R_slice n2_.out; subst e8; have HOA9 := n2_; have HOL8 := n4_; clear n1_ n2_ n3_ n4_ n5_ ho hb hg hat))
       go_roundg k1
       case measure => have := HK.out; omega
       case rel => exact ⟨y9, y8, D.take (D.length - 1), H', ⟨by have := HK.out; omega⟩, ⟨zR_ HOA9.out⟩, ⟨zR_ HOL8.out⟩, ⟨by (with_reducible repeat (first | apply Kd.R_alloc | apply Kd.R_drewN | apply Kd.R_drew)); exact Kd.R_take HOD.out HDL.out⟩, ⟨zb_ HB.out⟩⟩
     ·rw [if_neg c4] at h
      exact absurd h (by simp)
   | false =>
    replace h : (if 0 < u then (if D.length < 4398046511104 then spec_l5Solve.l0 k1 a0 a L (D ++ [u]) else none) else (if 0 ≤ a0 ∧ a0 ≤ 4398046511104 then ((spec_l5Solve.l1 k1 p1 (List.replicate a0.toNat false) 0).bind fun m => (spec_l5Copy.f k1 L).bind fun z => some (true, m, z, true)) else none)) = some (r1, r2, r3, r4) := h
    by_cases c5 : 0 < u
    ·rw [if_pos c5] at h
     have d1 : decide (0 < u) = true := decide_eq_true c5
     by_cases c6 : D.length < 4398046511104
     ·rw [if_pos c6] at h
      have LMD := Aside0.mk c6
      obtain ⟨e0, he0⟩ : ∃ y_ : List Int, y_ = [] := ⟨_, rfl⟩
      obtain ⟨e1, he1⟩ : ∃ y_ : List Int, y_ = e0 ++ D := ⟨_, rfl⟩
      obtain ⟨e2, he2⟩ : ∃ y_ : List Int, y_ = e1 ++ [u] := ⟨_, rfl⟩
      have N0L := Aside0.mk (show e0.length = 0 by rw [he0]; rfl)
      have N1L := Aside0.mk (show e1.length = D.length by rw [he1, he0]; rfl)
      have H' := Aside0.mk (show spec_l5Solve.l0 k1 a0 a L e2 = some (r1, r2, r3, r4) by rw [he2, he1, he0]; exact h)
      have N0 := Aside0.mk he0
      have N1 := Aside0.mk he1
      have N2 := Aside0.mk he2
      clear h c5 c6 he0 he1 he2
      go_wp2_with (first | (go_at_call 136; (with_reducible refine (spec_l4Propagate.calls k1 _ _ a _ _ D p1 _ _ ?side1 ?side2 ?side3 ?side4 G1.out).mono ?_); (case side1 => exact zC_ (Kd.R_reads' HOA.out).2.2); (case side2 => exact (Kd.R_reads' HOA.out).2.1); (case side3 => exact zC_ (Kd.R_reads' HOD.out).2.2); (case side4 => exact (Kd.R_reads' HOD.out).2.1); rintro e w6 ⟨v6, rfl, ho, hb⟩; have HOP := Aside0.mk (Kd.R_lower ho (below_size (zb_ HB.out))); obtain ⟨Ap, cp, ep⟩ := Kd.R_slice HOP.out; subst ep; have mHOD_ := Aside0.mk (Kd.R_below (zR_ HOD.out : Kd.R (Kd.int .i64) 3 _ w.heap.size (fun _ => True) (.slice Ad D.length cd) D) hb); have mHOL_ := Aside0.mk (Kd.R_below (zR_ HOL.out : Kd.R (Kd.slice 3 (Kd.int .i64)) 42 _ w.heap.size (fun k_ => True ∧ some k_ ≠ (.slice Aa a.length ca : Value).ownBlock) (.slice Al L.length cl) L) hb); have mHOA_ := Aside0.mk (Kd.R_below (zR_ HOA.out : Kd.R (Kd.slice 3 (Kd.int .i64)) 42 _ w.heap.size (fun k_ => True ∧ some k_ ≠ (.slice Al L.length cl : Value).ownBlock) (.slice Aa a.length ca) a) hb); have mHB_ := Aside0.mk (below_step (zb_ HB.out) hb); clear HOD HOL HOA HB; have HOD := mHOD_; have HOL := mHOL_; have HOA := mHOA_; have HB := mHB_; clear mHOD_ mHOL_ mHOA_ mHB_; clear ho hb) | (go_at_call 148; (with_reducible refine (spec_l5First.calls k1 a0 _ _ p1 u _ ?side1 ?side2 G2.out).mono ?_); (case side1 => exact zC_ (Kd.R_reads' HOP.out).2.2); (case side2 => exact (Kd.R_reads' HOP.out).2.1); rintro e w7 ⟨rfl, hd⟩; have hb := Drawn0.below hd; have mHOP_ := Aside0.mk (Kd.R_below (zR_ HOP.out : Kd.R (Kd.int .i64) 3 _ w.heap.size (fun _ => True) (.slice Ap p1.length cp) p1) hb); have mHOD_ := Aside0.mk (Kd.R_below (zR_ HOD.out : Kd.R (Kd.int .i64) 3 _ w.heap.size (fun _ => True) (.slice Ad D.length cd) D) hb); have mHOL_ := Aside0.mk (Kd.R_below (zR_ HOL.out : Kd.R (Kd.slice 3 (Kd.int .i64)) 42 _ w.heap.size (fun k_ => True ∧ some k_ ≠ (.slice Aa a.length ca : Value).ownBlock) (.slice Al L.length cl) L) hb); have mHOA_ := Aside0.mk (Kd.R_below (zR_ HOA.out : Kd.R (Kd.slice 3 (Kd.int .i64)) 42 _ w.heap.size (fun k_ => True ∧ some k_ ≠ (.slice Al L.length cl : Value).ownBlock) (.slice Aa a.length ca) a) hb); have mHB_ := Aside0.mk (below_step (zb_ HB.out) hb); clear HOP HOD HOL HOA HB; have HOP := mHOP_; have HOD := mHOD_; have HOL := mHOL_; have HOA := mHOA_; have HB := mHB_; clear mHOP_ mHOD_ mHOL_ mHOA_ mHB_; have HS7 := Aside0.mk (Below.refl w7.heap.size w7); have HOA7 := HOA; have HOL7 := HOL; have HB7 := HB; clear hb hd) | ((with_reducible refine gate_dst (N := 79) rfl ?_); refine Kd.R_lit (Kd.int .i64) _ 3 ?hg (N := 79) ?hd (xs := ([] : List Int)) (inner := []) (ok := fun _ => True) (okp := fun _ => True) ?hr ?hp (fun _ hk => hk) trivial (Below.refl _ _) (Nat.le_refl _) (by simp) ?_; (case hd => rfl); (case hg => rfl); (case hr => first | (go_simp; done) | (go_simp; rfl)); (case hp => exact (Reps.none _ _)); intro v140 w4 ho hb hg_ hnew_; clear hg_ hnew_; rw [← N0.out] at ho; have n1_ := Aside0.mk (Kd.R_lower ho (below_size (by repeat (first | (with_reducible first | exact HS7.out | apply below_alloc | apply pw_below_drewN | apply below_drew1) | exact HS7.out)))); have n2_ := Aside0.mk (below_step (by repeat (first | (with_reducible first | exact HS7.out | apply below_alloc | apply pw_below_drewN | apply below_drew1) | exact HS7.out)) hb); have n3_ := Aside0.mk (Kd.R_below (zR_ HOD.out : Kd.R (Kd.int .i64) 3 _ w.heap.size (fun _ => True) (.slice Ad D.length cd) D) hb); clear HS7 HOD; have HOE := n1_; have HS7 := n2_; have HOD := n3_; clear n1_ n2_ n3_ ho hb) | ((with_reducible refine gate_builtin (b := .append) (xs := #[.tmp 79, .tmp 80]) rfl ?_); at_builtin; refine Kd.R_append_rows (Kd.int .i64) (w0 := w7) w7.heap.size rfl (.tmp 79) (.tmp 80) 42 3 (.int .i64 0) 8 rfl Try.underlying42 info3 rfl (by decide) (by omega) v140 e0 D _ _ _ (fun _ => True) (fun _ => False) rfl rfl ?aO ?aR (fun _ _ h => h) (fun _ h => h.elim) ?aF ?aB ?aS ?aL ?_; (case aR => exact zC_ (Kd.R_reads' HOD.out).2.2); (case aB => exact (by repeat (first | (with_reducible first | exact HS7.out | apply below_alloc | apply pw_below_drewN | apply below_drew1) | exact HS7.out))); (case aF => exact (fun _ _ => trivial)); (case aO => exact (zR_ HOE.out)); (case aS => exact (below_size (by repeat (first | (with_reducible first | exact HS7.out | apply below_alloc | apply pw_below_drewN | apply below_drew1) | exact HS7.out)))); (case aL => have h1 := LMD.out; have h2 := N0L.out; omega); intro v143 w6 ho hb hg hat; rw [← N1.out] at ho; have n1_ := Aside0.mk hb; have n2_ := Aside0.mk ho; clear HS7 HOE; have HS7 := n1_; have HOE := n2_; clear n1_ n2_ ho hb hg hat) | ((with_reducible refine gate_builtin (b := .append) (xs := #[.tmp 81, .tmp 83]) rfl ?_); at_builtin; refine Kd.R_append (Kd.int .i64) (w0 := w7) w7.heap.size rfl (.tmp 81) (.tmp 83) 42 3 (.int .i64 0) 8 rfl Try.underlying42 info3 rfl (by decide) (by omega) v143 e1 u [.int .i64 u] (fun _ => True) (fun _ => False) rfl rfl ?aP (fun _ hk => hk.elim) ?aF ?aO ?aB ?aS ?aL ?_; (case aP => exact rfl); (case aB => exact (by repeat (first | (with_reducible first | exact HS7.out | apply below_alloc | apply pw_below_drewN | apply below_drew1) | exact HS7.out))); (case aF => exact (fun _ _ => trivial)); (case aO => exact (zR_ HOE.out)); (case aS => exact (below_size (by repeat (first | (with_reducible first | exact HS7.out | apply below_alloc | apply pw_below_drewN | apply below_drew1) | exact HS7.out)))); (case aL => have h1 := LMD.out; have h2 := N1L.out; omega); intro v9 w9 ho hb hg hat; rw [← N2.out] at ho; have n1_ := Aside0.mk (Kd.R_below HOA7.out hb); have n2_ := Aside0.mk (Kd.R_below HOL7.out hb); have n3_ := Aside0.mk (below_step HB7.out hb); have n4_ := Aside0.mk (Kd.R_lower ho (below_size HB7.out)); clear HB HOD HOL HOA HOE HS7; have HOA := n1_; have HOL := n2_; have HB := n3_; have HOD := n4_; clear n1_ n2_ n3_ n4_ ho hb hg hat))
      go_roundg k1
      case measure => have := HK.out; omega
      case rel => exact ⟨a, L, e2, H', ⟨by have := HK.out; omega⟩, ⟨zR_ HOA.out⟩, ⟨zR_ HOL.out⟩, ⟨zR_ HOD.out⟩, ⟨zb_ HB.out⟩⟩
     ·rw [if_neg c6] at h
      exact absurd h (by simp)
    ·rw [if_neg c5] at h
     have d1 : decide (0 < u) = false := decide_eq_false c5
     clear c5
     by_cases c6 : 0 ≤ a0 ∧ a0 ≤ 4398046511104
     ·rw [if_pos c6] at h
      replace h := Option.bind_eq_some_iff.mp h
      obtain ⟨mm, A4', h⟩ := h
      replace h := Option.bind_eq_some_iff.mp h
      obtain ⟨z, A5', h⟩ := h
      have G5 := Aside0.mk A5'
      obtain ⟨rfl, rfl, rfl, rfl⟩ : true = r1 ∧ mm = r2 ∧ z = r3 ∧ true = r4 := by simpa using h
      obtain ⟨m0, hm0⟩ : ∃ m_ : List Bool, m_ = List.replicate a0.toNat false := ⟨_, rfl⟩
      rw [← hm0] at A4'
      have NM := Aside0.mk hm0
      have H' := Aside0.mk A4'
      have c3b0 := eq_true c6.1
      have c3b1 : decide (0 ≤ a0) = true := decide_eq_true c6.1
      have c4b1 : decide (a0.toNat ≤ 281474976710656) = true := decide_eq_true (by omega)
      clear h A4' A5' hm0 c6
      go_wp2_with (first | (go_at_call 136; (with_reducible refine (spec_l4Propagate.calls k1 _ _ a _ _ D p1 _ _ ?side1 ?side2 ?side3 ?side4 G1.out).mono ?_); (case side1 => exact zC_ (Kd.R_reads' HOA.out).2.2); (case side2 => exact (Kd.R_reads' HOA.out).2.1); (case side3 => exact zC_ (Kd.R_reads' HOD.out).2.2); (case side4 => exact (Kd.R_reads' HOD.out).2.1); rintro e w6 ⟨v6, rfl, ho, hb⟩; have HOP := Aside0.mk (Kd.R_lower ho (below_size (zb_ HB.out))); obtain ⟨Ap, cp, ep⟩ := Kd.R_slice HOP.out; subst ep; have mHOD_ := Aside0.mk (Kd.R_below (zR_ HOD.out : Kd.R (Kd.int .i64) 3 _ w.heap.size (fun _ => True) (.slice Ad D.length cd) D) hb); have mHOL_ := Aside0.mk (Kd.R_below (zR_ HOL.out : Kd.R (Kd.slice 3 (Kd.int .i64)) 42 _ w.heap.size (fun k_ => True ∧ some k_ ≠ (.slice Aa a.length ca : Value).ownBlock) (.slice Al L.length cl) L) hb); have mHOA_ := Aside0.mk (Kd.R_below (zR_ HOA.out : Kd.R (Kd.slice 3 (Kd.int .i64)) 42 _ w.heap.size (fun k_ => True ∧ some k_ ≠ (.slice Al L.length cl : Value).ownBlock) (.slice Aa a.length ca) a) hb); have mHB_ := Aside0.mk (below_step (zb_ HB.out) hb); clear HOD HOL HOA HB; have HOD := mHOD_; have HOL := mHOL_; have HOA := mHOA_; have HB := mHB_; clear mHOD_ mHOL_ mHOA_ mHB_; clear ho hb) | (go_at_call 148; (with_reducible refine (spec_l5First.calls k1 a0 _ _ p1 u _ ?side1 ?side2 G2.out).mono ?_); (case side1 => exact zC_ (Kd.R_reads' HOP.out).2.2); (case side2 => exact (Kd.R_reads' HOP.out).2.1); rintro e w7 ⟨rfl, hd⟩; have hb := Drawn0.below hd; have mHOP_ := Aside0.mk (Kd.R_below (zR_ HOP.out : Kd.R (Kd.int .i64) 3 _ w.heap.size (fun _ => True) (.slice Ap p1.length cp) p1) hb); have mHOD_ := Aside0.mk (Kd.R_below (zR_ HOD.out : Kd.R (Kd.int .i64) 3 _ w.heap.size (fun _ => True) (.slice Ad D.length cd) D) hb); have mHOL_ := Aside0.mk (Kd.R_below (zR_ HOL.out : Kd.R (Kd.slice 3 (Kd.int .i64)) 42 _ w.heap.size (fun k_ => True ∧ some k_ ≠ (.slice Aa a.length ca : Value).ownBlock) (.slice Al L.length cl) L) hb); have mHOA_ := Aside0.mk (Kd.R_below (zR_ HOA.out : Kd.R (Kd.slice 3 (Kd.int .i64)) 42 _ w.heap.size (fun k_ => True ∧ some k_ ≠ (.slice Al L.length cl : Value).ownBlock) (.slice Aa a.length ca) a) hb); have mHB_ := Aside0.mk (below_step (zb_ HB.out) hb); clear HOP HOD HOL HOA HB; have HOP := mHOP_; have HOD := mHOD_; have HOL := mHOL_; have HOA := mHOA_; have HB := mHB_; clear mHOP_ mHOD_ mHOL_ mHOA_ mHB_; have HS7 := Aside0.mk (Below.refl w7.heap.size w7); clear hb hd) | ((with_reducible refine gate_dst (N := 30) rfl ?_); refine Kd.R_make Kd.bool _ 4 rfl (N := 30) rfl 91 _ _ rfl a0 rfl rfl Try.underlying91 (.bool false) 1 info4 rfl (by decide) (by omega) false (ok := fun _ => True) (okp := fun _ => True) rfl (fun _ hk => hk) trivial (of_decide_eq_true (by assumption)) (Nat.le_trans (Nat.mul_le_mul_right _ (of_decide_eq_true (by assumption) : a0.toNat ≤ 281474976710656)) (by omega)) (Below.refl _ _) (Nat.le_refl _) ?_; intro v10 w10 ho hb hg_ hnew_; clear hg_ hnew_; (first | rw [← NM.out] at ho | (simp only [Int.reduceToNat] at ho; rw [← NM.out] at ho)); have n1_ := Aside0.mk (Kd.R_lower ho (below_size (zb_ HB.out))); have mHOD_ := Aside0.mk (Kd.R_below (zR_ HOD.out : Kd.R (Kd.int .i64) 3 _ w.heap.size (fun _ => True) (.slice Ad D.length cd) D) hb); have mHOL_ := Aside0.mk (Kd.R_below (zR_ HOL.out : Kd.R (Kd.slice 3 (Kd.int .i64)) 42 _ w.heap.size (fun k_ => True ∧ some k_ ≠ (.slice Aa a.length ca : Value).ownBlock) (.slice Al L.length cl) L) hb); have mHOP_ := Aside0.mk (Kd.R_below (zR_ HOP.out : Kd.R (Kd.int .i64) 3 _ w.heap.size (fun _ => True) (.slice Ap p1.length cp) p1) hb); have mHB_ := Aside0.mk (below_step (zb_ HB.out) hb); clear HOD HOL HOP HB; have HOD := mHOD_; have HOL := mHOL_; have HOP := mHOP_; have HB := mHB_; clear mHOD_ mHOL_ mHOP_ mHB_; have HOM := n1_; clear n1_ hb ho; obtain ⟨Am, cm, em⟩ := Kd.R_slice HOM.out; subst em))
      go_loopg [33] k1 (fun kq v33 w' => ∃ (m : List Bool) (x : Int), v33 = .int .i64 x ∧ Aside0 (spec_l5Solve.l1 kq p1 m x = some mm) ∧ Aside0 (kq ≤ k1) ∧ Aside0 (m.length = m0.length) ∧ Aside0 (Kd.R Kd.bool 4 w' w.heap.size (fun _ => True) (.slice Am m0.length cm) m) ∧ Aside0 (Kd.R (Kd.int .i64) 3 w' w.heap.size (fun _ => True) (.slice Ap p1.length cp) p1) ∧ Aside0 (Kd.R (Kd.slice 3 (Kd.int .i64)) 42 w' w.heap.size (fun k_ => True ∧ some k_ ≠ (.slice Aa a.length ca : Value).ownBlock) (.slice Al L.length cl) L) ∧ Aside0 (Below w.heap.size w w'))
      case atStart => exact ⟨m0, 0, rfl, H', ⟨Nat.le_refl _⟩, ⟨rfl⟩, ⟨zR_ HOM.out⟩, ⟨zR_ HOP.out⟩, ⟨zR_ HOL.out⟩, ⟨zb_ HB.out⟩⟩
      case round =>
       clear H' HB HOM HOP HOL HOD HOA HS7
       obtain ⟨m, x, rfl, HA, HK2, HML, HOM, HOP, HOL, HB⟩ := hrel
       cases gk with
       | zero => exact absurd HA.out (by simp [spec_l5Solve.l1])
       | succ k2 =>
        have h := HA.out
        clear HA
        simp only [spec_l5Solve.l1] at h
        by_cases c7 : x < (p1.length : Int)
        ·rw [if_pos c7] at h
         have c7b : decide (x < (p1.length : Int)) = true := decide_eq_true c7
         by_cases c8 : 0 ≤ x
         ·rw [if_pos c8] at h
          have HPC := (Kd.R_reads' HOP.out).2.2
          obtain ⟨ad1, e1, hx1⟩ := Kd.at_int HPC x c8 c7
          cases e1
          obtain ⟨n, hn⟩ : ∃ n, rd p1 x = n := ⟨_, rfl⟩
          rw [hn] at hx1 h
          have hpl : (p1.length : Int) ≤ 9223372036854775807 := by have := HPC.2.1; omega
          have HWX := Aside0.mk (show wrap64 (x + 1) = x + 1 by unfold wrap64; omega)
          by_cases c9 : 0 < n
          ·rw [if_pos c9] at h
           have c9b : decide (0 < n) = true := decide_eq_true c9
           by_cases c10 : n ≤ (m.length : Int)
           ·rw [if_pos c10] at h
            have HMLe := HML.out
            have hcm := (Kd.R_reads HOM.out)
            have hmm : (m0.length : Int) ≤ 9223372036854775807 := by obtain ⟨_, _, _, _, hr_⟩ := hcm; have := hr_.2.1; omega
            obtain ⟨gm, cm2, em, gb, gl, cl2, HG⟩ := Kd.R_form HOM.out (by omega)
            have em2 : Am = some ⟨gm, 0, none⟩ := by injection em
            subst em2
            obtain ⟨hx12, hf12⟩ := Kd.R_celln false HOM.out (n - 1) (by omega) (by omega)
            have HQN := Aside0.mk (show (n - 1).toNat = n.toNat - 1 by omega)
            rw [HQN.out] at hx12 hf12
            obtain ⟨y2, hy2⟩ : ∃ y_, y_ = m.set (n.toNat - 1) true := ⟨_, rfl⟩
            rw [← hy2] at h
            have NY2 := Aside0.mk hy2
            have HY2L := Aside0.mk (show y2.length = m0.length by rw [hy2, List.length_set]; exact HMLe)
            have HGB := Aside0.mk gb
            have HP2 := Aside0.mk (HQN.out ▸ Kd.R_putg HOM.out (n - 1) true)
            have H' := Aside0.mk h
            have p12 := eq_true (show 0 ≤ n - 1 by omega)
            have q12 := eq_true (show n - 1 < (m0.length : Int) by omega)
            have p12b := eq_true (show 1 ≤ n by omega)
            have q13 := eq_true (show n ≤ (m0.length : Int) by omega)
            have d1 : (0 : Int) ≤ n := by omega
            have d2 : n ≤ 9223372036854775807 := by omega
            have p101 := eq_true c8
            have q101 := eq_true c7
            clear h c7 c8 c9 c10 hn hy2 hcm em HMLe gb gl cl2 HG HPC
            go_wp2_with ((with_reducible refine gate_store (t := 4) (p := 42) rfl ?_); refine store_event (t := 4) (p := 42) (v := ?vo_w14) (w1 := (wr.setCell ⟨gm, n.toNat - 1, none⟩ (.bool true))) ?hg ?ho ?hn ?hr ?_; (case ho => rfl); (case hg => rfl); (case hn => rfl); (case hr => first | (go_simp; done) | (go_simp; rfl)); intro w14 hw; have hgg : wr.grownBy w14 (some gm) := (by rw [hw]; exact HP2.out.2); have n1_ := Aside0.mk (show Kd.R Kd.bool 4 w14 w.heap.size (fun _ => True) (.slice (some ⟨gm, 0, none⟩) m0.length cm) y2 by rw [hw, NY2.out]; exact HP2.out.1); have n2_ := Aside0.mk ((by rw [hw]; exact below_set HB.out HGB.out : Below w.heap.size w w14)); have n3_ := Aside0.mk (Kd.R_over' HOP.out (Kd.R_typed HOM.out) (by decide) hgg); have n4_ := Aside0.mk (Kd.R_over' HOL.out (Kd.R_typed HOM.out) (by decide) hgg); clear HOM HOP HOL HB HP2 hgg hw; have HOM := n1_; have HB := n2_; have HOP := n3_; have HOL := n4_; clear n1_ n2_ n3_ n4_)
            go_roundg k2
            case measure => have := HK2.out; omega
            case rel => exact ⟨y2, wrap64 (x + 1), by first | rfl | (rw [← HWX.out]; done) | (rw [HWX.out]; done) | simp [HWX.out], H', ⟨by have := HK2.out; omega⟩, HY2L, ⟨zR_ HOM.out⟩, ⟨zR_ HOP.out⟩, ⟨zR_ HOL.out⟩, ⟨zb_ HB.out⟩⟩
           ·rw [if_neg c10] at h
            exact absurd h (by simp)
          ·rw [if_neg c9] at h
           have c9b : decide (0 < n) = false := decide_eq_false c9
           have H' := Aside0.mk h
           have p101 := eq_true c8
           have q101 := eq_true c7
           clear h c7 c8 c9 hn HPC
           go_wp2
           go_roundg k2
           case measure => have := HK2.out; omega
           case rel => exact ⟨m, wrap64 (x + 1), by first | rfl | (rw [← HWX.out]; done) | (rw [HWX.out]; done) | simp [HWX.out], H', ⟨by have := HK2.out; omega⟩, HML, ⟨zR_ HOM.out⟩, ⟨zR_ HOP.out⟩, ⟨zR_ HOL.out⟩, ⟨zb_ HB.out⟩⟩
         ·rw [if_neg c8] at h
          exact absurd h (by simp)
        ·rw [if_neg c7] at h
         have c7b : decide (x < (p1.length : Int)) = false := decide_eq_false c7
         obtain rfl : m = mm := by simpa using h
         clear h c7
         go_wp2_with (go_at_call 119; (with_reducible refine (spec_l5Copy.calls k1 _ _ L z _ ?side1 ?side2 G5.out).mono ?_); (case side1 => exact zC_ (Kd.R_reads' HOL.out).2.2); (case side2 => exact (Kd.R_reads' HOL.out).2.1); rintro e w11 ⟨v11, rfl, ho, hb⟩; have HOZ := Aside0.mk (Kd.S_lower ho (below_size (zb_ HB.out))); have n1_ := Aside0.mk (Kd.R_below (zR_ HOM.out : Kd.R Kd.bool 4 _ w.heap.size (fun _ => True) (.slice Am m0.length cm) m) hb); have n0_ := Aside0.mk (below_step (zb_ HB.out) hb); clear HB HOM; have HB := n0_; have HOM := n1_; clear n0_ n1_ ho hb)
         (try simp only [Exit.inBlock, Exit.then])
         refine bodyPost_ret (results_tmp4_ rfl _ _ _) rfl ?_
         exact ⟨_, _, by first | rfl | simp, zR_ HOM.out, zS_ HOZ.out, zb_ HB.out⟩
     ·rw [if_neg c6] at h
      exact absurd h (by simp)
def spec_Solve.f (k : Nat) (a0 : Int) (l1 : List (List Int)) : Option (Bool × List Bool × (List (List Int)) × Bool) := (spec_GoodClauses.f k a0 l1).bind fun t179 => (if t179 = true then ((spec_l5Solve.f k a0 l1).bind fun bt180 => (some (bt180.1, bt180.2.1, bt180.2.2.1, bt180.2.2.2))) else (some (false, ([] : List Bool), ([] : List (List Int)), false)))
theorem spec_Solve.mono : ∀ a0 a1 k, LeO (spec_Solve.f k a0 a1) (spec_Solve.f (k + 1) a0 a1) := by
 intro a0 a1 k
 unfold spec_Solve.f
 repeat' first
   | (with_reducible exact spec_GoodClauses.mono _ _ _)
   | (with_reducible exact spec_l5Solve.mono _ _ _)
   | (with_reducible exact LeO.refl _)
   | (with_reducible exact LeO.none _)
   | (with_reducible refine LeO.ite ?_ ?_)
   | (with_reducible refine LeO.bind ?_ (fun _ => ?_))
   | exact spec_GoodClauses.mono _ _ _
   | exact spec_l5Solve.mono _ _ _
   | exact LeO.none _
   | refine LeO.ite ?_ ?_
   | refine LeO.bind ?_ (fun _ => ?_)
set_option maxHeartbeats 8000000 in
set_option maxRecDepth 100000 in
theorem spec_Solve.calls (k : Nat) (a0 : Int) (A1 : Option Addr) (c1 : Nat) (l1 : List (List Int)) (r1 : Bool) (r2 : List Bool) (r3 : List (List Int)) (r4 : Bool) (w : World) (hr1 : Kd.C (Kd.slice 3 (Kd.int .i64)) w A1 l1.length l1) (hc1 : l1.length ≤ c1) (h : spec_Solve.f k a0 l1 = some (r1, r2, r3, r4)) :
  Calls Try.prog 97 #[.int .i64 a0, .slice A1 l1.length c1] w fun e w' => ∃ v1_ v2_ : Value, e = .returned (.tuple #[.bool r1, v1_, v2_, .bool r4]) ∧ Kd.R Kd.bool 4 w' w.heap.size (fun _ => True) v1_ r2 ∧ Kd.S (Kd.slice 3 (Kd.int .i64)) 42 w' w.heap.size (fun _ => True) v2_ r3 ∧ Below w.heap.size w w' := by
 have HR1 := Aside0.mk hr1
 have HC1 := Aside0.mk hc1
 clear hr1 hc1
 have HB := Aside0.mk (Below.refl w.heap.size w)
 have H : ((spec_GoodClauses.f k a0 l1).bind fun t179 => (if t179 = true then ((spec_l5Solve.f k a0 l1).bind fun bt180 => (some (bt180.1, bt180.2.1, bt180.2.2.1, bt180.2.2.2))) else (some (false, ([] : List Bool), ([] : List (List Int)), false)))) = some (r1, r2, r3, r4) := h
 clear h
 replace H := Option.bind_eq_some_iff.mp H
 obtain ⟨t179, A30, H⟩ := H
 (try dsimp only at H)
 have A3 := Aside0.mk A30
 clear A30
 by_cases c4 : t179 = true
 ·subst c4
  have H1 : ((spec_l5Solve.f k a0 l1).bind fun bt180 => (some (bt180.1, bt180.2.1, bt180.2.2.1, bt180.2.2.2))) = some (r1, r2, r3, r4) := by rw [if_pos rfl] at H; exact H
  clear H
  have H := H1
  clear H1
  replace H := Option.bind_eq_some_iff.mp H
  obtain ⟨⟨t180, t181, t182, t183⟩, A50, H⟩ := H
  (try dsimp only at H)
  have A5 := Aside0.mk A50
  clear A50
  simp only [Option.some.injEq, Prod.mk.injEq] at H
  obtain ⟨rfl, rfl, rfl, rfl⟩ := H
  go_enter Try.func97, Try.ntmps97
  go_wp2_with (first | ((with_reducible refine gate_callee (f := 104) rfl ?_); refine goesL_ (some 10) rfl rfl Try.func104 (by kernel_rfl) rfl #[.int .i64 a0, .slice A1 l1.length c1] rfl (by simp only [zA_, zB_, zD_] <;> rfl) ?_; (with_reducible refine (spec_GoodClauses.calls k a0 _ _ l1 true _ ?side1 ?side2 A3.out).mono ?_); (case side1 => exact zC_ HR1.out); (case side2 => exact HC1.out); rintro e w' ⟨rfl, ⟨nd, rfl⟩⟩; refine ⟨_, rfl, ?_⟩) | ((with_reducible refine gate_callee (f := 126) rfl ?_); refine goesL_ (some 14) rfl rfl Try.func126 (by kernel_rfl) rfl #[.int .i64 a0, .slice A1 l1.length c1] rfl (by simp only [zA_, zB_, zD_] <;> rfl) ?_; (with_reducible refine (spec_l5Solve.calls k a0 _ _ l1 t180 t181 t182 t183 _ ?side1 ?side2 A5.out).mono ?_); (case side1 => exact zC_ HR1.out); (case side2 => exact HC1.out); rintro e w6 ⟨v184, v186, rfl, ho0, ho1, hb⟩; refine ⟨_, rfl, ?_⟩; have n0_ := Aside0.mk (Kd.R_lower ho0 (below_size (zb_ HB.out))); have n1_ := Aside0.mk (Kd.S_lower ho1 (below_size (zb_ HB.out))); have n2_ := Aside0.mk (below_step (zb_ HB.out) hb); clear HB; have HO185 := n0_; have HO187 := n1_; have HB := n2_; clear n0_ n1_ n2_; (try clear hb); (try clear hb2); (try clear hk); (try clear hi); (try clear ho0); (try clear ho1)))
  refine bodyPost_ret (results_list (rs := [.tmp 4, .tmp 5, .tmp 6, .tmp 7]) rfl (by simp) (.tmp (.tmp (.tmp (.tmp .nil))))) rfl ?_
  exact ⟨_, _, by first | rfl | (simp [errW_none, errW_some] <;> rfl) | (simp [*, errW_none, errW_some] <;> rfl), zR_ HO185.out, zS_ HO187.out, zb_ HB.out⟩
 ·replace c4 := Bool.eq_false_iff.mpr c4
  subst c4
  have H1 : (some (false, ([] : List Bool), ([] : List (List Int)), false)) = some (r1, r2, r3, r4) := by rw [if_neg (show ¬ (false = true) by decide)] at H; exact H
  clear H
  have H := H1
  clear H1
  simp only [Option.some.injEq, Prod.mk.injEq] at H
  obtain ⟨rfl, rfl, rfl, rfl⟩ := H
  go_enter Try.func97, Try.ntmps97
  go_wp2_with (first | ((with_reducible refine gate_callee (f := 104) rfl ?_); refine goesL_ (some 10) rfl rfl Try.func104 (by kernel_rfl) rfl #[.int .i64 a0, .slice A1 l1.length c1] rfl (by simp only [zA_, zB_, zD_] <;> rfl) ?_; (with_reducible refine (spec_GoodClauses.calls k a0 _ _ l1 false _ ?side1 ?side2 A3.out).mono ?_); (case side1 => exact zC_ HR1.out); (case side2 => exact HC1.out); rintro e w' ⟨rfl, ⟨nd, rfl⟩⟩; refine ⟨_, rfl, ?_⟩))
  refine bodyPost_ret (results_list (rs := [.tmp 4, .tmp 5, .tmp 6, .tmp 7]) rfl (by simp) (.tmp (.tmp (.tmp (.tmp .nil))))) rfl ?_
  exact ⟨_, _, by first | rfl | (simp [errW_none, errW_some] <;> rfl) | (simp [*, errW_none, errW_some] <;> rfl), by first | exact Kd.R_nil _ _ _ _ _ | exact Kd.N_nil _ _ _ _ _ | exact Kd.V_nil _ _ _ _ _ | exact Kd.Q_nil _ _ _ _ _ | exact Kd.S_nil _ _ _ _ _, by first | exact Kd.S_nil _ _ _ _ _ | exact Kd.N_nil _ _ _ _ _ | exact Kd.V_nil _ _ _ _ _ | exact Kd.Q_nil _ _ _ _ _ | exact Kd.R_nil _ _ _ _ _, zb_ HB.out⟩
def spec_ProofOf.f (k : Nat) (a0 : Int) (l1 : List (List Int)) : Option ((List (List Int)) × Bool) := (spec_Solve.f k a0 l1).bind fun bt188 => (if bt188.2.2.2 = true then (if bt188.1 = true then (some (([] : List (List Int)), false)) else (some (bt188.2.2.1, true))) else (some (([] : List (List Int)), false)))
theorem spec_ProofOf.mono : ∀ a0 a1 k, LeO (spec_ProofOf.f k a0 a1) (spec_ProofOf.f (k + 1) a0 a1) := by
 intro a0 a1 k
 unfold spec_ProofOf.f
 repeat' first
   | (with_reducible exact spec_Solve.mono _ _ _)
   | (with_reducible exact LeO.refl _)
   | (with_reducible exact LeO.none _)
   | (with_reducible refine LeO.ite ?_ ?_)
   | (with_reducible refine LeO.bind ?_ (fun _ => ?_))
   | exact spec_Solve.mono _ _ _
   | exact LeO.none _
   | refine LeO.ite ?_ ?_
   | refine LeO.bind ?_ (fun _ => ?_)
set_option maxHeartbeats 8000000 in
set_option maxRecDepth 100000 in
theorem spec_ProofOf.calls (k : Nat) (a0 : Int) (A1 : Option Addr) (c1 : Nat) (l1 : List (List Int)) (r1 : List (List Int)) (r2 : Bool) (w : World) (hr1 : Kd.C (Kd.slice 3 (Kd.int .i64)) w A1 l1.length l1) (hc1 : l1.length ≤ c1) (h : spec_ProofOf.f k a0 l1 = some (r1, r2)) :
  Calls Try.prog 47 #[.int .i64 a0, .slice A1 l1.length c1] w fun e w' => ∃ v0_ : Value, e = .returned (.tuple #[v0_, .bool r2]) ∧ Kd.S (Kd.slice 3 (Kd.int .i64)) 42 w' w.heap.size (fun _ => True) v0_ r1 ∧ Below w.heap.size w w' := by
 have HR1 := Aside0.mk hr1
 have HC1 := Aside0.mk hc1
 clear hr1 hc1
 have HB := Aside0.mk (Below.refl w.heap.size w)
 have H : ((spec_Solve.f k a0 l1).bind fun bt188 => (if bt188.2.2.2 = true then (if bt188.1 = true then (some (([] : List (List Int)), false)) else (some (bt188.2.2.1, true))) else (some (([] : List (List Int)), false)))) = some (r1, r2) := h
 clear h
 replace H := Option.bind_eq_some_iff.mp H
 obtain ⟨⟨t188, t189, t190, t191⟩, A30, H⟩ := H
 (try dsimp only at H)
 have A3 := Aside0.mk A30
 clear A30
 by_cases c4 : t191 = true
 ·subst c4
  have H1 : (if t188 = true then (some (([] : List (List Int)), false)) else (some (t190, true))) = some (r1, r2) := by rw [if_pos rfl] at H; exact H
  clear H
  have H := H1
  clear H1
  by_cases c5 : t188 = true
  ·subst c5
   have H1 : (some (([] : List (List Int)), false)) = some (r1, r2) := by rw [if_pos rfl] at H; exact H
   clear H
   have H := H1
   clear H1
   simp only [Option.some.injEq, Prod.mk.injEq] at H
   obtain ⟨rfl, rfl⟩ := H
   go_enter Try.func47, Try.ntmps47
   go_wp2_with (first | ((with_reducible refine gate_callee (f := 97) rfl ?_); refine goesL_ (some 13) rfl rfl Try.func97 (by kernel_rfl) rfl #[.int .i64 a0, .slice A1 l1.length c1] rfl (by simp only [zA_, zB_, zD_] <;> rfl) ?_; (with_reducible refine (spec_Solve.calls k a0 _ _ l1 true t189 t190 true _ ?side1 ?side2 A3.out).mono ?_); (case side1 => exact zC_ HR1.out); (case side2 => exact HC1.out); rintro e w6 ⟨v192, v194, rfl, ho0, ho1, hb⟩; refine ⟨_, rfl, ?_⟩; have n0_ := Aside0.mk (Kd.R_lower ho0 (below_size (zb_ HB.out))); have n1_ := Aside0.mk (Kd.S_lower ho1 (below_size (zb_ HB.out))); have n2_ := Aside0.mk (below_step (zb_ HB.out) hb); clear HB; have HO193 := n0_; have HO195 := n1_; have HB := n2_; clear n0_ n1_ n2_; (try clear hb); (try clear hb2); (try clear hk); (try clear hi); (try clear ho0); (try clear ho1)))
   go_ret2
   exact ⟨_, by first | rfl | (simp [errW_none, errW_some] <;> rfl) | (simp [*, errW_none, errW_some] <;> rfl), by first | exact Kd.S_nil _ _ _ _ _ | exact Kd.N_nil _ _ _ _ _ | exact Kd.V_nil _ _ _ _ _ | exact Kd.Q_nil _ _ _ _ _ | exact Kd.R_nil _ _ _ _ _, zb_ HB.out⟩
  ·replace c5 := Bool.eq_false_iff.mpr c5
   subst c5
   have H1 : (some (t190, true)) = some (r1, r2) := by rw [if_neg (show ¬ (false = true) by decide)] at H; exact H
   clear H
   have H := H1
   clear H1
   simp only [Option.some.injEq, Prod.mk.injEq] at H
   obtain ⟨rfl, rfl⟩ := H
   go_enter Try.func47, Try.ntmps47
   go_wp2_with (first | ((with_reducible refine gate_callee (f := 97) rfl ?_); refine goesL_ (some 13) rfl rfl Try.func97 (by kernel_rfl) rfl #[.int .i64 a0, .slice A1 l1.length c1] rfl (by simp only [zA_, zB_, zD_] <;> rfl) ?_; (with_reducible refine (spec_Solve.calls k a0 _ _ l1 false t189 t190 true _ ?side1 ?side2 A3.out).mono ?_); (case side1 => exact zC_ HR1.out); (case side2 => exact HC1.out); rintro e w7 ⟨v192, v194, rfl, ho0, ho1, hb⟩; refine ⟨_, rfl, ?_⟩; have n0_ := Aside0.mk (Kd.R_lower ho0 (below_size (zb_ HB.out))); have n1_ := Aside0.mk (Kd.S_lower ho1 (below_size (zb_ HB.out))); have n2_ := Aside0.mk (below_step (zb_ HB.out) hb); clear HB; have HO193 := n0_; have HO195 := n1_; have HB := n2_; clear n0_ n1_ n2_; (try clear hb); (try clear hb2); (try clear hk); (try clear hi); (try clear ho0); (try clear ho1)))
   go_ret2
   exact ⟨_, by first | rfl | (simp [errW_none, errW_some] <;> rfl) | (simp [*, errW_none, errW_some] <;> rfl), zS_ HO195.out, zb_ HB.out⟩
 ·replace c4 := Bool.eq_false_iff.mpr c4
  subst c4
  have H1 : (some (([] : List (List Int)), false)) = some (r1, r2) := by rw [if_neg (show ¬ (false = true) by decide)] at H; exact H
  clear H
  have H := H1
  clear H1
  simp only [Option.some.injEq, Prod.mk.injEq] at H
  obtain ⟨rfl, rfl⟩ := H
  go_enter Try.func47, Try.ntmps47
  go_wp2_with (first | ((with_reducible refine gate_callee (f := 97) rfl ?_); refine goesL_ (some 13) rfl rfl Try.func97 (by kernel_rfl) rfl #[.int .i64 a0, .slice A1 l1.length c1] rfl (by simp only [zA_, zB_, zD_] <;> rfl) ?_; (with_reducible refine (spec_Solve.calls k a0 _ _ l1 t188 t189 t190 false _ ?side1 ?side2 A3.out).mono ?_); (case side1 => exact zC_ HR1.out); (case side2 => exact HC1.out); rintro e w8 ⟨v192, v194, rfl, ho0, ho1, hb⟩; refine ⟨_, rfl, ?_⟩; have n0_ := Aside0.mk (Kd.R_lower ho0 (below_size (zb_ HB.out))); have n1_ := Aside0.mk (Kd.S_lower ho1 (below_size (zb_ HB.out))); have n2_ := Aside0.mk (below_step (zb_ HB.out) hb); clear HB; have HO193 := n0_; have HO195 := n1_; have HB := n2_; clear n0_ n1_ n2_; (try clear hb); (try clear hb2); (try clear hk); (try clear hi); (try clear ho0); (try clear ho1)))
  go_ret2
  exact ⟨_, by first | rfl | (simp [errW_none, errW_some] <;> rfl) | (simp [*, errW_none, errW_some] <;> rfl), by first | exact Kd.S_nil _ _ _ _ _ | exact Kd.N_nil _ _ _ _ _ | exact Kd.V_nil _ _ _ _ _ | exact Kd.Q_nil _ _ _ _ _ | exact Kd.R_nil _ _ _ _ _, zb_ HB.out⟩
/-- A state of type 72 at block g of W; what its slices lead to came in by w0. -/
def IsS72 (w0 W : World) (g : Nat) (f0 : List Int) (f1 : Int) (f2 : Int) : Prop := ∃ A0 c0, W.heap[g]? = some (.cells #[.slice A0 f0.length c0, .int .i64 f1, .int .u64 f2] 72 (0, 0)) ∧ w0.heap.size ≤ g ∧ Kd.C (Kd.int .u8) w0 A0 f0.length f0
theorem IsS72.grown {w0 W : World} {g : Nat} {f0 : List Int} {f1 : Int} {f2 : Int} {W1 : World} {row : Option Nat} (h : IsS72 w0 W g f0 f1 f2) (hw : W.grownBy W1 row) (hne : some g ≠ row) : IsS72 w0 W1 g f0 f1 f2 := by
 obtain ⟨A0, c0, hb, hg, hr0⟩ := h
 exact ⟨A0, c0, blk_grown hb hw hne, hg, hr0⟩
theorem IsS72.own_neN {w0 W : World} {g : Nat} {f0 : List Int} {f1 : Int} {f2 : Int} {α : Type} {d : Kd α} {e : Nat} {base : Nat} {ok : Nat → Prop} {v : Value} {xs : List α} (h : IsS72 w0 W g f0 f1 f2) (ho : Kd.N d e W base ok v xs) (ht : e ≠ 72) : some g ≠ v.ownBlock := by
 obtain ⟨A0, c0, hb, hg, hr0⟩ := h
 exact Kd.N_ne ho hb ht
theorem IsS72.fresh {w0 W : World} {g : Nat} {f0 : List Int} {f1 : Int} {f2 : Int} (h : IsS72 w0 W g f0 f1 f2) : ∀ k, W.heap.size ≤ k → k ≠ g := by
 obtain ⟨A0, c0, hb, hg, hr0⟩ := h
 exact Kd.freshB hb
theorem IsS72.kept {w0 W : World} {g : Nat} {f0 : List Int} {f1 : Int} {f2 : Int} {W1 : World} {S : Nat → Prop} (h : IsS72 w0 W g f0 f1 f2) (hk : Kept W W1 S) (hne : ¬ S g) : IsS72 w0 W1 g f0 f1 f2 := by
 obtain ⟨A0, c0, hb, hg, hr0⟩ := h
 exact ⟨A0, c0, blk_kept hb hk hne, hg, hr0⟩
theorem IsS72.below {w0 W : World} {g : Nat} {f0 : List Int} {f1 : Int} {f2 : Int} {W1 : World} (h : IsS72 w0 W g f0 f1 f2) (hw : Below W.heap.size W W1) : IsS72 w0 W1 g f0 f1 f2 := h.grown (grown_of_below hw none) (by simp)
theorem IsS72.g {w0 W : World} {g : Nat} {f0 : List Int} {f1 : Int} {f2 : Int} {W1 : World} [i : Gw W W1] (h : IsS72 w0 W g f0 f1 f2) : IsS72 w0 W1 g f0 f1 f2 := IsS72.below h i.out
theorem IsS72.alloc {w0 W : World} {g : Nat} {f0 : List Int} {f1 : Int} {f2 : Int} (h : IsS72 w0 W g f0 f1 f2) (o : Obj) : IsS72 w0 (W.alloc o) g f0 f1 f2 := h.below (below_alloc (Below.refl _ _) o)
theorem IsS72.drewN {w0 W : World} {g : Nat} {f0 : List Int} {f1 : Int} {f2 : Int} (h : IsS72 w0 W g f0 f1 f2) (m : Nat) : IsS72 w0 (W.drewN m) g f0 f1 f2 := h
theorem IsS72.drew {w0 W : World} {g : Nat} {f0 : List Int} {f1 : Int} {f2 : Int} (h : IsS72 w0 W g f0 f1 f2) : IsS72 w0 W.drew g f0 f1 f2 := h
theorem IsS72.at_ {w0 W : World} {g : Nat} {f0 : List Int} {f1 : Int} {f2 : Int} {w' : World} {m : Nat} (hq : W.drewN m = w') (h : IsS72 w0 W g f0 f1 f2) : IsS72 w0 w' g f0 f1 f2 := by subst hq; exact IsS72.drewN h m
theorem IsS72.apart {w0 W : World} {g : Nat} {f0 : List Int} {f1 : Int} {f2 : Int} {α : Type} {d : Kd α} {e : Nat} {base : Nat} {ok : Nat → Prop} {v : Value} {xs : List α} (h : IsS72 w0 W g f0 f1 f2) (ho : d.R e W base ok v xs) (ht : ∀ q, q ∈ e :: d.E → q ≠ 72) : d.R e W base (fun k => ok k ∧ k ≠ g) v xs := by
 obtain ⟨A0, c0, hb, hg, hr0⟩ := h
 exact Kd.R_types ho hb ht
theorem IsS72.own_ne {w0 W : World} {g : Nat} {f0 : List Int} {f1 : Int} {f2 : Int} {α : Type} {d : Kd α} {e : Nat} {base : Nat} {ok : Nat → Prop} {v : Value} {xs : List α} (h : IsS72 w0 W g f0 f1 f2) (ho : d.R e W base ok v xs) (ht : e ≠ 72) : some g ≠ v.ownBlock := by
 obtain ⟨A0, c0, hb, hg, hr0⟩ := h
 exact Kd.R_ne ho hb ht
theorem IsS72.apartQ {w0 W : World} {g : Nat} {f0 : List Int} {f1 : Int} {f2 : Int} {α : Type} {d : Kd α} {e : Nat} {base : Nat} {ok : Nat → Prop} {v : Value} {xs : List α} (h : IsS72 w0 W g f0 f1 f2) (ho : d.Q e W base ok v xs) (ht : ∀ q, q ∈ e :: d.E → q ≠ 72) : d.Q e W base (fun k => ok k ∧ k ≠ g) v xs := by
 obtain ⟨A0, c0, hb, hg, hr0⟩ := h
 exact Kd.Q_types ho hb ht
theorem IsS72.own_neQ {w0 W : World} {g : Nat} {f0 : List Int} {f1 : Int} {f2 : Int} {α : Type} {d : Kd α} {e : Nat} {base : Nat} {ok : Nat → Prop} {v : Value} {xs : List α} (h : IsS72 w0 W g f0 f1 f2) (ho : d.Q e W base ok v xs) (ht : e ≠ 72) : some g ≠ v.ownBlock := by
 obtain ⟨A0, c0, hb, hg, hr0⟩ := h
 exact Kd.Q_ne ho hb ht
theorem IsS72.apartS {w0 W : World} {g : Nat} {f0 : List Int} {f1 : Int} {f2 : Int} {α : Type} {d : Kd α} {e : Nat} {base : Nat} {ok : Nat → Prop} {v : Value} {xs : List α} (h : IsS72 w0 W g f0 f1 f2) (ho : d.S e W base ok v xs) (ht : ∀ q, q ∈ e :: d.E → q ≠ 72) : d.S e W base (fun k => ok k ∧ k ≠ g) v xs := by
 obtain ⟨A0, c0, hb, hg, hr0⟩ := h
 exact Kd.S_types ho hb ht
theorem IsS72.own_neS {w0 W : World} {g : Nat} {f0 : List Int} {f1 : Int} {f2 : Int} {α : Type} {d : Kd α} {e : Nat} {base : Nat} {ok : Nat → Prop} {v : Value} {xs : List α} (h : IsS72 w0 W g f0 f1 f2) (ho : d.S e W base ok v xs) (ht : e ≠ 72) : some g ≠ v.ownBlock := by
 obtain ⟨A0, c0, hb, hg, hr0⟩ := h
 exact Kd.S_ne ho hb ht
theorem IsS72.lt {w0 W : World} {g : Nat} {f0 : List Int} {f1 : Int} {f2 : Int} (h : IsS72 w0 W g f0 f1 f2) : g < W.heap.size := by
 obtain ⟨A0, c0, hb, hg, hr0⟩ := h
 exact blk_lt hb
theorem IsS72.ge {w0 W : World} {g : Nat} {f0 : List Int} {f1 : Int} {f2 : Int} (h : IsS72 w0 W g f0 f1 f2) : w0.heap.size ≤ g := by
 obtain ⟨A0, c0, hb, hg, hr0⟩ := h
 exact hg
theorem IsS72.ne_blk {w0 W : World} {g : Nat} {f0 : List Int} {f1 : Int} {f2 : Int} {a : Nat} {cs : Array Value} {t : TypeId} {fr : Nat × Nat} (h : IsS72 w0 W g f0 f1 f2) (hb2 : W.heap[a]? = some (.cells cs t fr)) (ht : t ≠ 72) : g ≠ a := by
 obtain ⟨A0, c0, hb, hg, hr0⟩ := h
 rintro rfl
 rw [hb] at hb2
 injection hb2 with hb2
 injection hb2 with _ ht2
 exact ht ht2.symm
theorem IsS72.far {w0 W : World} {g : Nat} {f0 : List Int} {f1 : Int} {f2 : Int} {p : Addr} (h : IsS72 w0 W g f0 f1 f2) (hne : g ≠ p.block) (u : Value) : IsS72 w0 (W.setCell p u) g f0 f1 f2 := by
 obtain ⟨A0, c0, hb, hg, hr0⟩ := h
 exact ⟨A0, c0, blk_far hb hne u, hg, hr0⟩
theorem cellS72_0 {W : World} {g : Nat} {A0 : Option Addr} {c0 : Nat} {f0 : List Int} {f1 : Int} {f2 : Int} (h : W.heap[g]? = some (.cells #[.slice A0 f0.length c0, .int .i64 f1, .int .u64 f2] 72 (0, 0))) : W.cell? ⟨g, 0, none⟩ = some (.slice A0 f0.length c0) := (blk_cell h 0).trans rfl
theorem cellS72_1 {W : World} {g : Nat} {A0 : Option Addr} {c0 : Nat} {f0 : List Int} {f1 : Int} {f2 : Int} (h : W.heap[g]? = some (.cells #[.slice A0 f0.length c0, .int .i64 f1, .int .u64 f2] 72 (0, 0))) : W.cell? ⟨g, 1, none⟩ = some (.int .i64 f1) := (blk_cell h 1).trans rfl
theorem IsS72.set_1 {w0 W : World} {g : Nat} {f0 : List Int} {f1 : Int} {f2 : Int} (h : IsS72 w0 W g f0 f1 f2) (x : Int) : IsS72 w0 (W.setCell ⟨g, 1, none⟩ (.int .i64 x)) g f0 x f2 := by
 obtain ⟨A0, c0, hb, hg, hr0⟩ := h
 exact ⟨A0, c0, by simpa using blk_set hb 1 (.int .i64 x), hg, hr0⟩
theorem cellS72_2 {W : World} {g : Nat} {A0 : Option Addr} {c0 : Nat} {f0 : List Int} {f1 : Int} {f2 : Int} (h : W.heap[g]? = some (.cells #[.slice A0 f0.length c0, .int .i64 f1, .int .u64 f2] 72 (0, 0))) : W.cell? ⟨g, 2, none⟩ = some (.int .u64 f2) := (blk_cell h 2).trans rfl
theorem IsS72.set_2 {w0 W : World} {g : Nat} {f0 : List Int} {f1 : Int} {f2 : Int} (h : IsS72 w0 W g f0 f1 f2) (x : Int) : IsS72 w0 (W.setCell ⟨g, 2, none⟩ (.int .u64 x)) g f0 f1 x := by
 obtain ⟨A0, c0, hb, hg, hr0⟩ := h
 exact ⟨A0, c0, by simpa using blk_set hb 2 (.int .u64 x), hg, hr0⟩
theorem IsS72.new (w0 W : World) (A0 : Option Addr) (c0 : Nat) (f0 : List Int) (f1 : Int) (f2 : Int) (hB : Below w0.heap.size w0 W) (hr0 : Kd.C (Kd.int .u8) w0 A0 f0.length f0) : IsS72 w0 (W.alloc (.cells #[.slice A0 f0.length c0, .int .i64 f1, .int .u64 f2] 72)) W.heap.size f0 f1 f2 := ⟨A0, c0, by simpa using heap_alloc_new W _, hB.size, hr0⟩
def spec_l1Cur_next.f (s0_0 : List Int) (s0_1 : Int) (s0_2 : Int) : Option (Int × Int × Int) := if s0_1 < (s0_0.length : Int) then (if 0 ≤ s0_1 then (if (wrap64 (s0_1 + 1)) ≤ (s0_0.length : Int) then (some (wrap64 (rd s0_0 s0_1), wrap64 (s0_1 + 1), IntKind.u64.wrap ((IntKind.u64.wrap ((IntKind.u64.wrap (s0_2 * 6364136223846793005)) + (IntKind.u64.wrap (wrap64 (rd s0_0 s0_1))))) + 1442695040888963407))) else (some (wrap64 (Go.bits .and .u64 ((IntKind.u64.wrap ((IntKind.u64.wrap ((IntKind.u64.wrap (s0_2 * 6364136223846793005)) + (IntKind.u64.wrap (wrap64 (rd s0_0 s0_1))))) + 1442695040888963407)) / 1099511627776) 255), wrap64 (s0_1 + 1), IntKind.u64.wrap ((IntKind.u64.wrap ((IntKind.u64.wrap (s0_2 * 6364136223846793005)) + (IntKind.u64.wrap (wrap64 (rd s0_0 s0_1))))) + 1442695040888963407)))) else (none)) else (if (wrap64 (s0_1 + 1)) ≤ (s0_0.length : Int) then (some (0, wrap64 (s0_1 + 1), IntKind.u64.wrap ((IntKind.u64.wrap ((IntKind.u64.wrap (s0_2 * 6364136223846793005)) + 0)) + 1442695040888963407))) else (some (wrap64 (Go.bits .and .u64 ((IntKind.u64.wrap ((IntKind.u64.wrap ((IntKind.u64.wrap (s0_2 * 6364136223846793005)) + 0)) + 1442695040888963407)) / 1099511627776) 255), wrap64 (s0_1 + 1), IntKind.u64.wrap ((IntKind.u64.wrap ((IntKind.u64.wrap (s0_2 * 6364136223846793005)) + 0)) + 1442695040888963407))))
set_option maxHeartbeats 8000000 in
set_option maxRecDepth 100000 in
theorem spec_l1Cur_next.calls (g : Nat) (s0_0 : List Int) (s0_1 : Int) (s0_2 : Int) (r1 : Int) (r2 : Int) (r3 : Int) (w0 w : World) (hI : IsS72 w0 w g s0_0 s0_1 s0_2) (hB : Below w0.heap.size w0 w) (h : spec_l1Cur_next.f s0_0 s0_1 s0_2 = some (r1, r2, r3)) :
  Calls Try.prog 109 #[.pointer (some ⟨g, 0, none⟩)] w fun e w' => e = .returned (.int .i64 r1) ∧ IsS72 w0 w' g s0_0 r2 r3 ∧ Below w0.heap.size w0 w' ∧ KeepBut w w' g none := by
 have HI0 := Aside0.mk hI
 have HK := Aside0.mk (KeepBut.refl w g none)
 have HL := Aside0.mk hB.size
 clear hI
 have HW0 := Aside0.mk hB.size
 have HB := Aside0.mk hB
 clear hB
 have H : (if s0_1 < (s0_0.length : Int) then (if 0 ≤ s0_1 then (if (wrap64 (s0_1 + 1)) ≤ (s0_0.length : Int) then (some (wrap64 (rd s0_0 s0_1), wrap64 (s0_1 + 1), IntKind.u64.wrap ((IntKind.u64.wrap ((IntKind.u64.wrap (s0_2 * 6364136223846793005)) + (IntKind.u64.wrap (wrap64 (rd s0_0 s0_1))))) + 1442695040888963407))) else (some (wrap64 (Go.bits .and .u64 ((IntKind.u64.wrap ((IntKind.u64.wrap ((IntKind.u64.wrap (s0_2 * 6364136223846793005)) + (IntKind.u64.wrap (wrap64 (rd s0_0 s0_1))))) + 1442695040888963407)) / 1099511627776) 255), wrap64 (s0_1 + 1), IntKind.u64.wrap ((IntKind.u64.wrap ((IntKind.u64.wrap (s0_2 * 6364136223846793005)) + (IntKind.u64.wrap (wrap64 (rd s0_0 s0_1))))) + 1442695040888963407)))) else (none)) else (if (wrap64 (s0_1 + 1)) ≤ (s0_0.length : Int) then (some (0, wrap64 (s0_1 + 1), IntKind.u64.wrap ((IntKind.u64.wrap ((IntKind.u64.wrap (s0_2 * 6364136223846793005)) + 0)) + 1442695040888963407))) else (some (wrap64 (Go.bits .and .u64 ((IntKind.u64.wrap ((IntKind.u64.wrap ((IntKind.u64.wrap (s0_2 * 6364136223846793005)) + 0)) + 1442695040888963407)) / 1099511627776) 255), wrap64 (s0_1 + 1), IntKind.u64.wrap ((IntKind.u64.wrap ((IntKind.u64.wrap (s0_2 * 6364136223846793005)) + 0)) + 1442695040888963407))))) = some (r1, r2, r3) := h
 clear h
 simp only [Int.add_zero] at H
 by_cases c2 : s0_1 < (s0_0.length : Int)
 ·rw [if_pos c2] at H
  have c2b0 : decide (s0_1 < (s0_0.length : Int)) = true := decide_eq_true c2
  clear c2
  by_cases c3 : 0 ≤ s0_1
  ·rw [if_pos c3] at H
   have c3b0 : decide (0 ≤ s0_1) = true := decide_eq_true c3
   clear c3
   by_cases c4 : (wrap64 (s0_1 + 1)) ≤ (s0_0.length : Int)
   ·rw [if_pos c4] at H
    have c4b0 : decide ((wrap64 (s0_1 + 1)) ≤ (s0_0.length : Int)) = true := decide_eq_true c4
    clear c4
    simp only [Option.some.injEq, Prod.mk.injEq] at H
    obtain ⟨rfl, rfl, rfl⟩ := H
    obtain ⟨ASz5_0, cSz5_0, HGz5, hgz5, HSz5_0⟩ := HI0.out
    have hcz5_0 := cellS72_0 HGz5
    have hcz5_1 := cellS72_1 HGz5
    have hcz5_2 := cellS72_2 HGz5
    have hfz5_1 := blk_frozen HGz5 1
    have hfz5_2 := blk_frozen HGz5 2
    clear HGz5 hgz5
    have p196 : 0 ≤ (s0_1 : Int) := of_decide_eq_true (by assumption)
    have q196 : s0_1 < (s0_0.length : Int) := of_decide_eq_true (by assumption)
    obtain ⟨ad196, e196, hx196_0⟩ := Kd.at_int HSz5_0 s0_1 p196 q196
    cases e196
    replace hx196_0 := pw_cell_below HB.out hx196_0
    replace p196 := eq_true p196
    replace q196 := eq_true q196
    go_enter Try.func109, Try.ntmps109
    go_wp2
    repeat (go_quiet (fail); try go_wp2)
    go_ret
    exact ⟨by first | rfl | (simp [errW_none, errW_some] <;> rfl) | (simp [*, errW_none, errW_some] <;> rfl), by repeat (first | (with_reducible first | exact HI0.out | apply IsS72.alloc | apply IsS72.drewN | apply IsS72.drew | apply IsS72.set_1 | apply IsS72.set_2) | exact HI0.out), by repeat (first | (with_reducible first | exact HB.out | apply below_alloc | apply pw_below_drewN | apply below_drew1 | refine below_set ?_ (IsS72.ge HI0.out)) | exact HB.out), by repeat (first | (with_reducible first | exact HK.out | apply KeepBut.set_ | apply keep_drewN | apply keep_drew | apply keep_alloc) | exact HK.out)⟩
   ·rw [if_neg c4] at H
    have c4b0 : decide ((wrap64 (s0_1 + 1)) ≤ (s0_0.length : Int)) = false := decide_eq_false c4
    clear c4
    simp only [Option.some.injEq, Prod.mk.injEq] at H
    obtain ⟨rfl, rfl, rfl⟩ := H
    obtain ⟨ASz6_0, cSz6_0, HGz6, hgz6, HSz6_0⟩ := HI0.out
    have hcz6_0 := cellS72_0 HGz6
    have hcz6_1 := cellS72_1 HGz6
    have hcz6_2 := cellS72_2 HGz6
    have hfz6_1 := blk_frozen HGz6 1
    have hfz6_2 := blk_frozen HGz6 2
    clear HGz6 hgz6
    have p196 : 0 ≤ (s0_1 : Int) := of_decide_eq_true (by assumption)
    have q196 : s0_1 < (s0_0.length : Int) := of_decide_eq_true (by assumption)
    obtain ⟨ad196, e196, hx196_0⟩ := Kd.at_int HSz6_0 s0_1 p196 q196
    cases e196
    replace hx196_0 := pw_cell_below HB.out hx196_0
    replace p196 := eq_true p196
    replace q196 := eq_true q196
    go_enter Try.func109, Try.ntmps109
    go_wp2
    repeat (go_quiet (fail); try go_wp2)
    go_ret
    exact ⟨by first | rfl | (simp [errW_none, errW_some] <;> rfl) | (simp [*, errW_none, errW_some] <;> rfl), by repeat (first | (with_reducible first | exact HI0.out | apply IsS72.alloc | apply IsS72.drewN | apply IsS72.drew | apply IsS72.set_1 | apply IsS72.set_2) | exact HI0.out), by repeat (first | (with_reducible first | exact HB.out | apply below_alloc | apply pw_below_drewN | apply below_drew1 | refine below_set ?_ (IsS72.ge HI0.out)) | exact HB.out), by repeat (first | (with_reducible first | exact HK.out | apply KeepBut.set_ | apply keep_drewN | apply keep_drew | apply keep_alloc) | exact HK.out)⟩
  ·rw [if_neg c3] at H
   exact absurd H (by simp)
 ·rw [if_neg c2] at H
  have c2b0 : decide (s0_1 < (s0_0.length : Int)) = false := decide_eq_false c2
  clear c2
  by_cases c7 : (wrap64 (s0_1 + 1)) ≤ (s0_0.length : Int)
  ·rw [if_pos c7] at H
   have c7b0 : decide ((wrap64 (s0_1 + 1)) ≤ (s0_0.length : Int)) = true := decide_eq_true c7
   clear c7
   simp only [Option.some.injEq, Prod.mk.injEq] at H
   obtain ⟨rfl, rfl, rfl⟩ := H
   obtain ⟨ASz8_0, cSz8_0, HGz8, hgz8, HSz8_0⟩ := HI0.out
   have hcz8_0 := cellS72_0 HGz8
   have hcz8_1 := cellS72_1 HGz8
   have hcz8_2 := cellS72_2 HGz8
   have hfz8_1 := blk_frozen HGz8 1
   have hfz8_2 := blk_frozen HGz8 2
   clear HGz8 hgz8
   go_enter Try.func109, Try.ntmps109
   go_wp2
   repeat (go_quiet (fail); try go_wp2)
   go_ret
   exact ⟨by first | rfl | (simp [errW_none, errW_some] <;> rfl) | (simp [*, errW_none, errW_some] <;> rfl), by repeat (first | (with_reducible first | exact HI0.out | apply IsS72.alloc | apply IsS72.drewN | apply IsS72.drew | apply IsS72.set_1 | apply IsS72.set_2) | exact HI0.out), by repeat (first | (with_reducible first | exact HB.out | apply below_alloc | apply pw_below_drewN | apply below_drew1 | refine below_set ?_ (IsS72.ge HI0.out)) | exact HB.out), by repeat (first | (with_reducible first | exact HK.out | apply KeepBut.set_ | apply keep_drewN | apply keep_drew | apply keep_alloc) | exact HK.out)⟩
  ·rw [if_neg c7] at H
   have c7b0 : decide ((wrap64 (s0_1 + 1)) ≤ (s0_0.length : Int)) = false := decide_eq_false c7
   clear c7
   simp only [Option.some.injEq, Prod.mk.injEq] at H
   obtain ⟨rfl, rfl, rfl⟩ := H
   obtain ⟨ASz9_0, cSz9_0, HGz9, hgz9, HSz9_0⟩ := HI0.out
   have hcz9_0 := cellS72_0 HGz9
   have hcz9_1 := cellS72_1 HGz9
   have hcz9_2 := cellS72_2 HGz9
   have hfz9_1 := blk_frozen HGz9 1
   have hfz9_2 := blk_frozen HGz9 2
   clear HGz9 hgz9
   go_enter Try.func109, Try.ntmps109
   go_wp2
   repeat (go_quiet (fail); try go_wp2)
   go_ret
   exact ⟨by first | rfl | (simp [errW_none, errW_some] <;> rfl) | (simp [*, errW_none, errW_some] <;> rfl), by repeat (first | (with_reducible first | exact HI0.out | apply IsS72.alloc | apply IsS72.drewN | apply IsS72.drew | apply IsS72.set_1 | apply IsS72.set_2) | exact HI0.out), by repeat (first | (with_reducible first | exact HB.out | apply below_alloc | apply pw_below_drewN | apply below_drew1 | refine below_set ?_ (IsS72.ge HI0.out)) | exact HB.out), by repeat (first | (with_reducible first | exact HK.out | apply KeepBut.set_ | apply keep_drewN | apply keep_drew | apply keep_alloc) | exact HK.out)⟩
def spec_l1Cur_pick.f (s0_0 : List Int) (s0_1 : Int) (s0_2 : Int) (a1 : Int) : Option (Int × Int × Int) := if a1 ≤ 1 then (some (0, s0_1, s0_2)) else ((spec_l1Cur_next.f s0_0 s0_1 s0_2).bind fun bt197 => (if a1 > 200 then ((spec_l1Cur_next.f s0_0 bt197.2.1 bt197.2.2).bind fun bt200 => (if a1 = 0 then (none) else (some (Int.tmod (wrap64 ((wrap64 (bt197.1 * 256)) + bt200.1)) a1, bt200.2.1, bt200.2.2)))) else (if a1 = 0 then (none) else (some (Int.tmod bt197.1 a1, bt197.2.1, bt197.2.2)))))
set_option maxHeartbeats 8000000 in
set_option maxRecDepth 100000 in
theorem spec_l1Cur_pick.calls (g : Nat) (s0_0 : List Int) (s0_1 : Int) (s0_2 : Int) (a1 : Int) (r1 : Int) (r2 : Int) (r3 : Int) (w0 w : World) (hI : IsS72 w0 w g s0_0 s0_1 s0_2) (hB : Below w0.heap.size w0 w) (h : spec_l1Cur_pick.f s0_0 s0_1 s0_2 a1 = some (r1, r2, r3)) :
  Calls Try.prog 69 #[.pointer (some ⟨g, 0, none⟩), .int .i64 a1] w fun e w' => e = .returned (.int .i64 r1) ∧ IsS72 w0 w' g s0_0 r2 r3 ∧ Below w0.heap.size w0 w' ∧ KeepBut w w' g none := by
 have HI0 := Aside0.mk hI
 have HK := Aside0.mk (KeepBut.refl w g none)
 have HL := Aside0.mk hB.size
 clear hI
 have HW0 := Aside0.mk hB.size
 have HB := Aside0.mk hB
 clear hB
 have H : (if a1 ≤ 1 then (some (0, s0_1, s0_2)) else ((spec_l1Cur_next.f s0_0 s0_1 s0_2).bind fun bt197 => (if a1 > 200 then ((spec_l1Cur_next.f s0_0 bt197.2.1 bt197.2.2).bind fun bt200 => (if a1 = 0 then (none) else (some (Int.tmod (wrap64 ((wrap64 (bt197.1 * 256)) + bt200.1)) a1, bt200.2.1, bt200.2.2)))) else (if a1 = 0 then (none) else (some (Int.tmod bt197.1 a1, bt197.2.1, bt197.2.2)))))) = some (r1, r2, r3) := h
 clear h
 by_cases c3 : a1 ≤ 1
 ·rw [if_pos c3] at H
  have c3b0 : decide (a1 ≤ 1) = true := decide_eq_true c3
  clear c3
  simp only [Option.some.injEq, Prod.mk.injEq] at H
  obtain ⟨rfl, rfl, rfl⟩ := H
  go_enter Try.func69, Try.ntmps69
  go_wp2
  go_ret
  exact ⟨by first | rfl | (simp [errW_none, errW_some] <;> rfl) | (simp [*, errW_none, errW_some] <;> rfl), IsS72.g HI0.out, zb_ HB.out, zK_ HK.out⟩
 ·rw [if_neg c3] at H
  have c3b0 : decide (a1 ≤ 1) = false := decide_eq_false c3
  clear c3
  replace H := Option.bind_eq_some_iff.mp H
  obtain ⟨⟨t197, t198, t199⟩, A40, H⟩ := H
  (try dsimp only at H)
  have A4 := Aside0.mk A40
  clear A40
  by_cases c5 : a1 > 200
  ·rw [if_pos c5] at H
   have c5b0 : decide (200 < a1) = true := decide_eq_true c5
   clear c5
   replace H := Option.bind_eq_some_iff.mp H
   obtain ⟨⟨t200, t201, t202⟩, A60, H⟩ := H
   (try dsimp only at H)
   have A6 := Aside0.mk A60
   clear A60
   by_cases c7 : a1 = 0
   ·rw [if_pos c7] at H
    exact absurd H (by simp)
   ·rw [if_neg c7] at H
    have c7b0 : (a1 == 0) = false := beq_eq_false_iff_ne.mpr c7
    have c7b1 : (a1 != 0) = true := bne_iff_ne.mpr c7
    simp only [Option.some.injEq, Prod.mk.injEq] at H
    obtain ⟨rfl, rfl, rfl⟩ := H
    go_enter Try.func69, Try.ntmps69
    go_wp2_with (first | ((with_reducible refine gate_callee (f := 109) rfl ?_); refine goesL_ (some 9) rfl rfl Try.func109 (by kernel_rfl) rfl #[.pointer (some ⟨g, 0, none⟩)] rfl (by simp only [zA_, zB_, zD_] <;> rfl) ?_; (with_reducible refine (spec_l1Cur_next.calls g s0_0 s0_1 s0_2 t197 t198 t199 w0 _ ?side1 ?side2 A4.out).mono ?_); (case side1 => exact IsS72.g HI0.out); (case side2 => exact zb_ HB.out); rintro e w8 ⟨rfl, hi, hb, hk⟩; refine ⟨_, rfl, ?_⟩; have n0_ := Aside0.mk (KeepBut.trans (zK_ HK.out) hk (.inl rfl)); have n1_ := Aside0.mk (hb); have n2_ := Aside0.mk (hi); clear HK; clear HB; clear HI0; have HK := n0_; have HB := n1_; have HI0 := n2_; clear n0_ n1_ n2_; (try clear hb); (try clear hb2); (try clear hk); (try clear hi)) | ((with_reducible refine gate_callee (f := 109) rfl ?_); refine goesL_ (some 15) rfl rfl Try.func109 (by kernel_rfl) rfl #[.pointer (some ⟨g, 0, none⟩)] rfl (by simp only [zA_, zB_, zD_] <;> rfl) ?_; (with_reducible refine (spec_l1Cur_next.calls g s0_0 t198 t199 t200 t201 t202 w0 _ ?side1 ?side2 A6.out).mono ?_); (case side1 => exact IsS72.g HI0.out); (case side2 => exact zb_ HB.out); rintro e w9 ⟨rfl, hi, hb, hk⟩; refine ⟨_, rfl, ?_⟩; have n0_ := Aside0.mk (KeepBut.trans (zK_ HK.out) hk (.inl rfl)); have n1_ := Aside0.mk (hb); have n2_ := Aside0.mk (hi); clear HK; clear HB; clear HI0; have HK := n0_; have HB := n1_; have HI0 := n2_; clear n0_ n1_ n2_; (try clear hb); (try clear hb2); (try clear hk); (try clear hi)))
    go_ret
    exact ⟨by first | rfl | (simp [errW_none, errW_some] <;> rfl) | (simp [*, errW_none, errW_some] <;> rfl), IsS72.g HI0.out, zb_ HB.out, zK_ HK.out⟩
  ·rw [if_neg c5] at H
   have c5b0 : decide (200 < a1) = false := decide_eq_false c5
   clear c5
   by_cases c10 : a1 = 0
   ·rw [if_pos c10] at H
    exact absurd H (by simp)
   ·rw [if_neg c10] at H
    have c10b0 : (a1 == 0) = false := beq_eq_false_iff_ne.mpr c10
    have c10b1 : (a1 != 0) = true := bne_iff_ne.mpr c10
    simp only [Option.some.injEq, Prod.mk.injEq] at H
    obtain ⟨rfl, rfl, rfl⟩ := H
    go_enter Try.func69, Try.ntmps69
    go_wp2_with (first | ((with_reducible refine gate_callee (f := 109) rfl ?_); refine goesL_ (some 9) rfl rfl Try.func109 (by kernel_rfl) rfl #[.pointer (some ⟨g, 0, none⟩)] rfl (by simp only [zA_, zB_, zD_] <;> rfl) ?_; (with_reducible refine (spec_l1Cur_next.calls g s0_0 s0_1 s0_2 t197 t198 t199 w0 _ ?side1 ?side2 A4.out).mono ?_); (case side1 => exact IsS72.g HI0.out); (case side2 => exact zb_ HB.out); rintro e w11 ⟨rfl, hi, hb, hk⟩; refine ⟨_, rfl, ?_⟩; have n0_ := Aside0.mk (KeepBut.trans (zK_ HK.out) hk (.inl rfl)); have n1_ := Aside0.mk (hb); have n2_ := Aside0.mk (hi); clear HK; clear HB; clear HI0; have HK := n0_; have HB := n1_; have HI0 := n2_; clear n0_ n1_ n2_; (try clear hb); (try clear hb2); (try clear hk); (try clear hi)))
    go_ret
    exact ⟨by first | rfl | (simp [errW_none, errW_some] <;> rfl) | (simp [*, errW_none, errW_some] <;> rfl), IsS72.g HI0.out, zb_ HB.out, zK_ HK.out⟩
end Go.Proofs.Ytpkbjgmeejlchaa.PFnTrimmed
-- squeezed
