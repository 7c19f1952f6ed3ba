-- Made by a program of this session (wip/tools), which leans on the kit's print: checked by Lean alone.
import Derived.Test.YtpkbjgmeejlchaaPFnSignsx0
import Derived.Test.YtpkbjgmeejlchaaPFnSignsx1
namespace Go.Proofs.Ytpkbjgmeejlchaa.PFnSigns
open Go.RowKit Go.Proofs.YtpkbjgmeejlchaaW.PrintWords Go.Proofs.YtpkbjgmeejlchaaW.PrintLast Go.Proofs.YtpkbjgmeejlchaaW.PrintMore
attribute [local go_sem] max2_int min2_int max_two min_two max_three min_three max_four min_four   -- for this text's walks alone
set_option linter.unusedVariables false
set_option linter.unusedSimpArgs false

/-! ### impl_NegateWord: function 12 -/
def impl_NegateWord.f (a0 : Int) : Option (Int × Bool) := (impl_isWord.f a0).bind fun t167 => (if t167 = true then ((impl_WordOf.f (wrap64 (-a0))).bind fun t168 => (some (t168, true))) else (some (0, false)))
set_option maxHeartbeats 8000000 in
set_option maxRecDepth 100000 in
theorem impl_NegateWord.calls (a0 : Int) (r1 : Int) (r2 : Bool) (w : World) (h : impl_NegateWord.f a0 = some (r1, r2)) :
    Calls Try.prog 12 #[.int .i64 a0] w fun e w' => e = .returned (.tuple #[.int .i64 r1, .bool r2]) ∧ Drawn0 w w' := by
  have H : ((impl_isWord.f a0).bind fun t167 => (if t167 = true then ((impl_WordOf.f (wrap64 (-a0))).bind fun t168 => (some (t168, true))) else (some (0, false)))) = some (r1, r2) := h
  clear h
  replace H := Option.bind_eq_some_iff.mp H
  obtain ⟨t167, A20, H⟩ := H
  replace H : (if t167 = true then ((impl_WordOf.f (wrap64 (-a0))).bind fun t168 => (some (t168, true))) else (some (0, false))) = some (r1, r2) := H
  have A2 := Aside0.mk A20
  clear A20
  by_cases c3 : t167 = true
  · subst c3
    have H1 : ((impl_WordOf.f (wrap64 (-a0))).bind fun t168 => (some (t168, true))) = some (r1, r2) := by rw [if_pos rfl] at H; exact H
    clear H
    have H := H1
    clear H1
    replace H := Option.bind_eq_some_iff.mp H
    obtain ⟨t168, A40, H⟩ := H
    replace H : (some (t168, true)) = some (r1, r2) := H
    have A4 := Aside0.mk A40
    clear A40
    simp only [Option.some.injEq, Prod.mk.injEq] at H
    obtain ⟨rfl, rfl⟩ := H
    go_enter Try.func12, Try.ntmps12
    go_wp2_with (first | ((with_reducible refine gate_callee (f := 63) rfl ?_); refine goesL_ (some 5) rfl rfl Try.func63 (by kernel_rfl) rfl #[.int .i64 a0] rfl (by (try simp only [List.map_toArray, List.map_cons, List.map_nil]); first | done | rfl | (simp only [List.length_drop, List.length_take]; rfl)) ?_; (with_reducible refine (impl_isWord.calls a0 true _ A2.out).mono ?_); rintro e w' ⟨rfl, ⟨nd, rfl⟩⟩; refine ⟨_, rfl, ?_⟩) | ((with_reducible refine gate_callee (f := 13) rfl ?_); refine goesL_ (some 9) rfl rfl Try.func13 (by kernel_rfl) rfl #[.int .i64 (wrap64 (-a0))] rfl (by (try simp only [List.map_toArray, List.map_cons, List.map_nil]); first | done | rfl | (simp only [List.length_drop, List.length_take]; rfl)) ?_; (with_reducible refine (impl_WordOf.calls (wrap64 (-a0)) t168 _ A4.out).mono ?_); rintro e w' ⟨rfl, ⟨nd, rfl⟩⟩; refine ⟨_, rfl, ?_⟩))
    go_ret2
    exact ⟨by first | rfl | (simp; done) | (simp [*]; done), by repeat (first | exact Drawn0.refl _ | apply Drawn0.step)⟩
  · replace c3 := Bool.eq_false_iff.mpr c3
    subst c3
    have H1 : (some (0, false)) = some (r1, r2) := by rw [if_neg (show ¬ (false = true) by decide)] at H; exact H
    clear H
    have H := H1
    clear H1
    simp only [Option.some.injEq, Prod.mk.injEq] at H
    obtain ⟨rfl, rfl⟩ := H
    go_enter Try.func12, Try.ntmps12
    go_wp2_with (first | ((with_reducible refine gate_callee (f := 63) rfl ?_); refine goesL_ (some 5) rfl rfl Try.func63 (by kernel_rfl) rfl #[.int .i64 a0] rfl (by (try simp only [List.map_toArray, List.map_cons, List.map_nil]); first | done | rfl | (simp only [List.length_drop, List.length_take]; rfl)) ?_; (with_reducible refine (impl_isWord.calls a0 false _ A2.out).mono ?_); rintro e w' ⟨rfl, ⟨nd, rfl⟩⟩; refine ⟨_, rfl, ?_⟩))
    go_ret2
    exact ⟨by first | rfl | (simp; done) | (simp [*]; done), by repeat (first | exact Drawn0.refl _ | apply Drawn0.step)⟩

/-! ### spec_DrawSignedOf: function 67 -/
def spec_DrawSignedOf.f (l0 : List Int) : Option (Int) := (spec_l1Cur_rawWord.f l0 0 0).bind fun bt170 => (some bt170.1)
set_option maxHeartbeats 8000000 in
set_option maxRecDepth 100000 in
theorem spec_DrawSignedOf.calls (A0 : Option Addr) (c0 : Nat) (l0 : List Int) (r : Int) (w : World) (hr0 : Kd.C (Kd.int .u8) w A0 l0.length l0) (hc0 : l0.length ≤ c0) (h : spec_DrawSignedOf.f l0 = some r) :
    Calls Try.prog 67 #[.slice A0 l0.length c0] w fun e w' => e = .returned (.int .i64 r) ∧ Below w.heap.size w w' := by
  have hu72 := Try.underlying72
  have HR0 := Aside0.mk hr0
  have HC0 := Aside0.mk hc0
  clear hr0 hc0
  have HB := Aside0.mk (Below.refl w.heap.size w)
  have H : ((spec_l1Cur_rawWord.f l0 0 0).bind fun bt170 => (some bt170.1)) = some r := h
  clear h
  replace H := Option.bind_eq_some_iff.mp H
  obtain ⟨⟨t170, t171, t172⟩, A20, H⟩ := H
  replace H : (some t170) = some r := H
  have A2 := Aside0.mk A20
  clear A20
  obtain rfl := Option.some.inj H
  go_enter Try.func67, Try.ntmps67
  go_wp2_with (first | ((with_reducible refine gate_dst (N := 6) rfl ?_); refine box_event ?hg (N := 6) ?hd (cs := #[.slice A0 l0.length c0, .int .i64 0, .int .u64 0]) (t := 72) ?hr ?_; (case hd => rfl); (case hg => rfl); (case hr => first | (go_simp; done) | (go_simp; rfl)); intro gb169 hg w3 hbox hb; have n0_ := Aside0.mk (below_step (by repeat (first | (with_reducible first | exact HB.out | apply below_alloc | apply pw_below_drewN | apply below_drew1) | exact HB.out)) hb); have n1_ := Aside0.mk ((show IsS72 w w3 gb169 l0 0 0 from ⟨_, _,  hbox, (by rw [hg]; exact (below_size (by repeat (first | (with_reducible first | exact HB.out | apply below_alloc | apply pw_below_drewN | apply below_drew1) | exact HB.out))) : w.heap.size ≤ gb169), HR0.out⟩)); clear HB; have HB := n0_; have HI169 := n1_; clear n0_ n1_; clear hb hbox hg) | ((with_reducible refine gate_callee (f := 62) rfl ?_); refine goesL_ (some 8) rfl rfl Try.func62 (by kernel_rfl) rfl #[.pointer (some ⟨gb169, 0, none⟩)] rfl (by (try simp only [List.map_toArray, List.map_cons, List.map_nil]); first | done | rfl | (simp only [List.length_drop, List.length_take]; rfl)) ?_; (with_reducible refine (spec_l1Cur_rawWord.calls gb169 l0 0 0 t170 t171 t172 w _ ?side1 ?side2 A2.out).mono ?_); (case side1 => repeat (first | (with_reducible first | exact HI169.out | apply IsS72.alloc | apply IsS72.drewN | apply IsS72.drew | apply IsS72.set_1 | apply IsS72.set_2) | exact HI169.out)); (case side2 => repeat (first | (with_reducible first | exact HB.out | apply below_alloc | apply pw_below_drewN | apply below_drew1 | refine below_set ?_ (IsS72.ge HI169.out)) | exact HB.out)); rintro e w4 ⟨rfl, hi, hb, hk⟩; refine ⟨_, rfl, ?_⟩; have n0_ := Aside0.mk (hb); have n1_ := Aside0.mk (hi); clear HB; clear HI169; have HB := n0_; have HI169 := n1_; clear n0_ n1_; (try clear hb); (try clear hb2); (try clear hk); (try clear hi)))
  go_ret
  exact ⟨by first | rfl | (simp [errW_none, errW_some] <;> rfl) | (simp [*, errW_none, errW_some] <;> rfl), by repeat (first | (with_reducible first | exact HB.out | apply below_alloc | apply pw_below_drewN | apply below_drew1 | refine below_set ?_ (IsS72.ge HI169.out)) | exact HB.out)⟩

/-! ### spec_DrawExtendByte: function 14 -/
def spec_DrawExtendByte.f (l0 : List Int) : Option (Int) := (spec_DrawSignedOf.f l0).bind fun t173 => (some t173)
set_option maxHeartbeats 8000000 in
set_option maxRecDepth 100000 in
theorem spec_DrawExtendByte.calls (A0 : Option Addr) (c0 : Nat) (l0 : List Int) (r : Int) (w : World) (hr0 : Kd.C (Kd.int .u8) w A0 l0.length l0) (hc0 : l0.length ≤ c0) (h : spec_DrawExtendByte.f l0 = some r) :
    Calls Try.prog 14 #[.slice A0 l0.length c0] w fun e w' => e = .returned (.int .i64 r) ∧ Below w.heap.size w w' := by
  have HR0 := Aside0.mk hr0
  have HC0 := Aside0.mk hc0
  clear hr0 hc0
  have HB := Aside0.mk (Below.refl w.heap.size w)
  have H : ((spec_DrawSignedOf.f l0).bind fun t173 => (some t173)) = some r := h
  clear h
  replace H := Option.bind_eq_some_iff.mp H
  obtain ⟨t173, A20, H⟩ := H
  replace H : (some t173) = some r := H
  have A2 := Aside0.mk A20
  clear A20
  obtain rfl := Option.some.inj H
  go_enter Try.func14, Try.ntmps14
  go_wp2_with (first | ((with_reducible refine gate_callee (f := 67) rfl ?_); refine goesL_ (some 4) rfl rfl Try.func67 (by kernel_rfl) rfl #[.slice A0 l0.length c0] rfl (by (try simp only [List.map_toArray, List.map_cons, List.map_nil]); first | done | rfl | (simp only [List.length_drop, List.length_take]; rfl)) ?_; (with_reducible refine (spec_DrawSignedOf.calls _ _ l0 t173 _ ?side1 ?side2 A2.out).mono ?_); (case side1 => repeat (first | exact HR0.out | (with_reducible refine Kd.C_alloc ?_ _) | (with_reducible refine Kd.C_drewN ?_ _) | (with_reducible refine Kd.C_drew ?_))); (case side2 => exact HC0.out); rintro e w3 ⟨rfl, hb⟩; refine ⟨_, rfl, ?_⟩; have n0_ := Aside0.mk (below_step (by repeat (first | (with_reducible first | exact HB.out | apply below_alloc | apply pw_below_drewN | apply below_drew1) | exact HB.out)) hb); clear HB; have HB := n0_; clear n0_; (try clear hb); (try clear hb2); (try clear hk); (try clear hi)))
  go_ret
  exact ⟨by first | rfl | (simp [errW_none, errW_some] <;> rfl) | (simp [*, errW_none, errW_some] <;> rfl), by repeat (first | (with_reducible first | exact HB.out | apply below_alloc | apply pw_below_drewN | apply below_drew1) | exact HB.out)⟩

/-! ### impl_ExtendByte: function 15 -/
def impl_ExtendByte.f (a0 : Int) : Option (Int × Bool) := (impl_isWord.f a0).bind fun t174 => (if t174 = true then (if (Int.tmod a0 256) ≥ 128 then (some (wrap64 ((Int.tmod a0 256) + 65280), true)) else (some (Int.tmod a0 256, true))) else (some (0, false)))
set_option maxHeartbeats 8000000 in
set_option maxRecDepth 100000 in
theorem impl_ExtendByte.calls (a0 : Int) (r1 : Int) (r2 : Bool) (w : World) (h : impl_ExtendByte.f a0 = some (r1, r2)) :
    Calls Try.prog 15 #[.int .i64 a0] w fun e w' => e = .returned (.tuple #[.int .i64 r1, .bool r2]) ∧ Drawn0 w w' := by
  have H : ((impl_isWord.f a0).bind fun t174 => (if t174 = true then (if (Int.tmod a0 256) ≥ 128 then (some (wrap64 ((Int.tmod a0 256) + 65280), true)) else (some (Int.tmod a0 256, true))) else (some (0, false)))) = some (r1, r2) := h
  clear h
  replace H := Option.bind_eq_some_iff.mp H
  obtain ⟨t174, A20, H⟩ := H
  replace H : (if t174 = true then (if (Int.tmod a0 256) ≥ 128 then (some (wrap64 ((Int.tmod a0 256) + 65280), true)) else (some (Int.tmod a0 256, true))) else (some (0, false))) = some (r1, r2) := H
  have A2 := Aside0.mk A20
  clear A20
  by_cases c3 : t174 = true
  · subst c3
    have H1 : (if (Int.tmod a0 256) ≥ 128 then (some (wrap64 ((Int.tmod a0 256) + 65280), true)) else (some (Int.tmod a0 256, true))) = some (r1, r2) := by rw [if_pos rfl] at H; exact H
    clear H
    have H := H1
    clear H1
    by_cases c4 : (Int.tmod a0 256) ≥ 128
    · rw [if_pos c4] at H
      have c4b0 : decide (128 ≤ (Int.tmod a0 256)) = true := decide_eq_true c4
      clear c4
      simp only [Option.some.injEq, Prod.mk.injEq] at H
      obtain ⟨rfl, rfl⟩ := H
      go_enter Try.func15, Try.ntmps15
      go_wp2_with (first | ((with_reducible refine gate_callee (f := 63) rfl ?_); refine goesL_ (some 6) rfl rfl Try.func63 (by kernel_rfl) rfl #[.int .i64 a0] rfl (by (try simp only [List.map_toArray, List.map_cons, List.map_nil]); first | done | rfl | (simp only [List.length_drop, List.length_take]; rfl)) ?_; (with_reducible refine (impl_isWord.calls a0 true _ A2.out).mono ?_); rintro e w' ⟨rfl, ⟨nd, rfl⟩⟩; refine ⟨_, rfl, ?_⟩))
      go_ret2
      exact ⟨by first | rfl | (simp; done) | (simp [*]; done), by repeat (first | exact Drawn0.refl _ | apply Drawn0.step)⟩
    · rw [if_neg c4] at H
      have c4b0 : decide (128 ≤ (Int.tmod a0 256)) = false := decide_eq_false c4
      clear c4
      simp only [Option.some.injEq, Prod.mk.injEq] at H
      obtain ⟨rfl, rfl⟩ := H
      go_enter Try.func15, Try.ntmps15
      go_wp2_with (first | ((with_reducible refine gate_callee (f := 63) rfl ?_); refine goesL_ (some 6) rfl rfl Try.func63 (by kernel_rfl) rfl #[.int .i64 a0] rfl (by (try simp only [List.map_toArray, List.map_cons, List.map_nil]); first | done | rfl | (simp only [List.length_drop, List.length_take]; rfl)) ?_; (with_reducible refine (impl_isWord.calls a0 true _ A2.out).mono ?_); rintro e w' ⟨rfl, ⟨nd, rfl⟩⟩; refine ⟨_, rfl, ?_⟩))
      go_ret2
      exact ⟨by first | rfl | (simp; done) | (simp [*]; done), by repeat (first | exact Drawn0.refl _ | apply Drawn0.step)⟩
  · replace c3 := Bool.eq_false_iff.mpr c3
    subst c3
    have H1 : (some (0, false)) = some (r1, r2) := by rw [if_neg (show ¬ (false = true) by decide)] at H; exact H
    clear H
    have H := H1
    clear H1
    simp only [Option.some.injEq, Prod.mk.injEq] at H
    obtain ⟨rfl, rfl⟩ := H
    go_enter Try.func15, Try.ntmps15
    go_wp2_with (first | ((with_reducible refine gate_callee (f := 63) rfl ?_); refine goesL_ (some 6) rfl rfl Try.func63 (by kernel_rfl) rfl #[.int .i64 a0] rfl (by (try simp only [List.map_toArray, List.map_cons, List.map_nil]); first | done | rfl | (simp only [List.length_drop, List.length_take]; rfl)) ?_; (with_reducible refine (impl_isWord.calls a0 false _ A2.out).mono ?_); rintro e w' ⟨rfl, ⟨nd, rfl⟩⟩; refine ⟨_, rfl, ?_⟩))
    go_ret2
    exact ⟨by first | rfl | (simp; done) | (simp [*]; done), by repeat (first | exact Drawn0.refl _ | apply Drawn0.step)⟩

/-! ### spec_ExtendByte: function 16 -/
def spec_ExtendByte.f (a0 : Int) : Option (Int × Bool) := (spec_l1Word.f a0).bind fun t175 => (if t175 = true then (if (Int.tmod a0 256) ≥ 128 then (some (wrap64 ((Int.tmod a0 256) + 65280), true)) else (some (Int.tmod a0 256, true))) else (some (0, false)))
set_option maxHeartbeats 8000000 in
set_option maxRecDepth 100000 in
theorem spec_ExtendByte.calls (a0 : Int) (r1 : Int) (r2 : Bool) (w : World) (h : spec_ExtendByte.f a0 = some (r1, r2)) :
    Calls Try.prog 16 #[.int .i64 a0] w fun e w' => e = .returned (.tuple #[.int .i64 r1, .bool r2]) ∧ Drawn0 w w' := by
  have H : ((spec_l1Word.f a0).bind fun t175 => (if t175 = true then (if (Int.tmod a0 256) ≥ 128 then (some (wrap64 ((Int.tmod a0 256) + 65280), true)) else (some (Int.tmod a0 256, true))) else (some (0, false)))) = some (r1, r2) := h
  clear h
  replace H := Option.bind_eq_some_iff.mp H
  obtain ⟨t175, A20, H⟩ := H
  replace H : (if t175 = true then (if (Int.tmod a0 256) ≥ 128 then (some (wrap64 ((Int.tmod a0 256) + 65280), true)) else (some (Int.tmod a0 256, true))) else (some (0, false))) = some (r1, r2) := H
  have A2 := Aside0.mk A20
  clear A20
  by_cases c3 : t175 = true
  · subst c3
    have H1 : (if (Int.tmod a0 256) ≥ 128 then (some (wrap64 ((Int.tmod a0 256) + 65280), true)) else (some (Int.tmod a0 256, true))) = some (r1, r2) := by rw [if_pos rfl] at H; exact H
    clear H
    have H := H1
    clear H1
    by_cases c4 : (Int.tmod a0 256) ≥ 128
    · rw [if_pos c4] at H
      have c4b0 : decide (128 ≤ (Int.tmod a0 256)) = true := decide_eq_true c4
      clear c4
      simp only [Option.some.injEq, Prod.mk.injEq] at H
      obtain ⟨rfl, rfl⟩ := H
      go_enter Try.func16, Try.ntmps16
      go_wp2_with (first | ((with_reducible refine gate_callee (f := 65) rfl ?_); refine goesL_ (some 6) rfl rfl Try.func65 (by kernel_rfl) rfl #[.int .i64 a0] rfl (by (try simp only [List.map_toArray, List.map_cons, List.map_nil]); first | done | rfl | (simp only [List.length_drop, List.length_take]; rfl)) ?_; (with_reducible refine (spec_l1Word.calls a0 true _ A2.out).mono ?_); rintro e w' ⟨rfl, ⟨nd, rfl⟩⟩; refine ⟨_, rfl, ?_⟩))
      go_ret2
      exact ⟨by first | rfl | (simp; done) | (simp [*]; done), by repeat (first | exact Drawn0.refl _ | apply Drawn0.step)⟩
    · rw [if_neg c4] at H
      have c4b0 : decide (128 ≤ (Int.tmod a0 256)) = false := decide_eq_false c4
      clear c4
      simp only [Option.some.injEq, Prod.mk.injEq] at H
      obtain ⟨rfl, rfl⟩ := H
      go_enter Try.func16, Try.ntmps16
      go_wp2_with (first | ((with_reducible refine gate_callee (f := 65) rfl ?_); refine goesL_ (some 6) rfl rfl Try.func65 (by kernel_rfl) rfl #[.int .i64 a0] rfl (by (try simp only [List.map_toArray, List.map_cons, List.map_nil]); first | done | rfl | (simp only [List.length_drop, List.length_take]; rfl)) ?_; (with_reducible refine (spec_l1Word.calls a0 true _ A2.out).mono ?_); rintro e w' ⟨rfl, ⟨nd, rfl⟩⟩; refine ⟨_, rfl, ?_⟩))
      go_ret2
      exact ⟨by first | rfl | (simp; done) | (simp [*]; done), by repeat (first | exact Drawn0.refl _ | apply Drawn0.step)⟩
  · replace c3 := Bool.eq_false_iff.mpr c3
    subst c3
    have H1 : (some (0, false)) = some (r1, r2) := by rw [if_neg (show ¬ (false = true) by decide)] at H; exact H
    clear H
    have H := H1
    clear H1
    simp only [Option.some.injEq, Prod.mk.injEq] at H
    obtain ⟨rfl, rfl⟩ := H
    go_enter Try.func16, Try.ntmps16
    go_wp2_with (first | ((with_reducible refine gate_callee (f := 65) rfl ?_); refine goesL_ (some 6) rfl rfl Try.func65 (by kernel_rfl) rfl #[.int .i64 a0] rfl (by (try simp only [List.map_toArray, List.map_cons, List.map_nil]); first | done | rfl | (simp only [List.length_drop, List.length_take]; rfl)) ?_; (with_reducible refine (spec_l1Word.calls a0 false _ A2.out).mono ?_); rintro e w' ⟨rfl, ⟨nd, rfl⟩⟩; refine ⟨_, rfl, ?_⟩))
    go_ret2
    exact ⟨by first | rfl | (simp; done) | (simp [*]; done), by repeat (first | exact Drawn0.refl _ | apply Drawn0.step)⟩

/-! ### spec_SignedOf: function 17 -/
def spec_SignedOf.f (a0 : Int) : Option (Int × Bool) := (spec_l1Word.f a0).bind fun t176 => (if t176 = true then ((spec_l1Signed.f a0).bind fun t177 => (some (t177, true))) else (some (0, false)))
set_option maxHeartbeats 8000000 in
set_option maxRecDepth 100000 in
theorem spec_SignedOf.calls (a0 : Int) (r1 : Int) (r2 : Bool) (w : World) (h : spec_SignedOf.f a0 = some (r1, r2)) :
    Calls Try.prog 17 #[.int .i64 a0] w fun e w' => e = .returned (.tuple #[.int .i64 r1, .bool r2]) ∧ Drawn0 w w' := by
  have H : ((spec_l1Word.f a0).bind fun t176 => (if t176 = true then ((spec_l1Signed.f a0).bind fun t177 => (some (t177, true))) else (some (0, false)))) = some (r1, r2) := h
  clear h
  replace H := Option.bind_eq_some_iff.mp H
  obtain ⟨t176, A20, H⟩ := H
  replace H : (if t176 = true then ((spec_l1Signed.f a0).bind fun t177 => (some (t177, true))) else (some (0, false))) = some (r1, r2) := H
  have A2 := Aside0.mk A20
  clear A20
  by_cases c3 : t176 = true
  · subst c3
    have H1 : ((spec_l1Signed.f a0).bind fun t177 => (some (t177, true))) = some (r1, r2) := by rw [if_pos rfl] at H; exact H
    clear H
    have H := H1
    clear H1
    replace H := Option.bind_eq_some_iff.mp H
    obtain ⟨t177, A40, H⟩ := H
    replace H : (some (t177, true)) = some (r1, r2) := H
    have A4 := Aside0.mk A40
    clear A40
    simp only [Option.some.injEq, Prod.mk.injEq] at H
    obtain ⟨rfl, rfl⟩ := H
    go_enter Try.func17, Try.ntmps17
    go_wp2_with (first | ((with_reducible refine gate_callee (f := 65) rfl ?_); refine goesL_ (some 5) rfl rfl Try.func65 (by kernel_rfl) rfl #[.int .i64 a0] rfl (by (try simp only [List.map_toArray, List.map_cons, List.map_nil]); first | done | rfl | (simp only [List.length_drop, List.length_take]; rfl)) ?_; (with_reducible refine (spec_l1Word.calls a0 true _ A2.out).mono ?_); rintro e w' ⟨rfl, ⟨nd, rfl⟩⟩; refine ⟨_, rfl, ?_⟩) | ((with_reducible refine gate_callee (f := 66) rfl ?_); refine goesL_ (some 8) rfl rfl Try.func66 (by kernel_rfl) rfl #[.int .i64 a0] rfl (by (try simp only [List.map_toArray, List.map_cons, List.map_nil]); first | done | rfl | (simp only [List.length_drop, List.length_take]; rfl)) ?_; (with_reducible refine (spec_l1Signed.calls a0 t177 _ A4.out).mono ?_); rintro e w' ⟨rfl, ⟨nd, rfl⟩⟩; refine ⟨_, rfl, ?_⟩))
    go_ret2
    exact ⟨by first | rfl | (simp; done) | (simp [*]; done), by repeat (first | exact Drawn0.refl _ | apply Drawn0.step)⟩
  · replace c3 := Bool.eq_false_iff.mpr c3
    subst c3
    have H1 : (some (0, false)) = some (r1, r2) := by rw [if_neg (show ¬ (false = true) by decide)] at H; exact H
    clear H
    have H := H1
    clear H1
    simp only [Option.some.injEq, Prod.mk.injEq] at H
    obtain ⟨rfl, rfl⟩ := H
    go_enter Try.func17, Try.ntmps17
    go_wp2_with (first | ((with_reducible refine gate_callee (f := 65) rfl ?_); refine goesL_ (some 5) rfl rfl Try.func65 (by kernel_rfl) rfl #[.int .i64 a0] rfl (by (try simp only [List.map_toArray, List.map_cons, List.map_nil]); first | done | rfl | (simp only [List.length_drop, List.length_take]; rfl)) ?_; (with_reducible refine (spec_l1Word.calls a0 false _ A2.out).mono ?_); rintro e w' ⟨rfl, ⟨nd, rfl⟩⟩; refine ⟨_, rfl, ?_⟩))
    go_ret2
    exact ⟨by first | rfl | (simp; done) | (simp [*]; done), by repeat (first | exact Drawn0.refl _ | apply Drawn0.step)⟩

/-! ### spec_l1Wrap: function 68 -/
def spec_l1Wrap.f (a0 : Int) : Option (Int) := some (Int.tmod (wrap64 ((Int.tmod a0 65536) + 65536)) 65536)
set_option maxHeartbeats 8000000 in
set_option maxRecDepth 100000 in
theorem spec_l1Wrap.calls (a0 : Int) (r : Int) (w : World) (h : spec_l1Wrap.f a0 = some r) :
    Calls Try.prog 68 #[.int .i64 a0] w fun e w' => e = .returned (.int .i64 r) ∧ Drawn0 w w' := by
  have H : (some (Int.tmod (wrap64 ((Int.tmod a0 65536) + 65536)) 65536)) = some r := h
  clear h
  obtain rfl := Option.some.inj H
  go_enter Try.func68, Try.ntmps68
  go_wp2
  go_ret
  exact ⟨by first | rfl | (simp; done) | (simp [*]; done), by repeat (first | exact Drawn0.refl _ | apply Drawn0.step)⟩

/-! ### spec_NegateWord: function 18 -/
def spec_NegateWord.f (a0 : Int) : Option (Int × Bool) := (spec_l1Word.f a0).bind fun t178 => (if t178 = true then ((spec_l1Wrap.f (wrap64 (-a0))).bind fun t179 => (some (t179, true))) else (some (0, false)))
set_option maxHeartbeats 8000000 in
set_option maxRecDepth 100000 in
theorem spec_NegateWord.calls (a0 : Int) (r1 : Int) (r2 : Bool) (w : World) (h : spec_NegateWord.f a0 = some (r1, r2)) :
    Calls Try.prog 18 #[.int .i64 a0] w fun e w' => e = .returned (.tuple #[.int .i64 r1, .bool r2]) ∧ Drawn0 w w' := by
  have H : ((spec_l1Word.f a0).bind fun t178 => (if t178 = true then ((spec_l1Wrap.f (wrap64 (-a0))).bind fun t179 => (some (t179, true))) else (some (0, false)))) = some (r1, r2) := h
  clear h
  replace H := Option.bind_eq_some_iff.mp H
  obtain ⟨t178, A20, H⟩ := H
  replace H : (if t178 = true then ((spec_l1Wrap.f (wrap64 (-a0))).bind fun t179 => (some (t179, true))) else (some (0, false))) = some (r1, r2) := H
  have A2 := Aside0.mk A20
  clear A20
  by_cases c3 : t178 = true
  · subst c3
    have H1 : ((spec_l1Wrap.f (wrap64 (-a0))).bind fun t179 => (some (t179, true))) = some (r1, r2) := by rw [if_pos rfl] at H; exact H
    clear H
    have H := H1
    clear H1
    replace H := Option.bind_eq_some_iff.mp H
    obtain ⟨t179, A40, H⟩ := H
    replace H : (some (t179, true)) = some (r1, r2) := H
    have A4 := Aside0.mk A40
    clear A40
    simp only [Option.some.injEq, Prod.mk.injEq] at H
    obtain ⟨rfl, rfl⟩ := H
    go_enter Try.func18, Try.ntmps18
    go_wp2_with (first | ((with_reducible refine gate_callee (f := 65) rfl ?_); refine goesL_ (some 5) rfl rfl Try.func65 (by kernel_rfl) rfl #[.int .i64 a0] rfl (by (try simp only [List.map_toArray, List.map_cons, List.map_nil]); first | done | rfl | (simp only [List.length_drop, List.length_take]; rfl)) ?_; (with_reducible refine (spec_l1Word.calls a0 true _ A2.out).mono ?_); rintro e w' ⟨rfl, ⟨nd, rfl⟩⟩; refine ⟨_, rfl, ?_⟩) | ((with_reducible refine gate_callee (f := 68) rfl ?_); refine goesL_ (some 9) rfl rfl Try.func68 (by kernel_rfl) rfl #[.int .i64 (wrap64 (-a0))] rfl (by (try simp only [List.map_toArray, List.map_cons, List.map_nil]); first | done | rfl | (simp only [List.length_drop, List.length_take]; rfl)) ?_; (with_reducible refine (spec_l1Wrap.calls (wrap64 (-a0)) t179 _ A4.out).mono ?_); rintro e w' ⟨rfl, ⟨nd, rfl⟩⟩; refine ⟨_, rfl, ?_⟩))
    go_ret2
    exact ⟨by first | rfl | (simp; done) | (simp [*]; done), by repeat (first | exact Drawn0.refl _ | apply Drawn0.step)⟩
  · replace c3 := Bool.eq_false_iff.mpr c3
    subst c3
    have H1 : (some (0, false)) = some (r1, r2) := by rw [if_neg (show ¬ (false = true) by decide)] at H; exact H
    clear H
    have H := H1
    clear H1
    simp only [Option.some.injEq, Prod.mk.injEq] at H
    obtain ⟨rfl, rfl⟩ := H
    go_enter Try.func18, Try.ntmps18
    go_wp2_with (first | ((with_reducible refine gate_callee (f := 65) rfl ?_); refine goesL_ (some 5) rfl rfl Try.func65 (by kernel_rfl) rfl #[.int .i64 a0] rfl (by (try simp only [List.map_toArray, List.map_cons, List.map_nil]); first | done | rfl | (simp only [List.length_drop, List.length_take]; rfl)) ?_; (with_reducible refine (spec_l1Word.calls a0 false _ A2.out).mono ?_); rintro e w' ⟨rfl, ⟨nd, rfl⟩⟩; refine ⟨_, rfl, ?_⟩))
    go_ret2
    exact ⟨by first | rfl | (simp; done) | (simp [*]; done), by repeat (first | exact Drawn0.refl _ | apply Drawn0.step)⟩

/-! ### laws_FnSigns: function 3 -/
def laws_FnSigns.f (k : Nat) (l0 : List Int) (l1 : List Int) : Option (Bool) := if (wrap64 ((l0.length : Int) + (l1.length : Int))) > 1048576 then (some true) else ((spec_DrawLessSigned.f l0).bind fun bt180 => ((impl_LessSigned.f k bt180.1 bt180.2).bind fun bt182 => ((spec_LessSigned.f k bt180.1 bt180.2).bind fun bt184 => (if (bt182.2 != bt184.2) = true then (none) else (if (bt182.1 != bt184.1) = true then (none) else (if bt182.2 = true then ((impl_SignedOf.f bt180.1).bind fun bt186 => ((impl_SignedOf.f bt180.2).bind fun bt188 => ((impl_NegateWord.f bt180.1).bind fun bt190 => ((impl_SignedOf.f bt190.1).bind fun bt192 => (if bt186.2 = true then (if bt188.2 = true then (if (bt182.1 != (decide (bt186.1 < bt188.1))) = true then (none) else ((impl_WordOf.f bt186.1).bind fun t194 => (if t194 = bt180.1 then (if bt190.2 = true then (if bt192.2 = true then (if bt192.1 = (wrap64 (-bt186.1)) then ((spec_DrawExtendByte.f l1).bind fun t195 => ((impl_ExtendByte.f t195).bind fun bt196 => ((spec_ExtendByte.f t195).bind fun bt198 => ((impl_SignedOf.f t195).bind fun bt200 => ((spec_SignedOf.f t195).bind fun bt202 => ((impl_NegateWord.f t195).bind fun bt204 => ((spec_NegateWord.f t195).bind fun bt206 => (if (bt196.2 != bt198.2) = true then (none) else (if bt196.1 = bt198.1 then (if (bt200.2 != bt202.2) = true then (none) else (if bt200.1 = bt202.1 then (if (bt204.2 != bt206.2) = true then (none) else (if bt204.1 = bt206.1 then (if bt196.2 = true then ((impl_SignedOf.f bt196.1).bind fun bt208 => (if bt208.2 = true then (if bt208.1 ≥ (-128) then (if bt208.1 ≤ 127 then (some ((Int.tmod bt196.1 256) == (Int.tmod t195 256))) else (none)) else (none)) else (none))) else (some true)) else (none))) else (none))) else (none)))))))))) else (if bt186.1 = (-32768) then ((spec_DrawExtendByte.f l1).bind fun t210 => ((impl_ExtendByte.f t210).bind fun bt211 => ((spec_ExtendByte.f t210).bind fun bt213 => ((impl_SignedOf.f t210).bind fun bt215 => ((spec_SignedOf.f t210).bind fun bt217 => ((impl_NegateWord.f t210).bind fun bt219 => ((spec_NegateWord.f t210).bind fun bt221 => (if (bt211.2 != bt213.2) = true then (none) else (if bt211.1 = bt213.1 then (if (bt215.2 != bt217.2) = true then (none) else (if bt215.1 = bt217.1 then (if (bt219.2 != bt221.2) = true then (none) else (if bt219.1 = bt221.1 then (if bt211.2 = true then ((impl_SignedOf.f bt211.1).bind fun bt223 => (if bt223.2 = true then (if bt223.1 ≥ (-128) then (if bt223.1 ≤ 127 then (some ((Int.tmod bt211.1 256) == (Int.tmod t210 256))) else (none)) else (none)) else (none))) else (some true)) else (none))) else (none))) else (none)))))))))) else (none))) else (none)) else (none)) else (none)))) else (none)) else (none)))))) else ((spec_DrawExtendByte.f l1).bind fun t225 => ((impl_ExtendByte.f t225).bind fun bt226 => ((spec_ExtendByte.f t225).bind fun bt228 => ((impl_SignedOf.f t225).bind fun bt230 => ((spec_SignedOf.f t225).bind fun bt232 => ((impl_NegateWord.f t225).bind fun bt234 => ((spec_NegateWord.f t225).bind fun bt236 => (if (bt226.2 != bt228.2) = true then (none) else (if bt226.1 = bt228.1 then (if (bt230.2 != bt232.2) = true then (none) else (if bt230.1 = bt232.1 then (if (bt234.2 != bt236.2) = true then (none) else (if bt234.1 = bt236.1 then (if bt226.2 = true then ((impl_SignedOf.f bt226.1).bind fun bt238 => (if bt238.2 = true then (if bt238.1 ≥ (-128) then (if bt238.1 ≤ 127 then (some ((Int.tmod bt226.1 256) == (Int.tmod t225 256))) else (none)) else (none)) else (none))) else (some true)) else (none))) else (none))) else (none))))))))))))))))
theorem laws_FnSigns.mono : ∀ a0 a1 k, LeO (laws_FnSigns.f k a0 a1) (laws_FnSigns.f (k + 1) a0 a1) := by
  intro a0 a1 k
  unfold laws_FnSigns.f
  repeat' first
      | (with_reducible exact impl_LessSigned.mono _ _ _)
      | (with_reducible exact spec_LessSigned.mono _ _ _)
      | (with_reducible exact LeO.refl _)
      | (with_reducible exact LeO.none _)
      | (with_reducible refine LeO.ite ?_ ?_)
      | (with_reducible refine LeO.bind ?_ (fun _ => ?_))
      | exact impl_LessSigned.mono _ _ _
      | exact spec_LessSigned.mono _ _ _
      | exact LeO.none _
      | refine LeO.ite ?_ ?_
      | refine LeO.bind ?_ (fun _ => ?_)
set_option maxHeartbeats 8000000 in
set_option maxRecDepth 100000 in
theorem laws_FnSigns.calls (k : Nat) (A0 : Option Addr) (c0 : Nat) (l0 : List Int) (A1 : Option Addr) (c1 : Nat) (l1 : List Int) (r : Bool) (w : World) (hr0 : Kd.C (Kd.int .u8) w A0 l0.length l0) (hc0 : l0.length ≤ c0) (hr1 : Kd.C (Kd.int .u8) w A1 l1.length l1) (hc1 : l1.length ≤ c1) (h : laws_FnSigns.f k l0 l1 = some r) :
    Calls Try.prog 3 #[.slice A0 l0.length c0, .slice A1 l1.length c1] w fun e w' => e = .returned (.bool r) ∧ Below w.heap.size w w' := by
  have HR0 := Aside0.mk hr0
  have HC0 := Aside0.mk hc0
  clear hr0 hc0
  have HR1 := Aside0.mk hr1
  have HC1 := Aside0.mk hc1
  clear hr1 hc1
  have HB := Aside0.mk (Below.refl w.heap.size w)
  have HTop := Aside0.mk (Nat.zero_le w.heap.size)
  have H : (if (wrap64 ((l0.length : Int) + (l1.length : Int))) > 1048576 then (some true) else ((spec_DrawLessSigned.f l0).bind fun bt180 => ((impl_LessSigned.f k bt180.1 bt180.2).bind fun bt182 => ((spec_LessSigned.f k bt180.1 bt180.2).bind fun bt184 => (if (bt182.2 != bt184.2) = true then (none) else (if (bt182.1 != bt184.1) = true then (none) else (if bt182.2 = true then ((impl_SignedOf.f bt180.1).bind fun bt186 => ((impl_SignedOf.f bt180.2).bind fun bt188 => ((impl_NegateWord.f bt180.1).bind fun bt190 => ((impl_SignedOf.f bt190.1).bind fun bt192 => (if bt186.2 = true then (if bt188.2 = true then (if (bt182.1 != (decide (bt186.1 < bt188.1))) = true then (none) else ((impl_WordOf.f bt186.1).bind fun t194 => (if t194 = bt180.1 then (if bt190.2 = true then (if bt192.2 = true then (if bt192.1 = (wrap64 (-bt186.1)) then ((spec_DrawExtendByte.f l1).bind fun t195 => ((impl_ExtendByte.f t195).bind fun bt196 => ((spec_ExtendByte.f t195).bind fun bt198 => ((impl_SignedOf.f t195).bind fun bt200 => ((spec_SignedOf.f t195).bind fun bt202 => ((impl_NegateWord.f t195).bind fun bt204 => ((spec_NegateWord.f t195).bind fun bt206 => (if (bt196.2 != bt198.2) = true then (none) else (if bt196.1 = bt198.1 then (if (bt200.2 != bt202.2) = true then (none) else (if bt200.1 = bt202.1 then (if (bt204.2 != bt206.2) = true then (none) else (if bt204.1 = bt206.1 then (if bt196.2 = true then ((impl_SignedOf.f bt196.1).bind fun bt208 => (if bt208.2 = true then (if bt208.1 ≥ (-128) then (if bt208.1 ≤ 127 then (some ((Int.tmod bt196.1 256) == (Int.tmod t195 256))) else (none)) else (none)) else (none))) else (some true)) else (none))) else (none))) else (none)))))))))) else (if bt186.1 = (-32768) then ((spec_DrawExtendByte.f l1).bind fun t210 => ((impl_ExtendByte.f t210).bind fun bt211 => ((spec_ExtendByte.f t210).bind fun bt213 => ((impl_SignedOf.f t210).bind fun bt215 => ((spec_SignedOf.f t210).bind fun bt217 => ((impl_NegateWord.f t210).bind fun bt219 => ((spec_NegateWord.f t210).bind fun bt221 => (if (bt211.2 != bt213.2) = true then (none) else (if bt211.1 = bt213.1 then (if (bt215.2 != bt217.2) = true then (none) else (if bt215.1 = bt217.1 then (if (bt219.2 != bt221.2) = true then (none) else (if bt219.1 = bt221.1 then (if bt211.2 = true then ((impl_SignedOf.f bt211.1).bind fun bt223 => (if bt223.2 = true then (if bt223.1 ≥ (-128) then (if bt223.1 ≤ 127 then (some ((Int.tmod bt211.1 256) == (Int.tmod t210 256))) else (none)) else (none)) else (none))) else (some true)) else (none))) else (none))) else (none)))))))))) else (none))) else (none)) else (none)) else (none)))) else (none)) else (none)))))) else ((spec_DrawExtendByte.f l1).bind fun t225 => ((impl_ExtendByte.f t225).bind fun bt226 => ((spec_ExtendByte.f t225).bind fun bt228 => ((impl_SignedOf.f t225).bind fun bt230 => ((spec_SignedOf.f t225).bind fun bt232 => ((impl_NegateWord.f t225).bind fun bt234 => ((spec_NegateWord.f t225).bind fun bt236 => (if (bt226.2 != bt228.2) = true then (none) else (if bt226.1 = bt228.1 then (if (bt230.2 != bt232.2) = true then (none) else (if bt230.1 = bt232.1 then (if (bt234.2 != bt236.2) = true then (none) else (if bt234.1 = bt236.1 then (if bt226.2 = true then ((impl_SignedOf.f bt226.1).bind fun bt238 => (if bt238.2 = true then (if bt238.1 ≥ (-128) then (if bt238.1 ≤ 127 then (some ((Int.tmod bt226.1 256) == (Int.tmod t225 256))) else (none)) else (none)) else (none))) else (some true)) else (none))) else (none))) else (none))))))))))))))))) = some r := h
  clear h
  by_cases c3 : (wrap64 ((l0.length : Int) + (l1.length : Int))) > 1048576
  · rw [if_pos c3] at H
    have c3b0 : decide (1048576 < (wrap64 ((l0.length : Int) + (l1.length : Int)))) = true := decide_eq_true c3
    clear c3
    obtain rfl := Option.some.inj H
    go_enter Try.func3, Try.ntmps3
    go_wp2
    go_ret
    exact ⟨by first | rfl | (simp [errW_none, errW_some] <;> rfl) | (simp [*, errW_none, errW_some] <;> rfl), by repeat (first | (with_reducible first | exact HB.out | apply below_alloc | apply pw_below_drewN | apply below_drew1) | exact HB.out)⟩
  · rw [if_neg c3] at H
    have c3b0 : decide (1048576 < (wrap64 ((l0.length : Int) + (l1.length : Int)))) = false := decide_eq_false c3
    clear c3
    replace H := Option.bind_eq_some_iff.mp H
    obtain ⟨⟨t180, t181⟩, A40, H⟩ := H
    replace H : ((impl_LessSigned.f k t180 t181).bind fun bt182 => ((spec_LessSigned.f k t180 t181).bind fun bt184 => (if (bt182.2 != bt184.2) = true then (none) else (if (bt182.1 != bt184.1) = true then (none) else (if bt182.2 = true then ((impl_SignedOf.f t180).bind fun bt186 => ((impl_SignedOf.f t181).bind fun bt188 => ((impl_NegateWord.f t180).bind fun bt190 => ((impl_SignedOf.f bt190.1).bind fun bt192 => (if bt186.2 = true then (if bt188.2 = true then (if (bt182.1 != (decide (bt186.1 < bt188.1))) = true then (none) else ((impl_WordOf.f bt186.1).bind fun t194 => (if t194 = t180 then (if bt190.2 = true then (if bt192.2 = true then (if bt192.1 = (wrap64 (-bt186.1)) then ((spec_DrawExtendByte.f l1).bind fun t195 => ((impl_ExtendByte.f t195).bind fun bt196 => ((spec_ExtendByte.f t195).bind fun bt198 => ((impl_SignedOf.f t195).bind fun bt200 => ((spec_SignedOf.f t195).bind fun bt202 => ((impl_NegateWord.f t195).bind fun bt204 => ((spec_NegateWord.f t195).bind fun bt206 => (if (bt196.2 != bt198.2) = true then (none) else (if bt196.1 = bt198.1 then (if (bt200.2 != bt202.2) = true then (none) else (if bt200.1 = bt202.1 then (if (bt204.2 != bt206.2) = true then (none) else (if bt204.1 = bt206.1 then (if bt196.2 = true then ((impl_SignedOf.f bt196.1).bind fun bt208 => (if bt208.2 = true then (if bt208.1 ≥ (-128) then (if bt208.1 ≤ 127 then (some ((Int.tmod bt196.1 256) == (Int.tmod t195 256))) else (none)) else (none)) else (none))) else (some true)) else (none))) else (none))) else (none)))))))))) else (if bt186.1 = (-32768) then ((spec_DrawExtendByte.f l1).bind fun t210 => ((impl_ExtendByte.f t210).bind fun bt211 => ((spec_ExtendByte.f t210).bind fun bt213 => ((impl_SignedOf.f t210).bind fun bt215 => ((spec_SignedOf.f t210).bind fun bt217 => ((impl_NegateWord.f t210).bind fun bt219 => ((spec_NegateWord.f t210).bind fun bt221 => (if (bt211.2 != bt213.2) = true then (none) else (if bt211.1 = bt213.1 then (if (bt215.2 != bt217.2) = true then (none) else (if bt215.1 = bt217.1 then (if (bt219.2 != bt221.2) = true then (none) else (if bt219.1 = bt221.1 then (if bt211.2 = true then ((impl_SignedOf.f bt211.1).bind fun bt223 => (if bt223.2 = true then (if bt223.1 ≥ (-128) then (if bt223.1 ≤ 127 then (some ((Int.tmod bt211.1 256) == (Int.tmod t210 256))) else (none)) else (none)) else (none))) else (some true)) else (none))) else (none))) else (none)))))))))) else (none))) else (none)) else (none)) else (none)))) else (none)) else (none)))))) else ((spec_DrawExtendByte.f l1).bind fun t225 => ((impl_ExtendByte.f t225).bind fun bt226 => ((spec_ExtendByte.f t225).bind fun bt228 => ((impl_SignedOf.f t225).bind fun bt230 => ((spec_SignedOf.f t225).bind fun bt232 => ((impl_NegateWord.f t225).bind fun bt234 => ((spec_NegateWord.f t225).bind fun bt236 => (if (bt226.2 != bt228.2) = true then (none) else (if bt226.1 = bt228.1 then (if (bt230.2 != bt232.2) = true then (none) else (if bt230.1 = bt232.1 then (if (bt234.2 != bt236.2) = true then (none) else (if bt234.1 = bt236.1 then (if bt226.2 = true then ((impl_SignedOf.f bt226.1).bind fun bt238 => (if bt238.2 = true then (if bt238.1 ≥ (-128) then (if bt238.1 ≤ 127 then (some ((Int.tmod bt226.1 256) == (Int.tmod t225 256))) else (none)) else (none)) else (none))) else (some true)) else (none))) else (none))) else (none))))))))))))))) = some r := H
    have A4 := Aside0.mk A40
    clear A40
    replace H := Option.bind_eq_some_iff.mp H
    obtain ⟨⟨t182, t183⟩, A50, H⟩ := H
    replace H : ((spec_LessSigned.f k t180 t181).bind fun bt184 => (if (t183 != bt184.2) = true then (none) else (if (t182 != bt184.1) = true then (none) else (if t183 = true then ((impl_SignedOf.f t180).bind fun bt186 => ((impl_SignedOf.f t181).bind fun bt188 => ((impl_NegateWord.f t180).bind fun bt190 => ((impl_SignedOf.f bt190.1).bind fun bt192 => (if bt186.2 = true then (if bt188.2 = true then (if (t182 != (decide (bt186.1 < bt188.1))) = true then (none) else ((impl_WordOf.f bt186.1).bind fun t194 => (if t194 = t180 then (if bt190.2 = true then (if bt192.2 = true then (if bt192.1 = (wrap64 (-bt186.1)) then ((spec_DrawExtendByte.f l1).bind fun t195 => ((impl_ExtendByte.f t195).bind fun bt196 => ((spec_ExtendByte.f t195).bind fun bt198 => ((impl_SignedOf.f t195).bind fun bt200 => ((spec_SignedOf.f t195).bind fun bt202 => ((impl_NegateWord.f t195).bind fun bt204 => ((spec_NegateWord.f t195).bind fun bt206 => (if (bt196.2 != bt198.2) = true then (none) else (if bt196.1 = bt198.1 then (if (bt200.2 != bt202.2) = true then (none) else (if bt200.1 = bt202.1 then (if (bt204.2 != bt206.2) = true then (none) else (if bt204.1 = bt206.1 then (if bt196.2 = true then ((impl_SignedOf.f bt196.1).bind fun bt208 => (if bt208.2 = true then (if bt208.1 ≥ (-128) then (if bt208.1 ≤ 127 then (some ((Int.tmod bt196.1 256) == (Int.tmod t195 256))) else (none)) else (none)) else (none))) else (some true)) else (none))) else (none))) else (none)))))))))) else (if bt186.1 = (-32768) then ((spec_DrawExtendByte.f l1).bind fun t210 => ((impl_ExtendByte.f t210).bind fun bt211 => ((spec_ExtendByte.f t210).bind fun bt213 => ((impl_SignedOf.f t210).bind fun bt215 => ((spec_SignedOf.f t210).bind fun bt217 => ((impl_NegateWord.f t210).bind fun bt219 => ((spec_NegateWord.f t210).bind fun bt221 => (if (bt211.2 != bt213.2) = true then (none) else (if bt211.1 = bt213.1 then (if (bt215.2 != bt217.2) = true then (none) else (if bt215.1 = bt217.1 then (if (bt219.2 != bt221.2) = true then (none) else (if bt219.1 = bt221.1 then (if bt211.2 = true then ((impl_SignedOf.f bt211.1).bind fun bt223 => (if bt223.2 = true then (if bt223.1 ≥ (-128) then (if bt223.1 ≤ 127 then (some ((Int.tmod bt211.1 256) == (Int.tmod t210 256))) else (none)) else (none)) else (none))) else (some true)) else (none))) else (none))) else (none)))))))))) else (none))) else (none)) else (none)) else (none)))) else (none)) else (none)))))) else ((spec_DrawExtendByte.f l1).bind fun t225 => ((impl_ExtendByte.f t225).bind fun bt226 => ((spec_ExtendByte.f t225).bind fun bt228 => ((impl_SignedOf.f t225).bind fun bt230 => ((spec_SignedOf.f t225).bind fun bt232 => ((impl_NegateWord.f t225).bind fun bt234 => ((spec_NegateWord.f t225).bind fun bt236 => (if (bt226.2 != bt228.2) = true then (none) else (if bt226.1 = bt228.1 then (if (bt230.2 != bt232.2) = true then (none) else (if bt230.1 = bt232.1 then (if (bt234.2 != bt236.2) = true then (none) else (if bt234.1 = bt236.1 then (if bt226.2 = true then ((impl_SignedOf.f bt226.1).bind fun bt238 => (if bt238.2 = true then (if bt238.1 ≥ (-128) then (if bt238.1 ≤ 127 then (some ((Int.tmod bt226.1 256) == (Int.tmod t225 256))) else (none)) else (none)) else (none))) else (some true)) else (none))) else (none))) else (none)))))))))))))) = some r := H
    have A5 := Aside0.mk A50
    clear A50
    replace H := Option.bind_eq_some_iff.mp H
    obtain ⟨⟨t184, t185⟩, A60, H⟩ := H
    replace H : (if (t183 != t185) = true then (none) else (if (t182 != t184) = true then (none) else (if t183 = true then ((impl_SignedOf.f t180).bind fun bt186 => ((impl_SignedOf.f t181).bind fun bt188 => ((impl_NegateWord.f t180).bind fun bt190 => ((impl_SignedOf.f bt190.1).bind fun bt192 => (if bt186.2 = true then (if bt188.2 = true then (if (t182 != (decide (bt186.1 < bt188.1))) = true then (none) else ((impl_WordOf.f bt186.1).bind fun t194 => (if t194 = t180 then (if bt190.2 = true then (if bt192.2 = true then (if bt192.1 = (wrap64 (-bt186.1)) then ((spec_DrawExtendByte.f l1).bind fun t195 => ((impl_ExtendByte.f t195).bind fun bt196 => ((spec_ExtendByte.f t195).bind fun bt198 => ((impl_SignedOf.f t195).bind fun bt200 => ((spec_SignedOf.f t195).bind fun bt202 => ((impl_NegateWord.f t195).bind fun bt204 => ((spec_NegateWord.f t195).bind fun bt206 => (if (bt196.2 != bt198.2) = true then (none) else (if bt196.1 = bt198.1 then (if (bt200.2 != bt202.2) = true then (none) else (if bt200.1 = bt202.1 then (if (bt204.2 != bt206.2) = true then (none) else (if bt204.1 = bt206.1 then (if bt196.2 = true then ((impl_SignedOf.f bt196.1).bind fun bt208 => (if bt208.2 = true then (if bt208.1 ≥ (-128) then (if bt208.1 ≤ 127 then (some ((Int.tmod bt196.1 256) == (Int.tmod t195 256))) else (none)) else (none)) else (none))) else (some true)) else (none))) else (none))) else (none)))))))))) else (if bt186.1 = (-32768) then ((spec_DrawExtendByte.f l1).bind fun t210 => ((impl_ExtendByte.f t210).bind fun bt211 => ((spec_ExtendByte.f t210).bind fun bt213 => ((impl_SignedOf.f t210).bind fun bt215 => ((spec_SignedOf.f t210).bind fun bt217 => ((impl_NegateWord.f t210).bind fun bt219 => ((spec_NegateWord.f t210).bind fun bt221 => (if (bt211.2 != bt213.2) = true then (none) else (if bt211.1 = bt213.1 then (if (bt215.2 != bt217.2) = true then (none) else (if bt215.1 = bt217.1 then (if (bt219.2 != bt221.2) = true then (none) else (if bt219.1 = bt221.1 then (if bt211.2 = true then ((impl_SignedOf.f bt211.1).bind fun bt223 => (if bt223.2 = true then (if bt223.1 ≥ (-128) then (if bt223.1 ≤ 127 then (some ((Int.tmod bt211.1 256) == (Int.tmod t210 256))) else (none)) else (none)) else (none))) else (some true)) else (none))) else (none))) else (none)))))))))) else (none))) else (none)) else (none)) else (none)))) else (none)) else (none)))))) else ((spec_DrawExtendByte.f l1).bind fun t225 => ((impl_ExtendByte.f t225).bind fun bt226 => ((spec_ExtendByte.f t225).bind fun bt228 => ((impl_SignedOf.f t225).bind fun bt230 => ((spec_SignedOf.f t225).bind fun bt232 => ((impl_NegateWord.f t225).bind fun bt234 => ((spec_NegateWord.f t225).bind fun bt236 => (if (bt226.2 != bt228.2) = true then (none) else (if bt226.1 = bt228.1 then (if (bt230.2 != bt232.2) = true then (none) else (if bt230.1 = bt232.1 then (if (bt234.2 != bt236.2) = true then (none) else (if bt234.1 = bt236.1 then (if bt226.2 = true then ((impl_SignedOf.f bt226.1).bind fun bt238 => (if bt238.2 = true then (if bt238.1 ≥ (-128) then (if bt238.1 ≤ 127 then (some ((Int.tmod bt226.1 256) == (Int.tmod t225 256))) else (none)) else (none)) else (none))) else (some true)) else (none))) else (none))) else (none))))))))))))) = some r := H
    have A6 := Aside0.mk A60
    clear A60
    by_cases c7 : (t183 != t185) = true
    · rw [if_pos c7] at H
      exact absurd H (by simp)
    · rw [if_neg c7] at H
      have c7b0 : (t183 != t185) = false := by simpa using c7
      (try (have c7b1 : decide (t183 = t185) = true := by simpa using c7))
      (try (have c7b2 : (t183 == t185) = true := by simpa using c7))
      clear c7
      by_cases c8 : (t182 != t184) = true
      · rw [if_pos c8] at H
        exact absurd H (by simp)
      · rw [if_neg c8] at H
        have c8b0 : (t182 != t184) = false := by simpa using c8
        (try (have c8b1 : decide (t182 = t184) = true := by simpa using c8))
        (try (have c8b2 : (t182 == t184) = true := by simpa using c8))
        clear c8
        by_cases c9 : t183 = true
        · subst c9
          have H1 : ((impl_SignedOf.f t180).bind fun bt186 => ((impl_SignedOf.f t181).bind fun bt188 => ((impl_NegateWord.f t180).bind fun bt190 => ((impl_SignedOf.f bt190.1).bind fun bt192 => (if bt186.2 = true then (if bt188.2 = true then (if (t182 != (decide (bt186.1 < bt188.1))) = true then (none) else ((impl_WordOf.f bt186.1).bind fun t194 => (if t194 = t180 then (if bt190.2 = true then (if bt192.2 = true then (if bt192.1 = (wrap64 (-bt186.1)) then ((spec_DrawExtendByte.f l1).bind fun t195 => ((impl_ExtendByte.f t195).bind fun bt196 => ((spec_ExtendByte.f t195).bind fun bt198 => ((impl_SignedOf.f t195).bind fun bt200 => ((spec_SignedOf.f t195).bind fun bt202 => ((impl_NegateWord.f t195).bind fun bt204 => ((spec_NegateWord.f t195).bind fun bt206 => (if (bt196.2 != bt198.2) = true then (none) else (if bt196.1 = bt198.1 then (if (bt200.2 != bt202.2) = true then (none) else (if bt200.1 = bt202.1 then (if (bt204.2 != bt206.2) = true then (none) else (if bt204.1 = bt206.1 then (if bt196.2 = true then ((impl_SignedOf.f bt196.1).bind fun bt208 => (if bt208.2 = true then (if bt208.1 ≥ (-128) then (if bt208.1 ≤ 127 then (some ((Int.tmod bt196.1 256) == (Int.tmod t195 256))) else (none)) else (none)) else (none))) else (some true)) else (none))) else (none))) else (none)))))))))) else (if bt186.1 = (-32768) then ((spec_DrawExtendByte.f l1).bind fun t210 => ((impl_ExtendByte.f t210).bind fun bt211 => ((spec_ExtendByte.f t210).bind fun bt213 => ((impl_SignedOf.f t210).bind fun bt215 => ((spec_SignedOf.f t210).bind fun bt217 => ((impl_NegateWord.f t210).bind fun bt219 => ((spec_NegateWord.f t210).bind fun bt221 => (if (bt211.2 != bt213.2) = true then (none) else (if bt211.1 = bt213.1 then (if (bt215.2 != bt217.2) = true then (none) else (if bt215.1 = bt217.1 then (if (bt219.2 != bt221.2) = true then (none) else (if bt219.1 = bt221.1 then (if bt211.2 = true then ((impl_SignedOf.f bt211.1).bind fun bt223 => (if bt223.2 = true then (if bt223.1 ≥ (-128) then (if bt223.1 ≤ 127 then (some ((Int.tmod bt211.1 256) == (Int.tmod t210 256))) else (none)) else (none)) else (none))) else (some true)) else (none))) else (none))) else (none)))))))))) else (none))) else (none)) else (none)) else (none)))) else (none)) else (none)))))) = some r := by rw [if_pos rfl] at H; exact H
          clear H
          have H := H1
          clear H1
          replace H := Option.bind_eq_some_iff.mp H
          obtain ⟨⟨t186, t187⟩, A100, H⟩ := H
          replace H : ((impl_SignedOf.f t181).bind fun bt188 => ((impl_NegateWord.f t180).bind fun bt190 => ((impl_SignedOf.f bt190.1).bind fun bt192 => (if t187 = true then (if bt188.2 = true then (if (t182 != (decide (t186 < bt188.1))) = true then (none) else ((impl_WordOf.f t186).bind fun t194 => (if t194 = t180 then (if bt190.2 = true then (if bt192.2 = true then (if bt192.1 = (wrap64 (-t186)) then ((spec_DrawExtendByte.f l1).bind fun t195 => ((impl_ExtendByte.f t195).bind fun bt196 => ((spec_ExtendByte.f t195).bind fun bt198 => ((impl_SignedOf.f t195).bind fun bt200 => ((spec_SignedOf.f t195).bind fun bt202 => ((impl_NegateWord.f t195).bind fun bt204 => ((spec_NegateWord.f t195).bind fun bt206 => (if (bt196.2 != bt198.2) = true then (none) else (if bt196.1 = bt198.1 then (if (bt200.2 != bt202.2) = true then (none) else (if bt200.1 = bt202.1 then (if (bt204.2 != bt206.2) = true then (none) else (if bt204.1 = bt206.1 then (if bt196.2 = true then ((impl_SignedOf.f bt196.1).bind fun bt208 => (if bt208.2 = true then (if bt208.1 ≥ (-128) then (if bt208.1 ≤ 127 then (some ((Int.tmod bt196.1 256) == (Int.tmod t195 256))) else (none)) else (none)) else (none))) else (some true)) else (none))) else (none))) else (none)))))))))) else (if t186 = (-32768) then ((spec_DrawExtendByte.f l1).bind fun t210 => ((impl_ExtendByte.f t210).bind fun bt211 => ((spec_ExtendByte.f t210).bind fun bt213 => ((impl_SignedOf.f t210).bind fun bt215 => ((spec_SignedOf.f t210).bind fun bt217 => ((impl_NegateWord.f t210).bind fun bt219 => ((spec_NegateWord.f t210).bind fun bt221 => (if (bt211.2 != bt213.2) = true then (none) else (if bt211.1 = bt213.1 then (if (bt215.2 != bt217.2) = true then (none) else (if bt215.1 = bt217.1 then (if (bt219.2 != bt221.2) = true then (none) else (if bt219.1 = bt221.1 then (if bt211.2 = true then ((impl_SignedOf.f bt211.1).bind fun bt223 => (if bt223.2 = true then (if bt223.1 ≥ (-128) then (if bt223.1 ≤ 127 then (some ((Int.tmod bt211.1 256) == (Int.tmod t210 256))) else (none)) else (none)) else (none))) else (some true)) else (none))) else (none))) else (none)))))))))) else (none))) else (none)) else (none)) else (none)))) else (none)) else (none))))) = some r := H
          have A10 := Aside0.mk A100
          clear A100
          replace H := Option.bind_eq_some_iff.mp H
          obtain ⟨⟨t188, t189⟩, A110, H⟩ := H
          replace H : ((impl_NegateWord.f t180).bind fun bt190 => ((impl_SignedOf.f bt190.1).bind fun bt192 => (if t187 = true then (if t189 = true then (if (t182 != (decide (t186 < t188))) = true then (none) else ((impl_WordOf.f t186).bind fun t194 => (if t194 = t180 then (if bt190.2 = true then (if bt192.2 = true then (if bt192.1 = (wrap64 (-t186)) then ((spec_DrawExtendByte.f l1).bind fun t195 => ((impl_ExtendByte.f t195).bind fun bt196 => ((spec_ExtendByte.f t195).bind fun bt198 => ((impl_SignedOf.f t195).bind fun bt200 => ((spec_SignedOf.f t195).bind fun bt202 => ((impl_NegateWord.f t195).bind fun bt204 => ((spec_NegateWord.f t195).bind fun bt206 => (if (bt196.2 != bt198.2) = true then (none) else (if bt196.1 = bt198.1 then (if (bt200.2 != bt202.2) = true then (none) else (if bt200.1 = bt202.1 then (if (bt204.2 != bt206.2) = true then (none) else (if bt204.1 = bt206.1 then (if bt196.2 = true then ((impl_SignedOf.f bt196.1).bind fun bt208 => (if bt208.2 = true then (if bt208.1 ≥ (-128) then (if bt208.1 ≤ 127 then (some ((Int.tmod bt196.1 256) == (Int.tmod t195 256))) else (none)) else (none)) else (none))) else (some true)) else (none))) else (none))) else (none)))))))))) else (if t186 = (-32768) then ((spec_DrawExtendByte.f l1).bind fun t210 => ((impl_ExtendByte.f t210).bind fun bt211 => ((spec_ExtendByte.f t210).bind fun bt213 => ((impl_SignedOf.f t210).bind fun bt215 => ((spec_SignedOf.f t210).bind fun bt217 => ((impl_NegateWord.f t210).bind fun bt219 => ((spec_NegateWord.f t210).bind fun bt221 => (if (bt211.2 != bt213.2) = true then (none) else (if bt211.1 = bt213.1 then (if (bt215.2 != bt217.2) = true then (none) else (if bt215.1 = bt217.1 then (if (bt219.2 != bt221.2) = true then (none) else (if bt219.1 = bt221.1 then (if bt211.2 = true then ((impl_SignedOf.f bt211.1).bind fun bt223 => (if bt223.2 = true then (if bt223.1 ≥ (-128) then (if bt223.1 ≤ 127 then (some ((Int.tmod bt211.1 256) == (Int.tmod t210 256))) else (none)) else (none)) else (none))) else (some true)) else (none))) else (none))) else (none)))))))))) else (none))) else (none)) else (none)) else (none)))) else (none)) else (none)))) = some r := H
          have A11 := Aside0.mk A110
          clear A110
          replace H := Option.bind_eq_some_iff.mp H
          obtain ⟨⟨t190, t191⟩, A120, H⟩ := H
          replace H : ((impl_SignedOf.f t190).bind fun bt192 => (if t187 = true then (if t189 = true then (if (t182 != (decide (t186 < t188))) = true then (none) else ((impl_WordOf.f t186).bind fun t194 => (if t194 = t180 then (if t191 = true then (if bt192.2 = true then (if bt192.1 = (wrap64 (-t186)) then ((spec_DrawExtendByte.f l1).bind fun t195 => ((impl_ExtendByte.f t195).bind fun bt196 => ((spec_ExtendByte.f t195).bind fun bt198 => ((impl_SignedOf.f t195).bind fun bt200 => ((spec_SignedOf.f t195).bind fun bt202 => ((impl_NegateWord.f t195).bind fun bt204 => ((spec_NegateWord.f t195).bind fun bt206 => (if (bt196.2 != bt198.2) = true then (none) else (if bt196.1 = bt198.1 then (if (bt200.2 != bt202.2) = true then (none) else (if bt200.1 = bt202.1 then (if (bt204.2 != bt206.2) = true then (none) else (if bt204.1 = bt206.1 then (if bt196.2 = true then ((impl_SignedOf.f bt196.1).bind fun bt208 => (if bt208.2 = true then (if bt208.1 ≥ (-128) then (if bt208.1 ≤ 127 then (some ((Int.tmod bt196.1 256) == (Int.tmod t195 256))) else (none)) else (none)) else (none))) else (some true)) else (none))) else (none))) else (none)))))))))) else (if t186 = (-32768) then ((spec_DrawExtendByte.f l1).bind fun t210 => ((impl_ExtendByte.f t210).bind fun bt211 => ((spec_ExtendByte.f t210).bind fun bt213 => ((impl_SignedOf.f t210).bind fun bt215 => ((spec_SignedOf.f t210).bind fun bt217 => ((impl_NegateWord.f t210).bind fun bt219 => ((spec_NegateWord.f t210).bind fun bt221 => (if (bt211.2 != bt213.2) = true then (none) else (if bt211.1 = bt213.1 then (if (bt215.2 != bt217.2) = true then (none) else (if bt215.1 = bt217.1 then (if (bt219.2 != bt221.2) = true then (none) else (if bt219.1 = bt221.1 then (if bt211.2 = true then ((impl_SignedOf.f bt211.1).bind fun bt223 => (if bt223.2 = true then (if bt223.1 ≥ (-128) then (if bt223.1 ≤ 127 then (some ((Int.tmod bt211.1 256) == (Int.tmod t210 256))) else (none)) else (none)) else (none))) else (some true)) else (none))) else (none))) else (none)))))))))) else (none))) else (none)) else (none)) else (none)))) else (none)) else (none))) = some r := H
          have A12 := Aside0.mk A120
          clear A120
          replace H := Option.bind_eq_some_iff.mp H
          obtain ⟨⟨t192, t193⟩, A130, H⟩ := H
          replace H : (if t187 = true then (if t189 = true then (if (t182 != (decide (t186 < t188))) = true then (none) else ((impl_WordOf.f t186).bind fun t194 => (if t194 = t180 then (if t191 = true then (if t193 = true then (if t192 = (wrap64 (-t186)) then ((spec_DrawExtendByte.f l1).bind fun t195 => ((impl_ExtendByte.f t195).bind fun bt196 => ((spec_ExtendByte.f t195).bind fun bt198 => ((impl_SignedOf.f t195).bind fun bt200 => ((spec_SignedOf.f t195).bind fun bt202 => ((impl_NegateWord.f t195).bind fun bt204 => ((spec_NegateWord.f t195).bind fun bt206 => (if (bt196.2 != bt198.2) = true then (none) else (if bt196.1 = bt198.1 then (if (bt200.2 != bt202.2) = true then (none) else (if bt200.1 = bt202.1 then (if (bt204.2 != bt206.2) = true then (none) else (if bt204.1 = bt206.1 then (if bt196.2 = true then ((impl_SignedOf.f bt196.1).bind fun bt208 => (if bt208.2 = true then (if bt208.1 ≥ (-128) then (if bt208.1 ≤ 127 then (some ((Int.tmod bt196.1 256) == (Int.tmod t195 256))) else (none)) else (none)) else (none))) else (some true)) else (none))) else (none))) else (none)))))))))) else (if t186 = (-32768) then ((spec_DrawExtendByte.f l1).bind fun t210 => ((impl_ExtendByte.f t210).bind fun bt211 => ((spec_ExtendByte.f t210).bind fun bt213 => ((impl_SignedOf.f t210).bind fun bt215 => ((spec_SignedOf.f t210).bind fun bt217 => ((impl_NegateWord.f t210).bind fun bt219 => ((spec_NegateWord.f t210).bind fun bt221 => (if (bt211.2 != bt213.2) = true then (none) else (if bt211.1 = bt213.1 then (if (bt215.2 != bt217.2) = true then (none) else (if bt215.1 = bt217.1 then (if (bt219.2 != bt221.2) = true then (none) else (if bt219.1 = bt221.1 then (if bt211.2 = true then ((impl_SignedOf.f bt211.1).bind fun bt223 => (if bt223.2 = true then (if bt223.1 ≥ (-128) then (if bt223.1 ≤ 127 then (some ((Int.tmod bt211.1 256) == (Int.tmod t210 256))) else (none)) else (none)) else (none))) else (some true)) else (none))) else (none))) else (none)))))))))) else (none))) else (none)) else (none)) else (none)))) else (none)) else (none)) = some r := H
          have A13 := Aside0.mk A130
          clear A130
          by_cases c14 : t187 = true
          · subst c14
            have H1 : (if t189 = true then (if (t182 != (decide (t186 < t188))) = true then (none) else ((impl_WordOf.f t186).bind fun t194 => (if t194 = t180 then (if t191 = true then (if t193 = true then (if t192 = (wrap64 (-t186)) then ((spec_DrawExtendByte.f l1).bind fun t195 => ((impl_ExtendByte.f t195).bind fun bt196 => ((spec_ExtendByte.f t195).bind fun bt198 => ((impl_SignedOf.f t195).bind fun bt200 => ((spec_SignedOf.f t195).bind fun bt202 => ((impl_NegateWord.f t195).bind fun bt204 => ((spec_NegateWord.f t195).bind fun bt206 => (if (bt196.2 != bt198.2) = true then (none) else (if bt196.1 = bt198.1 then (if (bt200.2 != bt202.2) = true then (none) else (if bt200.1 = bt202.1 then (if (bt204.2 != bt206.2) = true then (none) else (if bt204.1 = bt206.1 then (if bt196.2 = true then ((impl_SignedOf.f bt196.1).bind fun bt208 => (if bt208.2 = true then (if bt208.1 ≥ (-128) then (if bt208.1 ≤ 127 then (some ((Int.tmod bt196.1 256) == (Int.tmod t195 256))) else (none)) else (none)) else (none))) else (some true)) else (none))) else (none))) else (none)))))))))) else (if t186 = (-32768) then ((spec_DrawExtendByte.f l1).bind fun t210 => ((impl_ExtendByte.f t210).bind fun bt211 => ((spec_ExtendByte.f t210).bind fun bt213 => ((impl_SignedOf.f t210).bind fun bt215 => ((spec_SignedOf.f t210).bind fun bt217 => ((impl_NegateWord.f t210).bind fun bt219 => ((spec_NegateWord.f t210).bind fun bt221 => (if (bt211.2 != bt213.2) = true then (none) else (if bt211.1 = bt213.1 then (if (bt215.2 != bt217.2) = true then (none) else (if bt215.1 = bt217.1 then (if (bt219.2 != bt221.2) = true then (none) else (if bt219.1 = bt221.1 then (if bt211.2 = true then ((impl_SignedOf.f bt211.1).bind fun bt223 => (if bt223.2 = true then (if bt223.1 ≥ (-128) then (if bt223.1 ≤ 127 then (some ((Int.tmod bt211.1 256) == (Int.tmod t210 256))) else (none)) else (none)) else (none))) else (some true)) else (none))) else (none))) else (none)))))))))) else (none))) else (none)) else (none)) else (none)))) else (none)) = some r := by rw [if_pos rfl] at H; exact H
            clear H
            have H := H1
            clear H1
            by_cases c15 : t189 = true
            · subst c15
              have H1 : (if (t182 != (decide (t186 < t188))) = true then (none) else ((impl_WordOf.f t186).bind fun t194 => (if t194 = t180 then (if t191 = true then (if t193 = true then (if t192 = (wrap64 (-t186)) then ((spec_DrawExtendByte.f l1).bind fun t195 => ((impl_ExtendByte.f t195).bind fun bt196 => ((spec_ExtendByte.f t195).bind fun bt198 => ((impl_SignedOf.f t195).bind fun bt200 => ((spec_SignedOf.f t195).bind fun bt202 => ((impl_NegateWord.f t195).bind fun bt204 => ((spec_NegateWord.f t195).bind fun bt206 => (if (bt196.2 != bt198.2) = true then (none) else (if bt196.1 = bt198.1 then (if (bt200.2 != bt202.2) = true then (none) else (if bt200.1 = bt202.1 then (if (bt204.2 != bt206.2) = true then (none) else (if bt204.1 = bt206.1 then (if bt196.2 = true then ((impl_SignedOf.f bt196.1).bind fun bt208 => (if bt208.2 = true then (if bt208.1 ≥ (-128) then (if bt208.1 ≤ 127 then (some ((Int.tmod bt196.1 256) == (Int.tmod t195 256))) else (none)) else (none)) else (none))) else (some true)) else (none))) else (none))) else (none)))))))))) else (if t186 = (-32768) then ((spec_DrawExtendByte.f l1).bind fun t210 => ((impl_ExtendByte.f t210).bind fun bt211 => ((spec_ExtendByte.f t210).bind fun bt213 => ((impl_SignedOf.f t210).bind fun bt215 => ((spec_SignedOf.f t210).bind fun bt217 => ((impl_NegateWord.f t210).bind fun bt219 => ((spec_NegateWord.f t210).bind fun bt221 => (if (bt211.2 != bt213.2) = true then (none) else (if bt211.1 = bt213.1 then (if (bt215.2 != bt217.2) = true then (none) else (if bt215.1 = bt217.1 then (if (bt219.2 != bt221.2) = true then (none) else (if bt219.1 = bt221.1 then (if bt211.2 = true then ((impl_SignedOf.f bt211.1).bind fun bt223 => (if bt223.2 = true then (if bt223.1 ≥ (-128) then (if bt223.1 ≤ 127 then (some ((Int.tmod bt211.1 256) == (Int.tmod t210 256))) else (none)) else (none)) else (none))) else (some true)) else (none))) else (none))) else (none)))))))))) else (none))) else (none)) else (none)) else (none)))) = some r := by rw [if_pos rfl] at H; exact H
              clear H
              have H := H1
              clear H1
              by_cases c16 : (t182 != (decide (t186 < t188))) = true
              · rw [if_pos c16] at H
                exact absurd H (by simp)
              · rw [if_neg c16] at H
                have c16b0 : (t182 != (decide (t186 < t188))) = false := by simpa using c16
                (try (have c16b1 : decide (t182 = (decide (t186 < t188))) = true := by simpa using c16))
                (try (have c16b2 : (t182 == (decide (t186 < t188))) = true := by simpa using c16))
                clear c16
                replace H := Option.bind_eq_some_iff.mp H
                obtain ⟨t194, A170, H⟩ := H
                replace H : (if t194 = t180 then (if t191 = true then (if t193 = true then (if t192 = (wrap64 (-t186)) then ((spec_DrawExtendByte.f l1).bind fun t195 => ((impl_ExtendByte.f t195).bind fun bt196 => ((spec_ExtendByte.f t195).bind fun bt198 => ((impl_SignedOf.f t195).bind fun bt200 => ((spec_SignedOf.f t195).bind fun bt202 => ((impl_NegateWord.f t195).bind fun bt204 => ((spec_NegateWord.f t195).bind fun bt206 => (if (bt196.2 != bt198.2) = true then (none) else (if bt196.1 = bt198.1 then (if (bt200.2 != bt202.2) = true then (none) else (if bt200.1 = bt202.1 then (if (bt204.2 != bt206.2) = true then (none) else (if bt204.1 = bt206.1 then (if bt196.2 = true then ((impl_SignedOf.f bt196.1).bind fun bt208 => (if bt208.2 = true then (if bt208.1 ≥ (-128) then (if bt208.1 ≤ 127 then (some ((Int.tmod bt196.1 256) == (Int.tmod t195 256))) else (none)) else (none)) else (none))) else (some true)) else (none))) else (none))) else (none)))))))))) else (if t186 = (-32768) then ((spec_DrawExtendByte.f l1).bind fun t210 => ((impl_ExtendByte.f t210).bind fun bt211 => ((spec_ExtendByte.f t210).bind fun bt213 => ((impl_SignedOf.f t210).bind fun bt215 => ((spec_SignedOf.f t210).bind fun bt217 => ((impl_NegateWord.f t210).bind fun bt219 => ((spec_NegateWord.f t210).bind fun bt221 => (if (bt211.2 != bt213.2) = true then (none) else (if bt211.1 = bt213.1 then (if (bt215.2 != bt217.2) = true then (none) else (if bt215.1 = bt217.1 then (if (bt219.2 != bt221.2) = true then (none) else (if bt219.1 = bt221.1 then (if bt211.2 = true then ((impl_SignedOf.f bt211.1).bind fun bt223 => (if bt223.2 = true then (if bt223.1 ≥ (-128) then (if bt223.1 ≤ 127 then (some ((Int.tmod bt211.1 256) == (Int.tmod t210 256))) else (none)) else (none)) else (none))) else (some true)) else (none))) else (none))) else (none)))))))))) else (none))) else (none)) else (none)) else (none)) = some r := H
                have A17 := Aside0.mk A170
                clear A170
                by_cases c18 : t194 = t180
                · rw [if_pos c18] at H
                  have c18b0 : (t194 == t180) = true := beq_iff_eq.mpr c18
                  have c18b1 : (t194 != t180) = false := bne_eq_false_iff_eq.mpr c18
                  clear c18
                  by_cases c19 : t191 = true
                  · subst c19
                    have H1 : (if t193 = true then (if t192 = (wrap64 (-t186)) then ((spec_DrawExtendByte.f l1).bind fun t195 => ((impl_ExtendByte.f t195).bind fun bt196 => ((spec_ExtendByte.f t195).bind fun bt198 => ((impl_SignedOf.f t195).bind fun bt200 => ((spec_SignedOf.f t195).bind fun bt202 => ((impl_NegateWord.f t195).bind fun bt204 => ((spec_NegateWord.f t195).bind fun bt206 => (if (bt196.2 != bt198.2) = true then (none) else (if bt196.1 = bt198.1 then (if (bt200.2 != bt202.2) = true then (none) else (if bt200.1 = bt202.1 then (if (bt204.2 != bt206.2) = true then (none) else (if bt204.1 = bt206.1 then (if bt196.2 = true then ((impl_SignedOf.f bt196.1).bind fun bt208 => (if bt208.2 = true then (if bt208.1 ≥ (-128) then (if bt208.1 ≤ 127 then (some ((Int.tmod bt196.1 256) == (Int.tmod t195 256))) else (none)) else (none)) else (none))) else (some true)) else (none))) else (none))) else (none)))))))))) else (if t186 = (-32768) then ((spec_DrawExtendByte.f l1).bind fun t210 => ((impl_ExtendByte.f t210).bind fun bt211 => ((spec_ExtendByte.f t210).bind fun bt213 => ((impl_SignedOf.f t210).bind fun bt215 => ((spec_SignedOf.f t210).bind fun bt217 => ((impl_NegateWord.f t210).bind fun bt219 => ((spec_NegateWord.f t210).bind fun bt221 => (if (bt211.2 != bt213.2) = true then (none) else (if bt211.1 = bt213.1 then (if (bt215.2 != bt217.2) = true then (none) else (if bt215.1 = bt217.1 then (if (bt219.2 != bt221.2) = true then (none) else (if bt219.1 = bt221.1 then (if bt211.2 = true then ((impl_SignedOf.f bt211.1).bind fun bt223 => (if bt223.2 = true then (if bt223.1 ≥ (-128) then (if bt223.1 ≤ 127 then (some ((Int.tmod bt211.1 256) == (Int.tmod t210 256))) else (none)) else (none)) else (none))) else (some true)) else (none))) else (none))) else (none)))))))))) else (none))) else (none)) = some r := by rw [if_pos rfl] at H; exact H
                    clear H
                    have H := H1
                    clear H1
                    by_cases c20 : t193 = true
                    · subst c20
                      have H1 : (if t192 = (wrap64 (-t186)) then ((spec_DrawExtendByte.f l1).bind fun t195 => ((impl_ExtendByte.f t195).bind fun bt196 => ((spec_ExtendByte.f t195).bind fun bt198 => ((impl_SignedOf.f t195).bind fun bt200 => ((spec_SignedOf.f t195).bind fun bt202 => ((impl_NegateWord.f t195).bind fun bt204 => ((spec_NegateWord.f t195).bind fun bt206 => (if (bt196.2 != bt198.2) = true then (none) else (if bt196.1 = bt198.1 then (if (bt200.2 != bt202.2) = true then (none) else (if bt200.1 = bt202.1 then (if (bt204.2 != bt206.2) = true then (none) else (if bt204.1 = bt206.1 then (if bt196.2 = true then ((impl_SignedOf.f bt196.1).bind fun bt208 => (if bt208.2 = true then (if bt208.1 ≥ (-128) then (if bt208.1 ≤ 127 then (some ((Int.tmod bt196.1 256) == (Int.tmod t195 256))) else (none)) else (none)) else (none))) else (some true)) else (none))) else (none))) else (none)))))))))) else (if t186 = (-32768) then ((spec_DrawExtendByte.f l1).bind fun t210 => ((impl_ExtendByte.f t210).bind fun bt211 => ((spec_ExtendByte.f t210).bind fun bt213 => ((impl_SignedOf.f t210).bind fun bt215 => ((spec_SignedOf.f t210).bind fun bt217 => ((impl_NegateWord.f t210).bind fun bt219 => ((spec_NegateWord.f t210).bind fun bt221 => (if (bt211.2 != bt213.2) = true then (none) else (if bt211.1 = bt213.1 then (if (bt215.2 != bt217.2) = true then (none) else (if bt215.1 = bt217.1 then (if (bt219.2 != bt221.2) = true then (none) else (if bt219.1 = bt221.1 then (if bt211.2 = true then ((impl_SignedOf.f bt211.1).bind fun bt223 => (if bt223.2 = true then (if bt223.1 ≥ (-128) then (if bt223.1 ≤ 127 then (some ((Int.tmod bt211.1 256) == (Int.tmod t210 256))) else (none)) else (none)) else (none))) else (some true)) else (none))) else (none))) else (none)))))))))) else (none))) = some r := by rw [if_pos rfl] at H; exact H
                      clear H
                      have H := H1
                      clear H1
                      by_cases c21 : t192 = (wrap64 (-t186))
                      · rw [if_pos c21] at H
                        have c21b0 : (t192 == (wrap64 (-t186))) = true := beq_iff_eq.mpr c21
                        have c21b1 : (t192 != (wrap64 (-t186))) = false := bne_eq_false_iff_eq.mpr c21
                        clear c21
                        replace H := Option.bind_eq_some_iff.mp H
                        obtain ⟨t195, A220, H⟩ := H
                        replace H : ((impl_ExtendByte.f t195).bind fun bt196 => ((spec_ExtendByte.f t195).bind fun bt198 => ((impl_SignedOf.f t195).bind fun bt200 => ((spec_SignedOf.f t195).bind fun bt202 => ((impl_NegateWord.f t195).bind fun bt204 => ((spec_NegateWord.f t195).bind fun bt206 => (if (bt196.2 != bt198.2) = true then (none) else (if bt196.1 = bt198.1 then (if (bt200.2 != bt202.2) = true then (none) else (if bt200.1 = bt202.1 then (if (bt204.2 != bt206.2) = true then (none) else (if bt204.1 = bt206.1 then (if bt196.2 = true then ((impl_SignedOf.f bt196.1).bind fun bt208 => (if bt208.2 = true then (if bt208.1 ≥ (-128) then (if bt208.1 ≤ 127 then (some ((Int.tmod bt196.1 256) == (Int.tmod t195 256))) else (none)) else (none)) else (none))) else (some true)) else (none))) else (none))) else (none))))))))) = some r := H
                        have A22 := Aside0.mk A220
                        clear A220
                        replace H := Option.bind_eq_some_iff.mp H
                        obtain ⟨⟨t196, t197⟩, A230, H⟩ := H
                        replace H : ((spec_ExtendByte.f t195).bind fun bt198 => ((impl_SignedOf.f t195).bind fun bt200 => ((spec_SignedOf.f t195).bind fun bt202 => ((impl_NegateWord.f t195).bind fun bt204 => ((spec_NegateWord.f t195).bind fun bt206 => (if (t197 != bt198.2) = true then (none) else (if t196 = bt198.1 then (if (bt200.2 != bt202.2) = true then (none) else (if bt200.1 = bt202.1 then (if (bt204.2 != bt206.2) = true then (none) else (if bt204.1 = bt206.1 then (if t197 = true then ((impl_SignedOf.f t196).bind fun bt208 => (if bt208.2 = true then (if bt208.1 ≥ (-128) then (if bt208.1 ≤ 127 then (some ((Int.tmod t196 256) == (Int.tmod t195 256))) else (none)) else (none)) else (none))) else (some true)) else (none))) else (none))) else (none)))))))) = some r := H
                        have A23 := Aside0.mk A230
                        clear A230
                        replace H := Option.bind_eq_some_iff.mp H
                        obtain ⟨⟨t198, t199⟩, A240, H⟩ := H
                        replace H : ((impl_SignedOf.f t195).bind fun bt200 => ((spec_SignedOf.f t195).bind fun bt202 => ((impl_NegateWord.f t195).bind fun bt204 => ((spec_NegateWord.f t195).bind fun bt206 => (if (t197 != t199) = true then (none) else (if t196 = t198 then (if (bt200.2 != bt202.2) = true then (none) else (if bt200.1 = bt202.1 then (if (bt204.2 != bt206.2) = true then (none) else (if bt204.1 = bt206.1 then (if t197 = true then ((impl_SignedOf.f t196).bind fun bt208 => (if bt208.2 = true then (if bt208.1 ≥ (-128) then (if bt208.1 ≤ 127 then (some ((Int.tmod t196 256) == (Int.tmod t195 256))) else (none)) else (none)) else (none))) else (some true)) else (none))) else (none))) else (none))))))) = some r := H
                        have A24 := Aside0.mk A240
                        clear A240
                        replace H := Option.bind_eq_some_iff.mp H
                        obtain ⟨⟨t200, t201⟩, A250, H⟩ := H
                        replace H : ((spec_SignedOf.f t195).bind fun bt202 => ((impl_NegateWord.f t195).bind fun bt204 => ((spec_NegateWord.f t195).bind fun bt206 => (if (t197 != t199) = true then (none) else (if t196 = t198 then (if (t201 != bt202.2) = true then (none) else (if t200 = bt202.1 then (if (bt204.2 != bt206.2) = true then (none) else (if bt204.1 = bt206.1 then (if t197 = true then ((impl_SignedOf.f t196).bind fun bt208 => (if bt208.2 = true then (if bt208.1 ≥ (-128) then (if bt208.1 ≤ 127 then (some ((Int.tmod t196 256) == (Int.tmod t195 256))) else (none)) else (none)) else (none))) else (some true)) else (none))) else (none))) else (none)))))) = some r := H
                        have A25 := Aside0.mk A250
                        clear A250
                        replace H := Option.bind_eq_some_iff.mp H
                        obtain ⟨⟨t202, t203⟩, A260, H⟩ := H
                        replace H : ((impl_NegateWord.f t195).bind fun bt204 => ((spec_NegateWord.f t195).bind fun bt206 => (if (t197 != t199) = true then (none) else (if t196 = t198 then (if (t201 != t203) = true then (none) else (if t200 = t202 then (if (bt204.2 != bt206.2) = true then (none) else (if bt204.1 = bt206.1 then (if t197 = true then ((impl_SignedOf.f t196).bind fun bt208 => (if bt208.2 = true then (if bt208.1 ≥ (-128) then (if bt208.1 ≤ 127 then (some ((Int.tmod t196 256) == (Int.tmod t195 256))) else (none)) else (none)) else (none))) else (some true)) else (none))) else (none))) else (none))))) = some r := H
                        have A26 := Aside0.mk A260
                        clear A260
                        replace H := Option.bind_eq_some_iff.mp H
                        obtain ⟨⟨t204, t205⟩, A270, H⟩ := H
                        replace H : ((spec_NegateWord.f t195).bind fun bt206 => (if (t197 != t199) = true then (none) else (if t196 = t198 then (if (t201 != t203) = true then (none) else (if t200 = t202 then (if (t205 != bt206.2) = true then (none) else (if t204 = bt206.1 then (if t197 = true then ((impl_SignedOf.f t196).bind fun bt208 => (if bt208.2 = true then (if bt208.1 ≥ (-128) then (if bt208.1 ≤ 127 then (some ((Int.tmod t196 256) == (Int.tmod t195 256))) else (none)) else (none)) else (none))) else (some true)) else (none))) else (none))) else (none)))) = some r := H
                        have A27 := Aside0.mk A270
                        clear A270
                        replace H := Option.bind_eq_some_iff.mp H
                        obtain ⟨⟨t206, t207⟩, A280, H⟩ := H
                        replace H : (if (t197 != t199) = true then (none) else (if t196 = t198 then (if (t201 != t203) = true then (none) else (if t200 = t202 then (if (t205 != t207) = true then (none) else (if t204 = t206 then (if t197 = true then ((impl_SignedOf.f t196).bind fun bt208 => (if bt208.2 = true then (if bt208.1 ≥ (-128) then (if bt208.1 ≤ 127 then (some ((Int.tmod t196 256) == (Int.tmod t195 256))) else (none)) else (none)) else (none))) else (some true)) else (none))) else (none))) else (none))) = some r := H
                        have A28 := Aside0.mk A280
                        clear A280
                        by_cases c29 : (t197 != t199) = true
                        · rw [if_pos c29] at H
                          exact absurd H (by simp)
                        · rw [if_neg c29] at H
                          have c29b0 : (t197 != t199) = false := by simpa using c29
                          (try (have c29b1 : decide (t197 = t199) = true := by simpa using c29))
                          (try (have c29b2 : (t197 == t199) = true := by simpa using c29))
                          clear c29
                          by_cases c30 : t196 = t198
                          · rw [if_pos c30] at H
                            have c30b0 : (t196 == t198) = true := beq_iff_eq.mpr c30
                            have c30b1 : (t196 != t198) = false := bne_eq_false_iff_eq.mpr c30
                            clear c30
                            by_cases c31 : (t201 != t203) = true
                            · rw [if_pos c31] at H
                              exact absurd H (by simp)
                            · rw [if_neg c31] at H
                              have c31b0 : (t201 != t203) = false := by simpa using c31
                              (try (have c31b1 : decide (t201 = t203) = true := by simpa using c31))
                              (try (have c31b2 : (t201 == t203) = true := by simpa using c31))
                              clear c31
                              by_cases c32 : t200 = t202
                              · rw [if_pos c32] at H
                                have c32b0 : (t200 == t202) = true := beq_iff_eq.mpr c32
                                have c32b1 : (t200 != t202) = false := bne_eq_false_iff_eq.mpr c32
                                clear c32
                                by_cases c33 : (t205 != t207) = true
                                · rw [if_pos c33] at H
                                  exact absurd H (by simp)
                                · rw [if_neg c33] at H
                                  have c33b0 : (t205 != t207) = false := by simpa using c33
                                  (try (have c33b1 : decide (t205 = t207) = true := by simpa using c33))
                                  (try (have c33b2 : (t205 == t207) = true := by simpa using c33))
                                  clear c33
                                  by_cases c34 : t204 = t206
                                  · rw [if_pos c34] at H
                                    have c34b0 : (t204 == t206) = true := beq_iff_eq.mpr c34
                                    have c34b1 : (t204 != t206) = false := bne_eq_false_iff_eq.mpr c34
                                    clear c34
                                    by_cases c35 : t197 = true
                                    · subst c35
                                      have H1 : ((impl_SignedOf.f t196).bind fun bt208 => (if bt208.2 = true then (if bt208.1 ≥ (-128) then (if bt208.1 ≤ 127 then (some ((Int.tmod t196 256) == (Int.tmod t195 256))) else (none)) else (none)) else (none))) = some r := by rw [if_pos rfl] at H; exact H
                                      clear H
                                      have H := H1
                                      clear H1
                                      replace H := Option.bind_eq_some_iff.mp H
                                      obtain ⟨⟨t208, t209⟩, A360, H⟩ := H
                                      replace H : (if t209 = true then (if t208 ≥ (-128) then (if t208 ≤ 127 then (some ((Int.tmod t196 256) == (Int.tmod t195 256))) else (none)) else (none)) else (none)) = some r := H
                                      have A36 := Aside0.mk A360
                                      clear A360
                                      by_cases c37 : t209 = true
                                      · subst c37
                                        have H1 : (if t208 ≥ (-128) then (if t208 ≤ 127 then (some ((Int.tmod t196 256) == (Int.tmod t195 256))) else (none)) else (none)) = some r := by rw [if_pos rfl] at H; exact H
                                        clear H
                                        have H := H1
                                        clear H1
                                        by_cases c38 : t208 ≥ (-128)
                                        · rw [if_pos c38] at H
                                          have c38b0 : decide ((-128) ≤ t208) = true := decide_eq_true c38
                                          clear c38
                                          by_cases c39 : t208 ≤ 127
                                          · rw [if_pos c39] at H
                                            have c39b0 : decide (t208 ≤ 127) = true := decide_eq_true c39
                                            clear c39
                                            obtain rfl := Option.some.inj H
                                            go_enter Try.func3, Try.ntmps3
                                            go_wp2_with (first | ((with_reducible refine gate_callee (f := 8) rfl ?_); refine goesL_ (some 42) rfl rfl Try.func8 (by kernel_rfl) rfl #[.slice A0 l0.length c0] rfl (by (try simp only [List.map_toArray, List.map_cons, List.map_nil]); first | done | rfl | (simp only [List.length_drop, List.length_take]; rfl)) ?_; (with_reducible refine (spec_DrawLessSigned.calls _ _ l0 t180 t181 _ ?side1 ?side2 A4.out).mono ?_); (case side1 => repeat (first | exact HR0.out | (with_reducible refine Kd.C_alloc ?_ _) | (with_reducible refine Kd.C_drewN ?_ _) | (with_reducible refine Kd.C_drew ?_))); (case side2 => exact HC0.out); rintro e w40 ⟨rfl, hb⟩; refine ⟨_, rfl, ?_⟩; obtain ⟨lo1, hi1, EL1, EH1, LE1⟩ := iv_ hb; have OR1 := Aside0.mk (show 0 ≤ lo1 ∧ lo1 ≤ hi1 from ⟨Nat.le_trans HTop.out (Nat.le_of_eq EL1), LE1⟩); have n0_ := Aside0.mk (Nat.le_of_eq EH1.symm); have n1_ := Aside0.mk (below_step (by repeat (first | (with_reducible first | exact HB.out | apply below_alloc | apply pw_below_drewN | apply below_drew1) | exact HB.out)) hb); clear HTop; clear HB; have HTop := n0_; have HB := n1_; clear n0_ n1_; (try clear hb); (try clear hb2); (try clear hk); (try clear hi); (try clear EL1); (try clear EH1); (try clear LE1)) | ((with_reducible refine gate_callee (f := 9) rfl ?_); refine goesL_ (some 48) rfl rfl Try.func9 (by kernel_rfl) rfl #[.int .i64 t180, .int .i64 t181] rfl (by (try simp only [List.map_toArray, List.map_cons, List.map_nil]); first | done | rfl | (simp only [List.length_drop, List.length_take]; rfl)) ?_; (with_reducible refine (impl_LessSigned.calls k t180 t181 t182 true _ A5.out).mono ?_); rintro e w' ⟨rfl, ⟨nd, rfl⟩⟩; refine ⟨_, rfl, ?_⟩) | ((with_reducible refine gate_callee (f := 10) rfl ?_); refine goesL_ (some 54) rfl rfl Try.func10 (by kernel_rfl) rfl #[.int .i64 t180, .int .i64 t181] rfl (by (try simp only [List.map_toArray, List.map_cons, List.map_nil]); first | done | rfl | (simp only [List.length_drop, List.length_take]; rfl)) ?_; (with_reducible refine (spec_LessSigned.calls k t180 t181 t184 t185 _ A6.out).mono ?_); rintro e w' ⟨rfl, ⟨nd, rfl⟩⟩; refine ⟨_, rfl, ?_⟩) | ((with_reducible refine gate_callee (f := 11) rfl ?_); refine goesL_ (some 68) rfl rfl Try.func11 (by kernel_rfl) rfl #[.int .i64 t180] rfl (by (try simp only [List.map_toArray, List.map_cons, List.map_nil]); first | done | rfl | (simp only [List.length_drop, List.length_take]; rfl)) ?_; (with_reducible refine (impl_SignedOf.calls t180 t186 true _ A10.out).mono ?_); rintro e w' ⟨rfl, ⟨nd, rfl⟩⟩; refine ⟨_, rfl, ?_⟩) | ((with_reducible refine gate_callee (f := 11) rfl ?_); refine goesL_ (some 73) rfl rfl Try.func11 (by kernel_rfl) rfl #[.int .i64 t181] rfl (by (try simp only [List.map_toArray, List.map_cons, List.map_nil]); first | done | rfl | (simp only [List.length_drop, List.length_take]; rfl)) ?_; (with_reducible refine (impl_SignedOf.calls t181 t188 true _ A11.out).mono ?_); rintro e w' ⟨rfl, ⟨nd, rfl⟩⟩; refine ⟨_, rfl, ?_⟩) | ((with_reducible refine gate_callee (f := 12) rfl ?_); refine goesL_ (some 78) rfl rfl Try.func12 (by kernel_rfl) rfl #[.int .i64 t180] rfl (by (try simp only [List.map_toArray, List.map_cons, List.map_nil]); first | done | rfl | (simp only [List.length_drop, List.length_take]; rfl)) ?_; (with_reducible refine (impl_NegateWord.calls t180 t190 true _ A12.out).mono ?_); rintro e w' ⟨rfl, ⟨nd, rfl⟩⟩; refine ⟨_, rfl, ?_⟩) | ((with_reducible refine gate_callee (f := 11) rfl ?_); refine goesL_ (some 83) rfl rfl Try.func11 (by kernel_rfl) rfl #[.int .i64 t190] rfl (by (try simp only [List.map_toArray, List.map_cons, List.map_nil]); first | done | rfl | (simp only [List.length_drop, List.length_take]; rfl)) ?_; (with_reducible refine (impl_SignedOf.calls t190 t192 true _ A13.out).mono ?_); rintro e w' ⟨rfl, ⟨nd, rfl⟩⟩; refine ⟨_, rfl, ?_⟩) | (go_at_call 13; (with_reducible refine (impl_WordOf.calls t186 t194 _ A17.out).mono ?_); rintro e w' ⟨rfl, ⟨nd, rfl⟩⟩) | ((with_reducible refine gate_callee (f := 14) rfl ?_); refine goesL_ (some 124) rfl rfl Try.func14 (by kernel_rfl) rfl #[.slice A1 l1.length c1] rfl (by (try simp only [List.map_toArray, List.map_cons, List.map_nil]); first | done | rfl | (simp only [List.length_drop, List.length_take]; rfl)) ?_; (with_reducible refine (spec_DrawExtendByte.calls _ _ l1 t195 _ ?side1 ?side2 A22.out).mono ?_); (case side1 => repeat (first | exact (Kd.C_below HR1.out (by repeat (first | (with_reducible first | exact HB.out | apply below_alloc | apply pw_below_drewN | apply below_drew1) | exact HB.out))) | (with_reducible refine Kd.C_alloc ?_ _) | (with_reducible refine Kd.C_drewN ?_ _) | (with_reducible refine Kd.C_drew ?_))); (case side2 => exact HC1.out); rintro e w41 ⟨rfl, hb⟩; refine ⟨_, rfl, ?_⟩; obtain ⟨lo2, hi2, EL2, EH2, LE2⟩ := iv_ hb; have OR2 := Aside0.mk (show hi1 ≤ lo2 ∧ lo2 ≤ hi2 from ⟨Nat.le_trans HTop.out (Nat.le_of_eq EL2), LE2⟩); have n0_ := Aside0.mk (Nat.le_of_eq EH2.symm); have n1_ := Aside0.mk (below_step (by repeat (first | (with_reducible first | exact HB.out | apply below_alloc | apply pw_below_drewN | apply below_drew1) | exact HB.out)) hb); clear HTop; clear HB; have HTop := n0_; have HB := n1_; clear n0_ n1_; (try clear hb); (try clear hb2); (try clear hk); (try clear hi); (try clear EL2); (try clear EH2); (try clear LE2)) | ((with_reducible refine gate_callee (f := 15) rfl ?_); refine goesL_ (some 127) rfl rfl Try.func15 (by kernel_rfl) rfl #[.int .i64 t195] rfl (by (try simp only [List.map_toArray, List.map_cons, List.map_nil]); first | done | rfl | (simp only [List.length_drop, List.length_take]; rfl)) ?_; (with_reducible refine (impl_ExtendByte.calls t195 t196 true _ A23.out).mono ?_); rintro e w' ⟨rfl, ⟨nd, rfl⟩⟩; refine ⟨_, rfl, ?_⟩) | ((with_reducible refine gate_callee (f := 16) rfl ?_); refine goesL_ (some 132) rfl rfl Try.func16 (by kernel_rfl) rfl #[.int .i64 t195] rfl (by (try simp only [List.map_toArray, List.map_cons, List.map_nil]); first | done | rfl | (simp only [List.length_drop, List.length_take]; rfl)) ?_; (with_reducible refine (spec_ExtendByte.calls t195 t198 t199 _ A24.out).mono ?_); rintro e w' ⟨rfl, ⟨nd, rfl⟩⟩; refine ⟨_, rfl, ?_⟩) | ((with_reducible refine gate_callee (f := 11) rfl ?_); refine goesL_ (some 137) rfl rfl Try.func11 (by kernel_rfl) rfl #[.int .i64 t195] rfl (by (try simp only [List.map_toArray, List.map_cons, List.map_nil]); first | done | rfl | (simp only [List.length_drop, List.length_take]; rfl)) ?_; (with_reducible refine (impl_SignedOf.calls t195 t200 t201 _ A25.out).mono ?_); rintro e w' ⟨rfl, ⟨nd, rfl⟩⟩; refine ⟨_, rfl, ?_⟩) | ((with_reducible refine gate_callee (f := 17) rfl ?_); refine goesL_ (some 142) rfl rfl Try.func17 (by kernel_rfl) rfl #[.int .i64 t195] rfl (by (try simp only [List.map_toArray, List.map_cons, List.map_nil]); first | done | rfl | (simp only [List.length_drop, List.length_take]; rfl)) ?_; (with_reducible refine (spec_SignedOf.calls t195 t202 t203 _ A26.out).mono ?_); rintro e w' ⟨rfl, ⟨nd, rfl⟩⟩; refine ⟨_, rfl, ?_⟩) | ((with_reducible refine gate_callee (f := 12) rfl ?_); refine goesL_ (some 147) rfl rfl Try.func12 (by kernel_rfl) rfl #[.int .i64 t195] rfl (by (try simp only [List.map_toArray, List.map_cons, List.map_nil]); first | done | rfl | (simp only [List.length_drop, List.length_take]; rfl)) ?_; (with_reducible refine (impl_NegateWord.calls t195 t204 t205 _ A27.out).mono ?_); rintro e w' ⟨rfl, ⟨nd, rfl⟩⟩; refine ⟨_, rfl, ?_⟩) | ((with_reducible refine gate_callee (f := 18) rfl ?_); refine goesL_ (some 152) rfl rfl Try.func18 (by kernel_rfl) rfl #[.int .i64 t195] rfl (by (try simp only [List.map_toArray, List.map_cons, List.map_nil]); first | done | rfl | (simp only [List.length_drop, List.length_take]; rfl)) ?_; (with_reducible refine (spec_NegateWord.calls t195 t206 t207 _ A28.out).mono ?_); rintro e w' ⟨rfl, ⟨nd, rfl⟩⟩; refine ⟨_, rfl, ?_⟩) | ((with_reducible refine gate_callee (f := 11) rfl ?_); refine goesL_ (some 186) rfl rfl Try.func11 (by kernel_rfl) rfl #[.int .i64 t196] rfl (by (try simp only [List.map_toArray, List.map_cons, List.map_nil]); first | done | rfl | (simp only [List.length_drop, List.length_take]; rfl)) ?_; (with_reducible refine (impl_SignedOf.calls t196 t208 true _ A36.out).mono ?_); rintro e w' ⟨rfl, ⟨nd, rfl⟩⟩; refine ⟨_, rfl, ?_⟩))
                                            go_ret
                                            exact ⟨by first | rfl | (simp [errW_none, errW_some] <;> rfl) | (simp [*, errW_none, errW_some] <;> rfl), by repeat (first | (with_reducible first | exact HB.out | apply below_alloc | apply pw_below_drewN | apply below_drew1) | exact HB.out)⟩
                                          · rw [if_neg c39] at H
                                            exact absurd H (by simp)
                                        · rw [if_neg c38] at H
                                          exact absurd H (by simp)
                                      · replace c37 := Bool.eq_false_iff.mpr c37
                                        subst c37
                                        have H1 : (none) = some r := by rw [if_neg (show ¬ (false = true) by decide)] at H; exact H
                                        clear H
                                        have H := H1
                                        clear H1
                                        exact absurd H (by simp)
                                    · replace c35 := Bool.eq_false_iff.mpr c35
                                      subst c35
                                      have H1 : (some true) = some r := by rw [if_neg (show ¬ (false = true) by decide)] at H; exact H
                                      clear H
                                      have H := H1
                                      clear H1
                                      obtain rfl := Option.some.inj H
                                      go_enter Try.func3, Try.ntmps3
                                      go_wp2_with (first | ((with_reducible refine gate_callee (f := 8) rfl ?_); refine goesL_ (some 42) rfl rfl Try.func8 (by kernel_rfl) rfl #[.slice A0 l0.length c0] rfl (by (try simp only [List.map_toArray, List.map_cons, List.map_nil]); first | done | rfl | (simp only [List.length_drop, List.length_take]; rfl)) ?_; (with_reducible refine (spec_DrawLessSigned.calls _ _ l0 t180 t181 _ ?side1 ?side2 A4.out).mono ?_); (case side1 => repeat (first | exact HR0.out | (with_reducible refine Kd.C_alloc ?_ _) | (with_reducible refine Kd.C_drewN ?_ _) | (with_reducible refine Kd.C_drew ?_))); (case side2 => exact HC0.out); rintro e w42 ⟨rfl, hb⟩; refine ⟨_, rfl, ?_⟩; obtain ⟨lo1, hi1, EL1, EH1, LE1⟩ := iv_ hb; have OR1 := Aside0.mk (show 0 ≤ lo1 ∧ lo1 ≤ hi1 from ⟨Nat.le_trans HTop.out (Nat.le_of_eq EL1), LE1⟩); have n0_ := Aside0.mk (Nat.le_of_eq EH1.symm); have n1_ := Aside0.mk (below_step (by repeat (first | (with_reducible first | exact HB.out | apply below_alloc | apply pw_below_drewN | apply below_drew1) | exact HB.out)) hb); clear HTop; clear HB; have HTop := n0_; have HB := n1_; clear n0_ n1_; (try clear hb); (try clear hb2); (try clear hk); (try clear hi); (try clear EL1); (try clear EH1); (try clear LE1)) | ((with_reducible refine gate_callee (f := 9) rfl ?_); refine goesL_ (some 48) rfl rfl Try.func9 (by kernel_rfl) rfl #[.int .i64 t180, .int .i64 t181] rfl (by (try simp only [List.map_toArray, List.map_cons, List.map_nil]); first | done | rfl | (simp only [List.length_drop, List.length_take]; rfl)) ?_; (with_reducible refine (impl_LessSigned.calls k t180 t181 t182 true _ A5.out).mono ?_); rintro e w' ⟨rfl, ⟨nd, rfl⟩⟩; refine ⟨_, rfl, ?_⟩) | ((with_reducible refine gate_callee (f := 10) rfl ?_); refine goesL_ (some 54) rfl rfl Try.func10 (by kernel_rfl) rfl #[.int .i64 t180, .int .i64 t181] rfl (by (try simp only [List.map_toArray, List.map_cons, List.map_nil]); first | done | rfl | (simp only [List.length_drop, List.length_take]; rfl)) ?_; (with_reducible refine (spec_LessSigned.calls k t180 t181 t184 t185 _ A6.out).mono ?_); rintro e w' ⟨rfl, ⟨nd, rfl⟩⟩; refine ⟨_, rfl, ?_⟩) | ((with_reducible refine gate_callee (f := 11) rfl ?_); refine goesL_ (some 68) rfl rfl Try.func11 (by kernel_rfl) rfl #[.int .i64 t180] rfl (by (try simp only [List.map_toArray, List.map_cons, List.map_nil]); first | done | rfl | (simp only [List.length_drop, List.length_take]; rfl)) ?_; (with_reducible refine (impl_SignedOf.calls t180 t186 true _ A10.out).mono ?_); rintro e w' ⟨rfl, ⟨nd, rfl⟩⟩; refine ⟨_, rfl, ?_⟩) | ((with_reducible refine gate_callee (f := 11) rfl ?_); refine goesL_ (some 73) rfl rfl Try.func11 (by kernel_rfl) rfl #[.int .i64 t181] rfl (by (try simp only [List.map_toArray, List.map_cons, List.map_nil]); first | done | rfl | (simp only [List.length_drop, List.length_take]; rfl)) ?_; (with_reducible refine (impl_SignedOf.calls t181 t188 true _ A11.out).mono ?_); rintro e w' ⟨rfl, ⟨nd, rfl⟩⟩; refine ⟨_, rfl, ?_⟩) | ((with_reducible refine gate_callee (f := 12) rfl ?_); refine goesL_ (some 78) rfl rfl Try.func12 (by kernel_rfl) rfl #[.int .i64 t180] rfl (by (try simp only [List.map_toArray, List.map_cons, List.map_nil]); first | done | rfl | (simp only [List.length_drop, List.length_take]; rfl)) ?_; (with_reducible refine (impl_NegateWord.calls t180 t190 true _ A12.out).mono ?_); rintro e w' ⟨rfl, ⟨nd, rfl⟩⟩; refine ⟨_, rfl, ?_⟩) | ((with_reducible refine gate_callee (f := 11) rfl ?_); refine goesL_ (some 83) rfl rfl Try.func11 (by kernel_rfl) rfl #[.int .i64 t190] rfl (by (try simp only [List.map_toArray, List.map_cons, List.map_nil]); first | done | rfl | (simp only [List.length_drop, List.length_take]; rfl)) ?_; (with_reducible refine (impl_SignedOf.calls t190 t192 true _ A13.out).mono ?_); rintro e w' ⟨rfl, ⟨nd, rfl⟩⟩; refine ⟨_, rfl, ?_⟩) | (go_at_call 13; (with_reducible refine (impl_WordOf.calls t186 t194 _ A17.out).mono ?_); rintro e w' ⟨rfl, ⟨nd, rfl⟩⟩) | ((with_reducible refine gate_callee (f := 14) rfl ?_); refine goesL_ (some 124) rfl rfl Try.func14 (by kernel_rfl) rfl #[.slice A1 l1.length c1] rfl (by (try simp only [List.map_toArray, List.map_cons, List.map_nil]); first | done | rfl | (simp only [List.length_drop, List.length_take]; rfl)) ?_; (with_reducible refine (spec_DrawExtendByte.calls _ _ l1 t195 _ ?side1 ?side2 A22.out).mono ?_); (case side1 => repeat (first | exact (Kd.C_below HR1.out (by repeat (first | (with_reducible first | exact HB.out | apply below_alloc | apply pw_below_drewN | apply below_drew1) | exact HB.out))) | (with_reducible refine Kd.C_alloc ?_ _) | (with_reducible refine Kd.C_drewN ?_ _) | (with_reducible refine Kd.C_drew ?_))); (case side2 => exact HC1.out); rintro e w43 ⟨rfl, hb⟩; refine ⟨_, rfl, ?_⟩; obtain ⟨lo2, hi2, EL2, EH2, LE2⟩ := iv_ hb; have OR2 := Aside0.mk (show hi1 ≤ lo2 ∧ lo2 ≤ hi2 from ⟨Nat.le_trans HTop.out (Nat.le_of_eq EL2), LE2⟩); have n0_ := Aside0.mk (Nat.le_of_eq EH2.symm); have n1_ := Aside0.mk (below_step (by repeat (first | (with_reducible first | exact HB.out | apply below_alloc | apply pw_below_drewN | apply below_drew1) | exact HB.out)) hb); clear HTop; clear HB; have HTop := n0_; have HB := n1_; clear n0_ n1_; (try clear hb); (try clear hb2); (try clear hk); (try clear hi); (try clear EL2); (try clear EH2); (try clear LE2)) | ((with_reducible refine gate_callee (f := 15) rfl ?_); refine goesL_ (some 127) rfl rfl Try.func15 (by kernel_rfl) rfl #[.int .i64 t195] rfl (by (try simp only [List.map_toArray, List.map_cons, List.map_nil]); first | done | rfl | (simp only [List.length_drop, List.length_take]; rfl)) ?_; (with_reducible refine (impl_ExtendByte.calls t195 t196 false _ A23.out).mono ?_); rintro e w' ⟨rfl, ⟨nd, rfl⟩⟩; refine ⟨_, rfl, ?_⟩) | ((with_reducible refine gate_callee (f := 16) rfl ?_); refine goesL_ (some 132) rfl rfl Try.func16 (by kernel_rfl) rfl #[.int .i64 t195] rfl (by (try simp only [List.map_toArray, List.map_cons, List.map_nil]); first | done | rfl | (simp only [List.length_drop, List.length_take]; rfl)) ?_; (with_reducible refine (spec_ExtendByte.calls t195 t198 t199 _ A24.out).mono ?_); rintro e w' ⟨rfl, ⟨nd, rfl⟩⟩; refine ⟨_, rfl, ?_⟩) | ((with_reducible refine gate_callee (f := 11) rfl ?_); refine goesL_ (some 137) rfl rfl Try.func11 (by kernel_rfl) rfl #[.int .i64 t195] rfl (by (try simp only [List.map_toArray, List.map_cons, List.map_nil]); first | done | rfl | (simp only [List.length_drop, List.length_take]; rfl)) ?_; (with_reducible refine (impl_SignedOf.calls t195 t200 t201 _ A25.out).mono ?_); rintro e w' ⟨rfl, ⟨nd, rfl⟩⟩; refine ⟨_, rfl, ?_⟩) | ((with_reducible refine gate_callee (f := 17) rfl ?_); refine goesL_ (some 142) rfl rfl Try.func17 (by kernel_rfl) rfl #[.int .i64 t195] rfl (by (try simp only [List.map_toArray, List.map_cons, List.map_nil]); first | done | rfl | (simp only [List.length_drop, List.length_take]; rfl)) ?_; (with_reducible refine (spec_SignedOf.calls t195 t202 t203 _ A26.out).mono ?_); rintro e w' ⟨rfl, ⟨nd, rfl⟩⟩; refine ⟨_, rfl, ?_⟩) | ((with_reducible refine gate_callee (f := 12) rfl ?_); refine goesL_ (some 147) rfl rfl Try.func12 (by kernel_rfl) rfl #[.int .i64 t195] rfl (by (try simp only [List.map_toArray, List.map_cons, List.map_nil]); first | done | rfl | (simp only [List.length_drop, List.length_take]; rfl)) ?_; (with_reducible refine (impl_NegateWord.calls t195 t204 t205 _ A27.out).mono ?_); rintro e w' ⟨rfl, ⟨nd, rfl⟩⟩; refine ⟨_, rfl, ?_⟩) | ((with_reducible refine gate_callee (f := 18) rfl ?_); refine goesL_ (some 152) rfl rfl Try.func18 (by kernel_rfl) rfl #[.int .i64 t195] rfl (by (try simp only [List.map_toArray, List.map_cons, List.map_nil]); first | done | rfl | (simp only [List.length_drop, List.length_take]; rfl)) ?_; (with_reducible refine (spec_NegateWord.calls t195 t206 t207 _ A28.out).mono ?_); rintro e w' ⟨rfl, ⟨nd, rfl⟩⟩; refine ⟨_, rfl, ?_⟩))
                                      go_ret
                                      exact ⟨by first | rfl | (simp [errW_none, errW_some] <;> rfl) | (simp [*, errW_none, errW_some] <;> rfl), by repeat (first | (with_reducible first | exact HB.out | apply below_alloc | apply pw_below_drewN | apply below_drew1) | exact HB.out)⟩
                                  · rw [if_neg c34] at H
                                    exact absurd H (by simp)
                              · rw [if_neg c32] at H
                                exact absurd H (by simp)
                          · rw [if_neg c30] at H
                            exact absurd H (by simp)
                      · rw [if_neg c21] at H
                        have c21b0 : (t192 == (wrap64 (-t186))) = false := beq_eq_false_iff_ne.mpr c21
                        have c21b1 : (t192 != (wrap64 (-t186))) = true := bne_iff_ne.mpr c21
                        by_cases c44 : t186 = (-32768)
                        · rw [if_pos c44] at H
                          have c44b0 : (t186 == (-32768)) = true := beq_iff_eq.mpr c44
                          have c44b1 : (t186 != (-32768)) = false := bne_eq_false_iff_eq.mpr c44
                          clear c44
                          replace H := Option.bind_eq_some_iff.mp H
                          obtain ⟨t210, A450, H⟩ := H
                          replace H : ((impl_ExtendByte.f t210).bind fun bt211 => ((spec_ExtendByte.f t210).bind fun bt213 => ((impl_SignedOf.f t210).bind fun bt215 => ((spec_SignedOf.f t210).bind fun bt217 => ((impl_NegateWord.f t210).bind fun bt219 => ((spec_NegateWord.f t210).bind fun bt221 => (if (bt211.2 != bt213.2) = true then (none) else (if bt211.1 = bt213.1 then (if (bt215.2 != bt217.2) = true then (none) else (if bt215.1 = bt217.1 then (if (bt219.2 != bt221.2) = true then (none) else (if bt219.1 = bt221.1 then (if bt211.2 = true then ((impl_SignedOf.f bt211.1).bind fun bt223 => (if bt223.2 = true then (if bt223.1 ≥ (-128) then (if bt223.1 ≤ 127 then (some ((Int.tmod bt211.1 256) == (Int.tmod t210 256))) else (none)) else (none)) else (none))) else (some true)) else (none))) else (none))) else (none))))))))) = some r := H
                          have A45 := Aside0.mk A450
                          clear A450
                          replace H := Option.bind_eq_some_iff.mp H
                          obtain ⟨⟨t211, t212⟩, A460, H⟩ := H
                          replace H : ((spec_ExtendByte.f t210).bind fun bt213 => ((impl_SignedOf.f t210).bind fun bt215 => ((spec_SignedOf.f t210).bind fun bt217 => ((impl_NegateWord.f t210).bind fun bt219 => ((spec_NegateWord.f t210).bind fun bt221 => (if (t212 != bt213.2) = true then (none) else (if t211 = bt213.1 then (if (bt215.2 != bt217.2) = true then (none) else (if bt215.1 = bt217.1 then (if (bt219.2 != bt221.2) = true then (none) else (if bt219.1 = bt221.1 then (if t212 = true then ((impl_SignedOf.f t211).bind fun bt223 => (if bt223.2 = true then (if bt223.1 ≥ (-128) then (if bt223.1 ≤ 127 then (some ((Int.tmod t211 256) == (Int.tmod t210 256))) else (none)) else (none)) else (none))) else (some true)) else (none))) else (none))) else (none)))))))) = some r := H
                          have A46 := Aside0.mk A460
                          clear A460
                          replace H := Option.bind_eq_some_iff.mp H
                          obtain ⟨⟨t213, t214⟩, A470, H⟩ := H
                          replace H : ((impl_SignedOf.f t210).bind fun bt215 => ((spec_SignedOf.f t210).bind fun bt217 => ((impl_NegateWord.f t210).bind fun bt219 => ((spec_NegateWord.f t210).bind fun bt221 => (if (t212 != t214) = true then (none) else (if t211 = t213 then (if (bt215.2 != bt217.2) = true then (none) else (if bt215.1 = bt217.1 then (if (bt219.2 != bt221.2) = true then (none) else (if bt219.1 = bt221.1 then (if t212 = true then ((impl_SignedOf.f t211).bind fun bt223 => (if bt223.2 = true then (if bt223.1 ≥ (-128) then (if bt223.1 ≤ 127 then (some ((Int.tmod t211 256) == (Int.tmod t210 256))) else (none)) else (none)) else (none))) else (some true)) else (none))) else (none))) else (none))))))) = some r := H
                          have A47 := Aside0.mk A470
                          clear A470
                          replace H := Option.bind_eq_some_iff.mp H
                          obtain ⟨⟨t215, t216⟩, A480, H⟩ := H
                          replace H : ((spec_SignedOf.f t210).bind fun bt217 => ((impl_NegateWord.f t210).bind fun bt219 => ((spec_NegateWord.f t210).bind fun bt221 => (if (t212 != t214) = true then (none) else (if t211 = t213 then (if (t216 != bt217.2) = true then (none) else (if t215 = bt217.1 then (if (bt219.2 != bt221.2) = true then (none) else (if bt219.1 = bt221.1 then (if t212 = true then ((impl_SignedOf.f t211).bind fun bt223 => (if bt223.2 = true then (if bt223.1 ≥ (-128) then (if bt223.1 ≤ 127 then (some ((Int.tmod t211 256) == (Int.tmod t210 256))) else (none)) else (none)) else (none))) else (some true)) else (none))) else (none))) else (none)))))) = some r := H
                          have A48 := Aside0.mk A480
                          clear A480
                          replace H := Option.bind_eq_some_iff.mp H
                          obtain ⟨⟨t217, t218⟩, A490, H⟩ := H
                          replace H : ((impl_NegateWord.f t210).bind fun bt219 => ((spec_NegateWord.f t210).bind fun bt221 => (if (t212 != t214) = true then (none) else (if t211 = t213 then (if (t216 != t218) = true then (none) else (if t215 = t217 then (if (bt219.2 != bt221.2) = true then (none) else (if bt219.1 = bt221.1 then (if t212 = true then ((impl_SignedOf.f t211).bind fun bt223 => (if bt223.2 = true then (if bt223.1 ≥ (-128) then (if bt223.1 ≤ 127 then (some ((Int.tmod t211 256) == (Int.tmod t210 256))) else (none)) else (none)) else (none))) else (some true)) else (none))) else (none))) else (none))))) = some r := H
                          have A49 := Aside0.mk A490
                          clear A490
                          replace H := Option.bind_eq_some_iff.mp H
                          obtain ⟨⟨t219, t220⟩, A500, H⟩ := H
                          replace H : ((spec_NegateWord.f t210).bind fun bt221 => (if (t212 != t214) = true then (none) else (if t211 = t213 then (if (t216 != t218) = true then (none) else (if t215 = t217 then (if (t220 != bt221.2) = true then (none) else (if t219 = bt221.1 then (if t212 = true then ((impl_SignedOf.f t211).bind fun bt223 => (if bt223.2 = true then (if bt223.1 ≥ (-128) then (if bt223.1 ≤ 127 then (some ((Int.tmod t211 256) == (Int.tmod t210 256))) else (none)) else (none)) else (none))) else (some true)) else (none))) else (none))) else (none)))) = some r := H
                          have A50 := Aside0.mk A500
                          clear A500
                          replace H := Option.bind_eq_some_iff.mp H
                          obtain ⟨⟨t221, t222⟩, A510, H⟩ := H
                          replace H : (if (t212 != t214) = true then (none) else (if t211 = t213 then (if (t216 != t218) = true then (none) else (if t215 = t217 then (if (t220 != t222) = true then (none) else (if t219 = t221 then (if t212 = true then ((impl_SignedOf.f t211).bind fun bt223 => (if bt223.2 = true then (if bt223.1 ≥ (-128) then (if bt223.1 ≤ 127 then (some ((Int.tmod t211 256) == (Int.tmod t210 256))) else (none)) else (none)) else (none))) else (some true)) else (none))) else (none))) else (none))) = some r := H
                          have A51 := Aside0.mk A510
                          clear A510
                          by_cases c52 : (t212 != t214) = true
                          · rw [if_pos c52] at H
                            exact absurd H (by simp)
                          · rw [if_neg c52] at H
                            have c52b0 : (t212 != t214) = false := by simpa using c52
                            (try (have c52b1 : decide (t212 = t214) = true := by simpa using c52))
                            (try (have c52b2 : (t212 == t214) = true := by simpa using c52))
                            clear c52
                            by_cases c53 : t211 = t213
                            · rw [if_pos c53] at H
                              have c53b0 : (t211 == t213) = true := beq_iff_eq.mpr c53
                              have c53b1 : (t211 != t213) = false := bne_eq_false_iff_eq.mpr c53
                              clear c53
                              by_cases c54 : (t216 != t218) = true
                              · rw [if_pos c54] at H
                                exact absurd H (by simp)
                              · rw [if_neg c54] at H
                                have c54b0 : (t216 != t218) = false := by simpa using c54
                                (try (have c54b1 : decide (t216 = t218) = true := by simpa using c54))
                                (try (have c54b2 : (t216 == t218) = true := by simpa using c54))
                                clear c54
                                by_cases c55 : t215 = t217
                                · rw [if_pos c55] at H
                                  have c55b0 : (t215 == t217) = true := beq_iff_eq.mpr c55
                                  have c55b1 : (t215 != t217) = false := bne_eq_false_iff_eq.mpr c55
                                  clear c55
                                  by_cases c56 : (t220 != t222) = true
                                  · rw [if_pos c56] at H
                                    exact absurd H (by simp)
                                  · rw [if_neg c56] at H
                                    have c56b0 : (t220 != t222) = false := by simpa using c56
                                    (try (have c56b1 : decide (t220 = t222) = true := by simpa using c56))
                                    (try (have c56b2 : (t220 == t222) = true := by simpa using c56))
                                    clear c56
                                    by_cases c57 : t219 = t221
                                    · rw [if_pos c57] at H
                                      have c57b0 : (t219 == t221) = true := beq_iff_eq.mpr c57
                                      have c57b1 : (t219 != t221) = false := bne_eq_false_iff_eq.mpr c57
                                      clear c57
                                      by_cases c58 : t212 = true
                                      · subst c58
                                        have H1 : ((impl_SignedOf.f t211).bind fun bt223 => (if bt223.2 = true then (if bt223.1 ≥ (-128) then (if bt223.1 ≤ 127 then (some ((Int.tmod t211 256) == (Int.tmod t210 256))) else (none)) else (none)) else (none))) = some r := by rw [if_pos rfl] at H; exact H
                                        clear H
                                        have H := H1
                                        clear H1
                                        replace H := Option.bind_eq_some_iff.mp H
                                        obtain ⟨⟨t223, t224⟩, A590, H⟩ := H
                                        replace H : (if t224 = true then (if t223 ≥ (-128) then (if t223 ≤ 127 then (some ((Int.tmod t211 256) == (Int.tmod t210 256))) else (none)) else (none)) else (none)) = some r := H
                                        have A59 := Aside0.mk A590
                                        clear A590
                                        by_cases c60 : t224 = true
                                        · subst c60
                                          have H1 : (if t223 ≥ (-128) then (if t223 ≤ 127 then (some ((Int.tmod t211 256) == (Int.tmod t210 256))) else (none)) else (none)) = some r := by rw [if_pos rfl] at H; exact H
                                          clear H
                                          have H := H1
                                          clear H1
                                          by_cases c61 : t223 ≥ (-128)
                                          · rw [if_pos c61] at H
                                            have c61b0 : decide ((-128) ≤ t223) = true := decide_eq_true c61
                                            clear c61
                                            by_cases c62 : t223 ≤ 127
                                            · rw [if_pos c62] at H
                                              have c62b0 : decide (t223 ≤ 127) = true := decide_eq_true c62
                                              clear c62
                                              obtain rfl := Option.some.inj H
                                              go_enter Try.func3, Try.ntmps3
                                              go_wp2_with (first | ((with_reducible refine gate_callee (f := 8) rfl ?_); refine goesL_ (some 42) rfl rfl Try.func8 (by kernel_rfl) rfl #[.slice A0 l0.length c0] rfl (by (try simp only [List.map_toArray, List.map_cons, List.map_nil]); first | done | rfl | (simp only [List.length_drop, List.length_take]; rfl)) ?_; (with_reducible refine (spec_DrawLessSigned.calls _ _ l0 t180 t181 _ ?side1 ?side2 A4.out).mono ?_); (case side1 => repeat (first | exact HR0.out | (with_reducible refine Kd.C_alloc ?_ _) | (with_reducible refine Kd.C_drewN ?_ _) | (with_reducible refine Kd.C_drew ?_))); (case side2 => exact HC0.out); rintro e w63 ⟨rfl, hb⟩; refine ⟨_, rfl, ?_⟩; obtain ⟨lo1, hi1, EL1, EH1, LE1⟩ := iv_ hb; have OR1 := Aside0.mk (show 0 ≤ lo1 ∧ lo1 ≤ hi1 from ⟨Nat.le_trans HTop.out (Nat.le_of_eq EL1), LE1⟩); have n0_ := Aside0.mk (Nat.le_of_eq EH1.symm); have n1_ := Aside0.mk (below_step (by repeat (first | (with_reducible first | exact HB.out | apply below_alloc | apply pw_below_drewN | apply below_drew1) | exact HB.out)) hb); clear HTop; clear HB; have HTop := n0_; have HB := n1_; clear n0_ n1_; (try clear hb); (try clear hb2); (try clear hk); (try clear hi); (try clear EL1); (try clear EH1); (try clear LE1)) | ((with_reducible refine gate_callee (f := 9) rfl ?_); refine goesL_ (some 48) rfl rfl Try.func9 (by kernel_rfl) rfl #[.int .i64 t180, .int .i64 t181] rfl (by (try simp only [List.map_toArray, List.map_cons, List.map_nil]); first | done | rfl | (simp only [List.length_drop, List.length_take]; rfl)) ?_; (with_reducible refine (impl_LessSigned.calls k t180 t181 t182 true _ A5.out).mono ?_); rintro e w' ⟨rfl, ⟨nd, rfl⟩⟩; refine ⟨_, rfl, ?_⟩) | ((with_reducible refine gate_callee (f := 10) rfl ?_); refine goesL_ (some 54) rfl rfl Try.func10 (by kernel_rfl) rfl #[.int .i64 t180, .int .i64 t181] rfl (by (try simp only [List.map_toArray, List.map_cons, List.map_nil]); first | done | rfl | (simp only [List.length_drop, List.length_take]; rfl)) ?_; (with_reducible refine (spec_LessSigned.calls k t180 t181 t184 t185 _ A6.out).mono ?_); rintro e w' ⟨rfl, ⟨nd, rfl⟩⟩; refine ⟨_, rfl, ?_⟩) | ((with_reducible refine gate_callee (f := 11) rfl ?_); refine goesL_ (some 68) rfl rfl Try.func11 (by kernel_rfl) rfl #[.int .i64 t180] rfl (by (try simp only [List.map_toArray, List.map_cons, List.map_nil]); first | done | rfl | (simp only [List.length_drop, List.length_take]; rfl)) ?_; (with_reducible refine (impl_SignedOf.calls t180 t186 true _ A10.out).mono ?_); rintro e w' ⟨rfl, ⟨nd, rfl⟩⟩; refine ⟨_, rfl, ?_⟩) | ((with_reducible refine gate_callee (f := 11) rfl ?_); refine goesL_ (some 73) rfl rfl Try.func11 (by kernel_rfl) rfl #[.int .i64 t181] rfl (by (try simp only [List.map_toArray, List.map_cons, List.map_nil]); first | done | rfl | (simp only [List.length_drop, List.length_take]; rfl)) ?_; (with_reducible refine (impl_SignedOf.calls t181 t188 true _ A11.out).mono ?_); rintro e w' ⟨rfl, ⟨nd, rfl⟩⟩; refine ⟨_, rfl, ?_⟩) | ((with_reducible refine gate_callee (f := 12) rfl ?_); refine goesL_ (some 78) rfl rfl Try.func12 (by kernel_rfl) rfl #[.int .i64 t180] rfl (by (try simp only [List.map_toArray, List.map_cons, List.map_nil]); first | done | rfl | (simp only [List.length_drop, List.length_take]; rfl)) ?_; (with_reducible refine (impl_NegateWord.calls t180 t190 true _ A12.out).mono ?_); rintro e w' ⟨rfl, ⟨nd, rfl⟩⟩; refine ⟨_, rfl, ?_⟩) | ((with_reducible refine gate_callee (f := 11) rfl ?_); refine goesL_ (some 83) rfl rfl Try.func11 (by kernel_rfl) rfl #[.int .i64 t190] rfl (by (try simp only [List.map_toArray, List.map_cons, List.map_nil]); first | done | rfl | (simp only [List.length_drop, List.length_take]; rfl)) ?_; (with_reducible refine (impl_SignedOf.calls t190 t192 true _ A13.out).mono ?_); rintro e w' ⟨rfl, ⟨nd, rfl⟩⟩; refine ⟨_, rfl, ?_⟩) | (go_at_call 13; (with_reducible refine (impl_WordOf.calls t186 t194 _ A17.out).mono ?_); rintro e w' ⟨rfl, ⟨nd, rfl⟩⟩) | ((with_reducible refine gate_callee (f := 14) rfl ?_); refine goesL_ (some 124) rfl rfl Try.func14 (by kernel_rfl) rfl #[.slice A1 l1.length c1] rfl (by (try simp only [List.map_toArray, List.map_cons, List.map_nil]); first | done | rfl | (simp only [List.length_drop, List.length_take]; rfl)) ?_; (with_reducible refine (spec_DrawExtendByte.calls _ _ l1 t210 _ ?side1 ?side2 A45.out).mono ?_); (case side1 => repeat (first | exact (Kd.C_below HR1.out (by repeat (first | (with_reducible first | exact HB.out | apply below_alloc | apply pw_below_drewN | apply below_drew1) | exact HB.out))) | (with_reducible refine Kd.C_alloc ?_ _) | (with_reducible refine Kd.C_drewN ?_ _) | (with_reducible refine Kd.C_drew ?_))); (case side2 => exact HC1.out); rintro e w64 ⟨rfl, hb⟩; refine ⟨_, rfl, ?_⟩; obtain ⟨lo2, hi2, EL2, EH2, LE2⟩ := iv_ hb; have OR2 := Aside0.mk (show hi1 ≤ lo2 ∧ lo2 ≤ hi2 from ⟨Nat.le_trans HTop.out (Nat.le_of_eq EL2), LE2⟩); have n0_ := Aside0.mk (Nat.le_of_eq EH2.symm); have n1_ := Aside0.mk (below_step (by repeat (first | (with_reducible first | exact HB.out | apply below_alloc | apply pw_below_drewN | apply below_drew1) | exact HB.out)) hb); clear HTop; clear HB; have HTop := n0_; have HB := n1_; clear n0_ n1_; (try clear hb); (try clear hb2); (try clear hk); (try clear hi); (try clear EL2); (try clear EH2); (try clear LE2)) | ((with_reducible refine gate_callee (f := 15) rfl ?_); refine goesL_ (some 127) rfl rfl Try.func15 (by kernel_rfl) rfl #[.int .i64 t210] rfl (by (try simp only [List.map_toArray, List.map_cons, List.map_nil]); first | done | rfl | (simp only [List.length_drop, List.length_take]; rfl)) ?_; (with_reducible refine (impl_ExtendByte.calls t210 t211 true _ A46.out).mono ?_); rintro e w' ⟨rfl, ⟨nd, rfl⟩⟩; refine ⟨_, rfl, ?_⟩) | ((with_reducible refine gate_callee (f := 16) rfl ?_); refine goesL_ (some 132) rfl rfl Try.func16 (by kernel_rfl) rfl #[.int .i64 t210] rfl (by (try simp only [List.map_toArray, List.map_cons, List.map_nil]); first | done | rfl | (simp only [List.length_drop, List.length_take]; rfl)) ?_; (with_reducible refine (spec_ExtendByte.calls t210 t213 t214 _ A47.out).mono ?_); rintro e w' ⟨rfl, ⟨nd, rfl⟩⟩; refine ⟨_, rfl, ?_⟩) | ((with_reducible refine gate_callee (f := 11) rfl ?_); refine goesL_ (some 137) rfl rfl Try.func11 (by kernel_rfl) rfl #[.int .i64 t210] rfl (by (try simp only [List.map_toArray, List.map_cons, List.map_nil]); first | done | rfl | (simp only [List.length_drop, List.length_take]; rfl)) ?_; (with_reducible refine (impl_SignedOf.calls t210 t215 t216 _ A48.out).mono ?_); rintro e w' ⟨rfl, ⟨nd, rfl⟩⟩; refine ⟨_, rfl, ?_⟩) | ((with_reducible refine gate_callee (f := 17) rfl ?_); refine goesL_ (some 142) rfl rfl Try.func17 (by kernel_rfl) rfl #[.int .i64 t210] rfl (by (try simp only [List.map_toArray, List.map_cons, List.map_nil]); first | done | rfl | (simp only [List.length_drop, List.length_take]; rfl)) ?_; (with_reducible refine (spec_SignedOf.calls t210 t217 t218 _ A49.out).mono ?_); rintro e w' ⟨rfl, ⟨nd, rfl⟩⟩; refine ⟨_, rfl, ?_⟩) | ((with_reducible refine gate_callee (f := 12) rfl ?_); refine goesL_ (some 147) rfl rfl Try.func12 (by kernel_rfl) rfl #[.int .i64 t210] rfl (by (try simp only [List.map_toArray, List.map_cons, List.map_nil]); first | done | rfl | (simp only [List.length_drop, List.length_take]; rfl)) ?_; (with_reducible refine (impl_NegateWord.calls t210 t219 t220 _ A50.out).mono ?_); rintro e w' ⟨rfl, ⟨nd, rfl⟩⟩; refine ⟨_, rfl, ?_⟩) | ((with_reducible refine gate_callee (f := 18) rfl ?_); refine goesL_ (some 152) rfl rfl Try.func18 (by kernel_rfl) rfl #[.int .i64 t210] rfl (by (try simp only [List.map_toArray, List.map_cons, List.map_nil]); first | done | rfl | (simp only [List.length_drop, List.length_take]; rfl)) ?_; (with_reducible refine (spec_NegateWord.calls t210 t221 t222 _ A51.out).mono ?_); rintro e w' ⟨rfl, ⟨nd, rfl⟩⟩; refine ⟨_, rfl, ?_⟩) | ((with_reducible refine gate_callee (f := 11) rfl ?_); refine goesL_ (some 186) rfl rfl Try.func11 (by kernel_rfl) rfl #[.int .i64 t211] rfl (by (try simp only [List.map_toArray, List.map_cons, List.map_nil]); first | done | rfl | (simp only [List.length_drop, List.length_take]; rfl)) ?_; (with_reducible refine (impl_SignedOf.calls t211 t223 true _ A59.out).mono ?_); rintro e w' ⟨rfl, ⟨nd, rfl⟩⟩; refine ⟨_, rfl, ?_⟩))
                                              go_ret
                                              exact ⟨by first | rfl | (simp [errW_none, errW_some] <;> rfl) | (simp [*, errW_none, errW_some] <;> rfl), by repeat (first | (with_reducible first | exact HB.out | apply below_alloc | apply pw_below_drewN | apply below_drew1) | exact HB.out)⟩
                                            · rw [if_neg c62] at H
                                              exact absurd H (by simp)
                                          · rw [if_neg c61] at H
                                            exact absurd H (by simp)
                                        · replace c60 := Bool.eq_false_iff.mpr c60
                                          subst c60
                                          have H1 : (none) = some r := by rw [if_neg (show ¬ (false = true) by decide)] at H; exact H
                                          clear H
                                          have H := H1
                                          clear H1
                                          exact absurd H (by simp)
                                      · replace c58 := Bool.eq_false_iff.mpr c58
                                        subst c58
                                        have H1 : (some true) = some r := by rw [if_neg (show ¬ (false = true) by decide)] at H; exact H
                                        clear H
                                        have H := H1
                                        clear H1
                                        obtain rfl := Option.some.inj H
                                        go_enter Try.func3, Try.ntmps3
                                        go_wp2_with (first | ((with_reducible refine gate_callee (f := 8) rfl ?_); refine goesL_ (some 42) rfl rfl Try.func8 (by kernel_rfl) rfl #[.slice A0 l0.length c0] rfl (by (try simp only [List.map_toArray, List.map_cons, List.map_nil]); first | done | rfl | (simp only [List.length_drop, List.length_take]; rfl)) ?_; (with_reducible refine (spec_DrawLessSigned.calls _ _ l0 t180 t181 _ ?side1 ?side2 A4.out).mono ?_); (case side1 => repeat (first | exact HR0.out | (with_reducible refine Kd.C_alloc ?_ _) | (with_reducible refine Kd.C_drewN ?_ _) | (with_reducible refine Kd.C_drew ?_))); (case side2 => exact HC0.out); rintro e w65 ⟨rfl, hb⟩; refine ⟨_, rfl, ?_⟩; obtain ⟨lo1, hi1, EL1, EH1, LE1⟩ := iv_ hb; have OR1 := Aside0.mk (show 0 ≤ lo1 ∧ lo1 ≤ hi1 from ⟨Nat.le_trans HTop.out (Nat.le_of_eq EL1), LE1⟩); have n0_ := Aside0.mk (Nat.le_of_eq EH1.symm); have n1_ := Aside0.mk (below_step (by repeat (first | (with_reducible first | exact HB.out | apply below_alloc | apply pw_below_drewN | apply below_drew1) | exact HB.out)) hb); clear HTop; clear HB; have HTop := n0_; have HB := n1_; clear n0_ n1_; (try clear hb); (try clear hb2); (try clear hk); (try clear hi); (try clear EL1); (try clear EH1); (try clear LE1)) | ((with_reducible refine gate_callee (f := 9) rfl ?_); refine goesL_ (some 48) rfl rfl Try.func9 (by kernel_rfl) rfl #[.int .i64 t180, .int .i64 t181] rfl (by (try simp only [List.map_toArray, List.map_cons, List.map_nil]); first | done | rfl | (simp only [List.length_drop, List.length_take]; rfl)) ?_; (with_reducible refine (impl_LessSigned.calls k t180 t181 t182 true _ A5.out).mono ?_); rintro e w' ⟨rfl, ⟨nd, rfl⟩⟩; refine ⟨_, rfl, ?_⟩) | ((with_reducible refine gate_callee (f := 10) rfl ?_); refine goesL_ (some 54) rfl rfl Try.func10 (by kernel_rfl) rfl #[.int .i64 t180, .int .i64 t181] rfl (by (try simp only [List.map_toArray, List.map_cons, List.map_nil]); first | done | rfl | (simp only [List.length_drop, List.length_take]; rfl)) ?_; (with_reducible refine (spec_LessSigned.calls k t180 t181 t184 t185 _ A6.out).mono ?_); rintro e w' ⟨rfl, ⟨nd, rfl⟩⟩; refine ⟨_, rfl, ?_⟩) | ((with_reducible refine gate_callee (f := 11) rfl ?_); refine goesL_ (some 68) rfl rfl Try.func11 (by kernel_rfl) rfl #[.int .i64 t180] rfl (by (try simp only [List.map_toArray, List.map_cons, List.map_nil]); first | done | rfl | (simp only [List.length_drop, List.length_take]; rfl)) ?_; (with_reducible refine (impl_SignedOf.calls t180 t186 true _ A10.out).mono ?_); rintro e w' ⟨rfl, ⟨nd, rfl⟩⟩; refine ⟨_, rfl, ?_⟩) | ((with_reducible refine gate_callee (f := 11) rfl ?_); refine goesL_ (some 73) rfl rfl Try.func11 (by kernel_rfl) rfl #[.int .i64 t181] rfl (by (try simp only [List.map_toArray, List.map_cons, List.map_nil]); first | done | rfl | (simp only [List.length_drop, List.length_take]; rfl)) ?_; (with_reducible refine (impl_SignedOf.calls t181 t188 true _ A11.out).mono ?_); rintro e w' ⟨rfl, ⟨nd, rfl⟩⟩; refine ⟨_, rfl, ?_⟩) | ((with_reducible refine gate_callee (f := 12) rfl ?_); refine goesL_ (some 78) rfl rfl Try.func12 (by kernel_rfl) rfl #[.int .i64 t180] rfl (by (try simp only [List.map_toArray, List.map_cons, List.map_nil]); first | done | rfl | (simp only [List.length_drop, List.length_take]; rfl)) ?_; (with_reducible refine (impl_NegateWord.calls t180 t190 true _ A12.out).mono ?_); rintro e w' ⟨rfl, ⟨nd, rfl⟩⟩; refine ⟨_, rfl, ?_⟩) | ((with_reducible refine gate_callee (f := 11) rfl ?_); refine goesL_ (some 83) rfl rfl Try.func11 (by kernel_rfl) rfl #[.int .i64 t190] rfl (by (try simp only [List.map_toArray, List.map_cons, List.map_nil]); first | done | rfl | (simp only [List.length_drop, List.length_take]; rfl)) ?_; (with_reducible refine (impl_SignedOf.calls t190 t192 true _ A13.out).mono ?_); rintro e w' ⟨rfl, ⟨nd, rfl⟩⟩; refine ⟨_, rfl, ?_⟩) | (go_at_call 13; (with_reducible refine (impl_WordOf.calls t186 t194 _ A17.out).mono ?_); rintro e w' ⟨rfl, ⟨nd, rfl⟩⟩) | ((with_reducible refine gate_callee (f := 14) rfl ?_); refine goesL_ (some 124) rfl rfl Try.func14 (by kernel_rfl) rfl #[.slice A1 l1.length c1] rfl (by (try simp only [List.map_toArray, List.map_cons, List.map_nil]); first | done | rfl | (simp only [List.length_drop, List.length_take]; rfl)) ?_; (with_reducible refine (spec_DrawExtendByte.calls _ _ l1 t210 _ ?side1 ?side2 A45.out).mono ?_); (case side1 => repeat (first | exact (Kd.C_below HR1.out (by repeat (first | (with_reducible first | exact HB.out | apply below_alloc | apply pw_below_drewN | apply below_drew1) | exact HB.out))) | (with_reducible refine Kd.C_alloc ?_ _) | (with_reducible refine Kd.C_drewN ?_ _) | (with_reducible refine Kd.C_drew ?_))); (case side2 => exact HC1.out); rintro e w66 ⟨rfl, hb⟩; refine ⟨_, rfl, ?_⟩; obtain ⟨lo2, hi2, EL2, EH2, LE2⟩ := iv_ hb; have OR2 := Aside0.mk (show hi1 ≤ lo2 ∧ lo2 ≤ hi2 from ⟨Nat.le_trans HTop.out (Nat.le_of_eq EL2), LE2⟩); have n0_ := Aside0.mk (Nat.le_of_eq EH2.symm); have n1_ := Aside0.mk (below_step (by repeat (first | (with_reducible first | exact HB.out | apply below_alloc | apply pw_below_drewN | apply below_drew1) | exact HB.out)) hb); clear HTop; clear HB; have HTop := n0_; have HB := n1_; clear n0_ n1_; (try clear hb); (try clear hb2); (try clear hk); (try clear hi); (try clear EL2); (try clear EH2); (try clear LE2)) | ((with_reducible refine gate_callee (f := 15) rfl ?_); refine goesL_ (some 127) rfl rfl Try.func15 (by kernel_rfl) rfl #[.int .i64 t210] rfl (by (try simp only [List.map_toArray, List.map_cons, List.map_nil]); first | done | rfl | (simp only [List.length_drop, List.length_take]; rfl)) ?_; (with_reducible refine (impl_ExtendByte.calls t210 t211 false _ A46.out).mono ?_); rintro e w' ⟨rfl, ⟨nd, rfl⟩⟩; refine ⟨_, rfl, ?_⟩) | ((with_reducible refine gate_callee (f := 16) rfl ?_); refine goesL_ (some 132) rfl rfl Try.func16 (by kernel_rfl) rfl #[.int .i64 t210] rfl (by (try simp only [List.map_toArray, List.map_cons, List.map_nil]); first | done | rfl | (simp only [List.length_drop, List.length_take]; rfl)) ?_; (with_reducible refine (spec_ExtendByte.calls t210 t213 t214 _ A47.out).mono ?_); rintro e w' ⟨rfl, ⟨nd, rfl⟩⟩; refine ⟨_, rfl, ?_⟩) | ((with_reducible refine gate_callee (f := 11) rfl ?_); refine goesL_ (some 137) rfl rfl Try.func11 (by kernel_rfl) rfl #[.int .i64 t210] rfl (by (try simp only [List.map_toArray, List.map_cons, List.map_nil]); first | done | rfl | (simp only [List.length_drop, List.length_take]; rfl)) ?_; (with_reducible refine (impl_SignedOf.calls t210 t215 t216 _ A48.out).mono ?_); rintro e w' ⟨rfl, ⟨nd, rfl⟩⟩; refine ⟨_, rfl, ?_⟩) | ((with_reducible refine gate_callee (f := 17) rfl ?_); refine goesL_ (some 142) rfl rfl Try.func17 (by kernel_rfl) rfl #[.int .i64 t210] rfl (by (try simp only [List.map_toArray, List.map_cons, List.map_nil]); first | done | rfl | (simp only [List.length_drop, List.length_take]; rfl)) ?_; (with_reducible refine (spec_SignedOf.calls t210 t217 t218 _ A49.out).mono ?_); rintro e w' ⟨rfl, ⟨nd, rfl⟩⟩; refine ⟨_, rfl, ?_⟩) | ((with_reducible refine gate_callee (f := 12) rfl ?_); refine goesL_ (some 147) rfl rfl Try.func12 (by kernel_rfl) rfl #[.int .i64 t210] rfl (by (try simp only [List.map_toArray, List.map_cons, List.map_nil]); first | done | rfl | (simp only [List.length_drop, List.length_take]; rfl)) ?_; (with_reducible refine (impl_NegateWord.calls t210 t219 t220 _ A50.out).mono ?_); rintro e w' ⟨rfl, ⟨nd, rfl⟩⟩; refine ⟨_, rfl, ?_⟩) | ((with_reducible refine gate_callee (f := 18) rfl ?_); refine goesL_ (some 152) rfl rfl Try.func18 (by kernel_rfl) rfl #[.int .i64 t210] rfl (by (try simp only [List.map_toArray, List.map_cons, List.map_nil]); first | done | rfl | (simp only [List.length_drop, List.length_take]; rfl)) ?_; (with_reducible refine (spec_NegateWord.calls t210 t221 t222 _ A51.out).mono ?_); rintro e w' ⟨rfl, ⟨nd, rfl⟩⟩; refine ⟨_, rfl, ?_⟩))
                                        go_ret
                                        exact ⟨by first | rfl | (simp [errW_none, errW_some] <;> rfl) | (simp [*, errW_none, errW_some] <;> rfl), by repeat (first | (with_reducible first | exact HB.out | apply below_alloc | apply pw_below_drewN | apply below_drew1) | exact HB.out)⟩
                                    · rw [if_neg c57] at H
                                      exact absurd H (by simp)
                                · rw [if_neg c55] at H
                                  exact absurd H (by simp)
                            · rw [if_neg c53] at H
                              exact absurd H (by simp)
                        · rw [if_neg c44] at H
                          exact absurd H (by simp)
                    · replace c20 := Bool.eq_false_iff.mpr c20
                      subst c20
                      have H1 : (none) = some r := by rw [if_neg (show ¬ (false = true) by decide)] at H; exact H
                      clear H
                      have H := H1
                      clear H1
                      exact absurd H (by simp)
                  · replace c19 := Bool.eq_false_iff.mpr c19
                    subst c19
                    have H1 : (none) = some r := by rw [if_neg (show ¬ (false = true) by decide)] at H; exact H
                    clear H
                    have H := H1
                    clear H1
                    exact absurd H (by simp)
                · rw [if_neg c18] at H
                  exact absurd H (by simp)
            · replace c15 := Bool.eq_false_iff.mpr c15
              subst c15
              have H1 : (none) = some r := by rw [if_neg (show ¬ (false = true) by decide)] at H; exact H
              clear H
              have H := H1
              clear H1
              exact absurd H (by simp)
          · replace c14 := Bool.eq_false_iff.mpr c14
            subst c14
            have H1 : (none) = some r := by rw [if_neg (show ¬ (false = true) by decide)] at H; exact H
            clear H
            have H := H1
            clear H1
            exact absurd H (by simp)
        · replace c9 := Bool.eq_false_iff.mpr c9
          subst c9
          have H1 : ((spec_DrawExtendByte.f l1).bind fun t225 => ((impl_ExtendByte.f t225).bind fun bt226 => ((spec_ExtendByte.f t225).bind fun bt228 => ((impl_SignedOf.f t225).bind fun bt230 => ((spec_SignedOf.f t225).bind fun bt232 => ((impl_NegateWord.f t225).bind fun bt234 => ((spec_NegateWord.f t225).bind fun bt236 => (if (bt226.2 != bt228.2) = true then (none) else (if bt226.1 = bt228.1 then (if (bt230.2 != bt232.2) = true then (none) else (if bt230.1 = bt232.1 then (if (bt234.2 != bt236.2) = true then (none) else (if bt234.1 = bt236.1 then (if bt226.2 = true then ((impl_SignedOf.f bt226.1).bind fun bt238 => (if bt238.2 = true then (if bt238.1 ≥ (-128) then (if bt238.1 ≤ 127 then (some ((Int.tmod bt226.1 256) == (Int.tmod t225 256))) else (none)) else (none)) else (none))) else (some true)) else (none))) else (none))) else (none)))))))))) = some r := by rw [if_neg (show ¬ (false = true) by decide)] at H; exact H
          clear H
          have H := H1
          clear H1
          replace H := Option.bind_eq_some_iff.mp H
          obtain ⟨t225, A670, H⟩ := H
          replace H : ((impl_ExtendByte.f t225).bind fun bt226 => ((spec_ExtendByte.f t225).bind fun bt228 => ((impl_SignedOf.f t225).bind fun bt230 => ((spec_SignedOf.f t225).bind fun bt232 => ((impl_NegateWord.f t225).bind fun bt234 => ((spec_NegateWord.f t225).bind fun bt236 => (if (bt226.2 != bt228.2) = true then (none) else (if bt226.1 = bt228.1 then (if (bt230.2 != bt232.2) = true then (none) else (if bt230.1 = bt232.1 then (if (bt234.2 != bt236.2) = true then (none) else (if bt234.1 = bt236.1 then (if bt226.2 = true then ((impl_SignedOf.f bt226.1).bind fun bt238 => (if bt238.2 = true then (if bt238.1 ≥ (-128) then (if bt238.1 ≤ 127 then (some ((Int.tmod bt226.1 256) == (Int.tmod t225 256))) else (none)) else (none)) else (none))) else (some true)) else (none))) else (none))) else (none))))))))) = some r := H
          have A67 := Aside0.mk A670
          clear A670
          replace H := Option.bind_eq_some_iff.mp H
          obtain ⟨⟨t226, t227⟩, A680, H⟩ := H
          replace H : ((spec_ExtendByte.f t225).bind fun bt228 => ((impl_SignedOf.f t225).bind fun bt230 => ((spec_SignedOf.f t225).bind fun bt232 => ((impl_NegateWord.f t225).bind fun bt234 => ((spec_NegateWord.f t225).bind fun bt236 => (if (t227 != bt228.2) = true then (none) else (if t226 = bt228.1 then (if (bt230.2 != bt232.2) = true then (none) else (if bt230.1 = bt232.1 then (if (bt234.2 != bt236.2) = true then (none) else (if bt234.1 = bt236.1 then (if t227 = true then ((impl_SignedOf.f t226).bind fun bt238 => (if bt238.2 = true then (if bt238.1 ≥ (-128) then (if bt238.1 ≤ 127 then (some ((Int.tmod t226 256) == (Int.tmod t225 256))) else (none)) else (none)) else (none))) else (some true)) else (none))) else (none))) else (none)))))))) = some r := H
          have A68 := Aside0.mk A680
          clear A680
          replace H := Option.bind_eq_some_iff.mp H
          obtain ⟨⟨t228, t229⟩, A690, H⟩ := H
          replace H : ((impl_SignedOf.f t225).bind fun bt230 => ((spec_SignedOf.f t225).bind fun bt232 => ((impl_NegateWord.f t225).bind fun bt234 => ((spec_NegateWord.f t225).bind fun bt236 => (if (t227 != t229) = true then (none) else (if t226 = t228 then (if (bt230.2 != bt232.2) = true then (none) else (if bt230.1 = bt232.1 then (if (bt234.2 != bt236.2) = true then (none) else (if bt234.1 = bt236.1 then (if t227 = true then ((impl_SignedOf.f t226).bind fun bt238 => (if bt238.2 = true then (if bt238.1 ≥ (-128) then (if bt238.1 ≤ 127 then (some ((Int.tmod t226 256) == (Int.tmod t225 256))) else (none)) else (none)) else (none))) else (some true)) else (none))) else (none))) else (none))))))) = some r := H
          have A69 := Aside0.mk A690
          clear A690
          replace H := Option.bind_eq_some_iff.mp H
          obtain ⟨⟨t230, t231⟩, A700, H⟩ := H
          replace H : ((spec_SignedOf.f t225).bind fun bt232 => ((impl_NegateWord.f t225).bind fun bt234 => ((spec_NegateWord.f t225).bind fun bt236 => (if (t227 != t229) = true then (none) else (if t226 = t228 then (if (t231 != bt232.2) = true then (none) else (if t230 = bt232.1 then (if (bt234.2 != bt236.2) = true then (none) else (if bt234.1 = bt236.1 then (if t227 = true then ((impl_SignedOf.f t226).bind fun bt238 => (if bt238.2 = true then (if bt238.1 ≥ (-128) then (if bt238.1 ≤ 127 then (some ((Int.tmod t226 256) == (Int.tmod t225 256))) else (none)) else (none)) else (none))) else (some true)) else (none))) else (none))) else (none)))))) = some r := H
          have A70 := Aside0.mk A700
          clear A700
          replace H := Option.bind_eq_some_iff.mp H
          obtain ⟨⟨t232, t233⟩, A710, H⟩ := H
          replace H : ((impl_NegateWord.f t225).bind fun bt234 => ((spec_NegateWord.f t225).bind fun bt236 => (if (t227 != t229) = true then (none) else (if t226 = t228 then (if (t231 != t233) = true then (none) else (if t230 = t232 then (if (bt234.2 != bt236.2) = true then (none) else (if bt234.1 = bt236.1 then (if t227 = true then ((impl_SignedOf.f t226).bind fun bt238 => (if bt238.2 = true then (if bt238.1 ≥ (-128) then (if bt238.1 ≤ 127 then (some ((Int.tmod t226 256) == (Int.tmod t225 256))) else (none)) else (none)) else (none))) else (some true)) else (none))) else (none))) else (none))))) = some r := H
          have A71 := Aside0.mk A710
          clear A710
          replace H := Option.bind_eq_some_iff.mp H
          obtain ⟨⟨t234, t235⟩, A720, H⟩ := H
          replace H : ((spec_NegateWord.f t225).bind fun bt236 => (if (t227 != t229) = true then (none) else (if t226 = t228 then (if (t231 != t233) = true then (none) else (if t230 = t232 then (if (t235 != bt236.2) = true then (none) else (if t234 = bt236.1 then (if t227 = true then ((impl_SignedOf.f t226).bind fun bt238 => (if bt238.2 = true then (if bt238.1 ≥ (-128) then (if bt238.1 ≤ 127 then (some ((Int.tmod t226 256) == (Int.tmod t225 256))) else (none)) else (none)) else (none))) else (some true)) else (none))) else (none))) else (none)))) = some r := H
          have A72 := Aside0.mk A720
          clear A720
          replace H := Option.bind_eq_some_iff.mp H
          obtain ⟨⟨t236, t237⟩, A730, H⟩ := H
          replace H : (if (t227 != t229) = true then (none) else (if t226 = t228 then (if (t231 != t233) = true then (none) else (if t230 = t232 then (if (t235 != t237) = true then (none) else (if t234 = t236 then (if t227 = true then ((impl_SignedOf.f t226).bind fun bt238 => (if bt238.2 = true then (if bt238.1 ≥ (-128) then (if bt238.1 ≤ 127 then (some ((Int.tmod t226 256) == (Int.tmod t225 256))) else (none)) else (none)) else (none))) else (some true)) else (none))) else (none))) else (none))) = some r := H
          have A73 := Aside0.mk A730
          clear A730
          by_cases c74 : (t227 != t229) = true
          · rw [if_pos c74] at H
            exact absurd H (by simp)
          · rw [if_neg c74] at H
            have c74b0 : (t227 != t229) = false := by simpa using c74
            (try (have c74b1 : decide (t227 = t229) = true := by simpa using c74))
            (try (have c74b2 : (t227 == t229) = true := by simpa using c74))
            clear c74
            by_cases c75 : t226 = t228
            · rw [if_pos c75] at H
              have c75b0 : (t226 == t228) = true := beq_iff_eq.mpr c75
              have c75b1 : (t226 != t228) = false := bne_eq_false_iff_eq.mpr c75
              clear c75
              by_cases c76 : (t231 != t233) = true
              · rw [if_pos c76] at H
                exact absurd H (by simp)
              · rw [if_neg c76] at H
                have c76b0 : (t231 != t233) = false := by simpa using c76
                (try (have c76b1 : decide (t231 = t233) = true := by simpa using c76))
                (try (have c76b2 : (t231 == t233) = true := by simpa using c76))
                clear c76
                by_cases c77 : t230 = t232
                · rw [if_pos c77] at H
                  have c77b0 : (t230 == t232) = true := beq_iff_eq.mpr c77
                  have c77b1 : (t230 != t232) = false := bne_eq_false_iff_eq.mpr c77
                  clear c77
                  by_cases c78 : (t235 != t237) = true
                  · rw [if_pos c78] at H
                    exact absurd H (by simp)
                  · rw [if_neg c78] at H
                    have c78b0 : (t235 != t237) = false := by simpa using c78
                    (try (have c78b1 : decide (t235 = t237) = true := by simpa using c78))
                    (try (have c78b2 : (t235 == t237) = true := by simpa using c78))
                    clear c78
                    by_cases c79 : t234 = t236
                    · rw [if_pos c79] at H
                      have c79b0 : (t234 == t236) = true := beq_iff_eq.mpr c79
                      have c79b1 : (t234 != t236) = false := bne_eq_false_iff_eq.mpr c79
                      clear c79
                      by_cases c80 : t227 = true
                      · subst c80
                        have H1 : ((impl_SignedOf.f t226).bind fun bt238 => (if bt238.2 = true then (if bt238.1 ≥ (-128) then (if bt238.1 ≤ 127 then (some ((Int.tmod t226 256) == (Int.tmod t225 256))) else (none)) else (none)) else (none))) = some r := by rw [if_pos rfl] at H; exact H
                        clear H
                        have H := H1
                        clear H1
                        replace H := Option.bind_eq_some_iff.mp H
                        obtain ⟨⟨t238, t239⟩, A810, H⟩ := H
                        replace H : (if t239 = true then (if t238 ≥ (-128) then (if t238 ≤ 127 then (some ((Int.tmod t226 256) == (Int.tmod t225 256))) else (none)) else (none)) else (none)) = some r := H
                        have A81 := Aside0.mk A810
                        clear A810
                        by_cases c82 : t239 = true
                        · subst c82
                          have H1 : (if t238 ≥ (-128) then (if t238 ≤ 127 then (some ((Int.tmod t226 256) == (Int.tmod t225 256))) else (none)) else (none)) = some r := by rw [if_pos rfl] at H; exact H
                          clear H
                          have H := H1
                          clear H1
                          by_cases c83 : t238 ≥ (-128)
                          · rw [if_pos c83] at H
                            have c83b0 : decide ((-128) ≤ t238) = true := decide_eq_true c83
                            clear c83
                            by_cases c84 : t238 ≤ 127
                            · rw [if_pos c84] at H
                              have c84b0 : decide (t238 ≤ 127) = true := decide_eq_true c84
                              clear c84
                              obtain rfl := Option.some.inj H
                              go_enter Try.func3, Try.ntmps3
                              go_wp2_with (first | ((with_reducible refine gate_callee (f := 8) rfl ?_); refine goesL_ (some 42) rfl rfl Try.func8 (by kernel_rfl) rfl #[.slice A0 l0.length c0] rfl (by (try simp only [List.map_toArray, List.map_cons, List.map_nil]); first | done | rfl | (simp only [List.length_drop, List.length_take]; rfl)) ?_; (with_reducible refine (spec_DrawLessSigned.calls _ _ l0 t180 t181 _ ?side1 ?side2 A4.out).mono ?_); (case side1 => repeat (first | exact HR0.out | (with_reducible refine Kd.C_alloc ?_ _) | (with_reducible refine Kd.C_drewN ?_ _) | (with_reducible refine Kd.C_drew ?_))); (case side2 => exact HC0.out); rintro e w85 ⟨rfl, hb⟩; refine ⟨_, rfl, ?_⟩; obtain ⟨lo1, hi1, EL1, EH1, LE1⟩ := iv_ hb; have OR1 := Aside0.mk (show 0 ≤ lo1 ∧ lo1 ≤ hi1 from ⟨Nat.le_trans HTop.out (Nat.le_of_eq EL1), LE1⟩); have n0_ := Aside0.mk (Nat.le_of_eq EH1.symm); have n1_ := Aside0.mk (below_step (by repeat (first | (with_reducible first | exact HB.out | apply below_alloc | apply pw_below_drewN | apply below_drew1) | exact HB.out)) hb); clear HTop; clear HB; have HTop := n0_; have HB := n1_; clear n0_ n1_; (try clear hb); (try clear hb2); (try clear hk); (try clear hi); (try clear EL1); (try clear EH1); (try clear LE1)) | ((with_reducible refine gate_callee (f := 9) rfl ?_); refine goesL_ (some 48) rfl rfl Try.func9 (by kernel_rfl) rfl #[.int .i64 t180, .int .i64 t181] rfl (by (try simp only [List.map_toArray, List.map_cons, List.map_nil]); first | done | rfl | (simp only [List.length_drop, List.length_take]; rfl)) ?_; (with_reducible refine (impl_LessSigned.calls k t180 t181 t182 false _ A5.out).mono ?_); rintro e w' ⟨rfl, ⟨nd, rfl⟩⟩; refine ⟨_, rfl, ?_⟩) | ((with_reducible refine gate_callee (f := 10) rfl ?_); refine goesL_ (some 54) rfl rfl Try.func10 (by kernel_rfl) rfl #[.int .i64 t180, .int .i64 t181] rfl (by (try simp only [List.map_toArray, List.map_cons, List.map_nil]); first | done | rfl | (simp only [List.length_drop, List.length_take]; rfl)) ?_; (with_reducible refine (spec_LessSigned.calls k t180 t181 t184 t185 _ A6.out).mono ?_); rintro e w' ⟨rfl, ⟨nd, rfl⟩⟩; refine ⟨_, rfl, ?_⟩) | ((with_reducible refine gate_callee (f := 14) rfl ?_); refine goesL_ (some 124) rfl rfl Try.func14 (by kernel_rfl) rfl #[.slice A1 l1.length c1] rfl (by (try simp only [List.map_toArray, List.map_cons, List.map_nil]); first | done | rfl | (simp only [List.length_drop, List.length_take]; rfl)) ?_; (with_reducible refine (spec_DrawExtendByte.calls _ _ l1 t225 _ ?side1 ?side2 A67.out).mono ?_); (case side1 => repeat (first | exact (Kd.C_below HR1.out (by repeat (first | (with_reducible first | exact HB.out | apply below_alloc | apply pw_below_drewN | apply below_drew1) | exact HB.out))) | (with_reducible refine Kd.C_alloc ?_ _) | (with_reducible refine Kd.C_drewN ?_ _) | (with_reducible refine Kd.C_drew ?_))); (case side2 => exact HC1.out); rintro e w86 ⟨rfl, hb⟩; refine ⟨_, rfl, ?_⟩; obtain ⟨lo2, hi2, EL2, EH2, LE2⟩ := iv_ hb; have OR2 := Aside0.mk (show hi1 ≤ lo2 ∧ lo2 ≤ hi2 from ⟨Nat.le_trans HTop.out (Nat.le_of_eq EL2), LE2⟩); have n0_ := Aside0.mk (Nat.le_of_eq EH2.symm); have n1_ := Aside0.mk (below_step (by repeat (first | (with_reducible first | exact HB.out | apply below_alloc | apply pw_below_drewN | apply below_drew1) | exact HB.out)) hb); clear HTop; clear HB; have HTop := n0_; have HB := n1_; clear n0_ n1_; (try clear hb); (try clear hb2); (try clear hk); (try clear hi); (try clear EL2); (try clear EH2); (try clear LE2)) | ((with_reducible refine gate_callee (f := 15) rfl ?_); refine goesL_ (some 127) rfl rfl Try.func15 (by kernel_rfl) rfl #[.int .i64 t225] rfl (by (try simp only [List.map_toArray, List.map_cons, List.map_nil]); first | done | rfl | (simp only [List.length_drop, List.length_take]; rfl)) ?_; (with_reducible refine (impl_ExtendByte.calls t225 t226 true _ A68.out).mono ?_); rintro e w' ⟨rfl, ⟨nd, rfl⟩⟩; refine ⟨_, rfl, ?_⟩) | ((with_reducible refine gate_callee (f := 16) rfl ?_); refine goesL_ (some 132) rfl rfl Try.func16 (by kernel_rfl) rfl #[.int .i64 t225] rfl (by (try simp only [List.map_toArray, List.map_cons, List.map_nil]); first | done | rfl | (simp only [List.length_drop, List.length_take]; rfl)) ?_; (with_reducible refine (spec_ExtendByte.calls t225 t228 t229 _ A69.out).mono ?_); rintro e w' ⟨rfl, ⟨nd, rfl⟩⟩; refine ⟨_, rfl, ?_⟩) | ((with_reducible refine gate_callee (f := 11) rfl ?_); refine goesL_ (some 137) rfl rfl Try.func11 (by kernel_rfl) rfl #[.int .i64 t225] rfl (by (try simp only [List.map_toArray, List.map_cons, List.map_nil]); first | done | rfl | (simp only [List.length_drop, List.length_take]; rfl)) ?_; (with_reducible refine (impl_SignedOf.calls t225 t230 t231 _ A70.out).mono ?_); rintro e w' ⟨rfl, ⟨nd, rfl⟩⟩; refine ⟨_, rfl, ?_⟩) | ((with_reducible refine gate_callee (f := 17) rfl ?_); refine goesL_ (some 142) rfl rfl Try.func17 (by kernel_rfl) rfl #[.int .i64 t225] rfl (by (try simp only [List.map_toArray, List.map_cons, List.map_nil]); first | done | rfl | (simp only [List.length_drop, List.length_take]; rfl)) ?_; (with_reducible refine (spec_SignedOf.calls t225 t232 t233 _ A71.out).mono ?_); rintro e w' ⟨rfl, ⟨nd, rfl⟩⟩; refine ⟨_, rfl, ?_⟩) | ((with_reducible refine gate_callee (f := 12) rfl ?_); refine goesL_ (some 147) rfl rfl Try.func12 (by kernel_rfl) rfl #[.int .i64 t225] rfl (by (try simp only [List.map_toArray, List.map_cons, List.map_nil]); first | done | rfl | (simp only [List.length_drop, List.length_take]; rfl)) ?_; (with_reducible refine (impl_NegateWord.calls t225 t234 t235 _ A72.out).mono ?_); rintro e w' ⟨rfl, ⟨nd, rfl⟩⟩; refine ⟨_, rfl, ?_⟩) | ((with_reducible refine gate_callee (f := 18) rfl ?_); refine goesL_ (some 152) rfl rfl Try.func18 (by kernel_rfl) rfl #[.int .i64 t225] rfl (by (try simp only [List.map_toArray, List.map_cons, List.map_nil]); first | done | rfl | (simp only [List.length_drop, List.length_take]; rfl)) ?_; (with_reducible refine (spec_NegateWord.calls t225 t236 t237 _ A73.out).mono ?_); rintro e w' ⟨rfl, ⟨nd, rfl⟩⟩; refine ⟨_, rfl, ?_⟩) | ((with_reducible refine gate_callee (f := 11) rfl ?_); refine goesL_ (some 186) rfl rfl Try.func11 (by kernel_rfl) rfl #[.int .i64 t226] rfl (by (try simp only [List.map_toArray, List.map_cons, List.map_nil]); first | done | rfl | (simp only [List.length_drop, List.length_take]; rfl)) ?_; (with_reducible refine (impl_SignedOf.calls t226 t238 true _ A81.out).mono ?_); rintro e w' ⟨rfl, ⟨nd, rfl⟩⟩; refine ⟨_, rfl, ?_⟩))
                              go_ret
                              exact ⟨by first | rfl | (simp [errW_none, errW_some] <;> rfl) | (simp [*, errW_none, errW_some] <;> rfl), by repeat (first | (with_reducible first | exact HB.out | apply below_alloc | apply pw_below_drewN | apply below_drew1) | exact HB.out)⟩
                            · rw [if_neg c84] at H
                              exact absurd H (by simp)
                          · rw [if_neg c83] at H
                            exact absurd H (by simp)
                        · replace c82 := Bool.eq_false_iff.mpr c82
                          subst c82
                          have H1 : (none) = some r := by rw [if_neg (show ¬ (false = true) by decide)] at H; exact H
                          clear H
                          have H := H1
                          clear H1
                          exact absurd H (by simp)
                      · replace c80 := Bool.eq_false_iff.mpr c80
                        subst c80
                        have H1 : (some true) = some r := by rw [if_neg (show ¬ (false = true) by decide)] at H; exact H
                        clear H
                        have H := H1
                        clear H1
                        obtain rfl := Option.some.inj H
                        go_enter Try.func3, Try.ntmps3
                        go_wp2_with (first | ((with_reducible refine gate_callee (f := 8) rfl ?_); refine goesL_ (some 42) rfl rfl Try.func8 (by kernel_rfl) rfl #[.slice A0 l0.length c0] rfl (by (try simp only [List.map_toArray, List.map_cons, List.map_nil]); first | done | rfl | (simp only [List.length_drop, List.length_take]; rfl)) ?_; (with_reducible refine (spec_DrawLessSigned.calls _ _ l0 t180 t181 _ ?side1 ?side2 A4.out).mono ?_); (case side1 => repeat (first | exact HR0.out | (with_reducible refine Kd.C_alloc ?_ _) | (with_reducible refine Kd.C_drewN ?_ _) | (with_reducible refine Kd.C_drew ?_))); (case side2 => exact HC0.out); rintro e w87 ⟨rfl, hb⟩; refine ⟨_, rfl, ?_⟩; obtain ⟨lo1, hi1, EL1, EH1, LE1⟩ := iv_ hb; have OR1 := Aside0.mk (show 0 ≤ lo1 ∧ lo1 ≤ hi1 from ⟨Nat.le_trans HTop.out (Nat.le_of_eq EL1), LE1⟩); have n0_ := Aside0.mk (Nat.le_of_eq EH1.symm); have n1_ := Aside0.mk (below_step (by repeat (first | (with_reducible first | exact HB.out | apply below_alloc | apply pw_below_drewN | apply below_drew1) | exact HB.out)) hb); clear HTop; clear HB; have HTop := n0_; have HB := n1_; clear n0_ n1_; (try clear hb); (try clear hb2); (try clear hk); (try clear hi); (try clear EL1); (try clear EH1); (try clear LE1)) | ((with_reducible refine gate_callee (f := 9) rfl ?_); refine goesL_ (some 48) rfl rfl Try.func9 (by kernel_rfl) rfl #[.int .i64 t180, .int .i64 t181] rfl (by (try simp only [List.map_toArray, List.map_cons, List.map_nil]); first | done | rfl | (simp only [List.length_drop, List.length_take]; rfl)) ?_; (with_reducible refine (impl_LessSigned.calls k t180 t181 t182 false _ A5.out).mono ?_); rintro e w' ⟨rfl, ⟨nd, rfl⟩⟩; refine ⟨_, rfl, ?_⟩) | ((with_reducible refine gate_callee (f := 10) rfl ?_); refine goesL_ (some 54) rfl rfl Try.func10 (by kernel_rfl) rfl #[.int .i64 t180, .int .i64 t181] rfl (by (try simp only [List.map_toArray, List.map_cons, List.map_nil]); first | done | rfl | (simp only [List.length_drop, List.length_take]; rfl)) ?_; (with_reducible refine (spec_LessSigned.calls k t180 t181 t184 t185 _ A6.out).mono ?_); rintro e w' ⟨rfl, ⟨nd, rfl⟩⟩; refine ⟨_, rfl, ?_⟩) | ((with_reducible refine gate_callee (f := 14) rfl ?_); refine goesL_ (some 124) rfl rfl Try.func14 (by kernel_rfl) rfl #[.slice A1 l1.length c1] rfl (by (try simp only [List.map_toArray, List.map_cons, List.map_nil]); first | done | rfl | (simp only [List.length_drop, List.length_take]; rfl)) ?_; (with_reducible refine (spec_DrawExtendByte.calls _ _ l1 t225 _ ?side1 ?side2 A67.out).mono ?_); (case side1 => repeat (first | exact (Kd.C_below HR1.out (by repeat (first | (with_reducible first | exact HB.out | apply below_alloc | apply pw_below_drewN | apply below_drew1) | exact HB.out))) | (with_reducible refine Kd.C_alloc ?_ _) | (with_reducible refine Kd.C_drewN ?_ _) | (with_reducible refine Kd.C_drew ?_))); (case side2 => exact HC1.out); rintro e w88 ⟨rfl, hb⟩; refine ⟨_, rfl, ?_⟩; obtain ⟨lo2, hi2, EL2, EH2, LE2⟩ := iv_ hb; have OR2 := Aside0.mk (show hi1 ≤ lo2 ∧ lo2 ≤ hi2 from ⟨Nat.le_trans HTop.out (Nat.le_of_eq EL2), LE2⟩); have n0_ := Aside0.mk (Nat.le_of_eq EH2.symm); have n1_ := Aside0.mk (below_step (by repeat (first | (with_reducible first | exact HB.out | apply below_alloc | apply pw_below_drewN | apply below_drew1) | exact HB.out)) hb); clear HTop; clear HB; have HTop := n0_; have HB := n1_; clear n0_ n1_; (try clear hb); (try clear hb2); (try clear hk); (try clear hi); (try clear EL2); (try clear EH2); (try clear LE2)) | ((with_reducible refine gate_callee (f := 15) rfl ?_); refine goesL_ (some 127) rfl rfl Try.func15 (by kernel_rfl) rfl #[.int .i64 t225] rfl (by (try simp only [List.map_toArray, List.map_cons, List.map_nil]); first | done | rfl | (simp only [List.length_drop, List.length_take]; rfl)) ?_; (with_reducible refine (impl_ExtendByte.calls t225 t226 false _ A68.out).mono ?_); rintro e w' ⟨rfl, ⟨nd, rfl⟩⟩; refine ⟨_, rfl, ?_⟩) | ((with_reducible refine gate_callee (f := 16) rfl ?_); refine goesL_ (some 132) rfl rfl Try.func16 (by kernel_rfl) rfl #[.int .i64 t225] rfl (by (try simp only [List.map_toArray, List.map_cons, List.map_nil]); first | done | rfl | (simp only [List.length_drop, List.length_take]; rfl)) ?_; (with_reducible refine (spec_ExtendByte.calls t225 t228 t229 _ A69.out).mono ?_); rintro e w' ⟨rfl, ⟨nd, rfl⟩⟩; refine ⟨_, rfl, ?_⟩) | ((with_reducible refine gate_callee (f := 11) rfl ?_); refine goesL_ (some 137) rfl rfl Try.func11 (by kernel_rfl) rfl #[.int .i64 t225] rfl (by (try simp only [List.map_toArray, List.map_cons, List.map_nil]); first | done | rfl | (simp only [List.length_drop, List.length_take]; rfl)) ?_; (with_reducible refine (impl_SignedOf.calls t225 t230 t231 _ A70.out).mono ?_); rintro e w' ⟨rfl, ⟨nd, rfl⟩⟩; refine ⟨_, rfl, ?_⟩) | ((with_reducible refine gate_callee (f := 17) rfl ?_); refine goesL_ (some 142) rfl rfl Try.func17 (by kernel_rfl) rfl #[.int .i64 t225] rfl (by (try simp only [List.map_toArray, List.map_cons, List.map_nil]); first | done | rfl | (simp only [List.length_drop, List.length_take]; rfl)) ?_; (with_reducible refine (spec_SignedOf.calls t225 t232 t233 _ A71.out).mono ?_); rintro e w' ⟨rfl, ⟨nd, rfl⟩⟩; refine ⟨_, rfl, ?_⟩) | ((with_reducible refine gate_callee (f := 12) rfl ?_); refine goesL_ (some 147) rfl rfl Try.func12 (by kernel_rfl) rfl #[.int .i64 t225] rfl (by (try simp only [List.map_toArray, List.map_cons, List.map_nil]); first | done | rfl | (simp only [List.length_drop, List.length_take]; rfl)) ?_; (with_reducible refine (impl_NegateWord.calls t225 t234 t235 _ A72.out).mono ?_); rintro e w' ⟨rfl, ⟨nd, rfl⟩⟩; refine ⟨_, rfl, ?_⟩) | ((with_reducible refine gate_callee (f := 18) rfl ?_); refine goesL_ (some 152) rfl rfl Try.func18 (by kernel_rfl) rfl #[.int .i64 t225] rfl (by (try simp only [List.map_toArray, List.map_cons, List.map_nil]); first | done | rfl | (simp only [List.length_drop, List.length_take]; rfl)) ?_; (with_reducible refine (spec_NegateWord.calls t225 t236 t237 _ A73.out).mono ?_); rintro e w' ⟨rfl, ⟨nd, rfl⟩⟩; refine ⟨_, rfl, ?_⟩))
                        go_ret
                        exact ⟨by first | rfl | (simp [errW_none, errW_some] <;> rfl) | (simp [*, errW_none, errW_some] <;> rfl), by repeat (first | (with_reducible first | exact HB.out | apply below_alloc | apply pw_below_drewN | apply below_drew1) | exact HB.out)⟩
                    · rw [if_neg c79] at H
                      exact absurd H (by simp)
                · rw [if_neg c77] at H
                  exact absurd H (by simp)
            · rw [if_neg c75] at H
              exact absurd H (by simp)

/-- THE ONE PURE STATEMENT of laws_FnSigns: yours. -/
def laws_FnSigns.Pure : Prop := ∀ (l0 : List Int) (l1 : List Int), l0.length ≤ maxLen → l0.length * 1 ≤ 140737488351232 → (∀ x ∈ l0, (Lit.int .u8 x).wf = true) → l1.length ≤ maxLen → l1.length * 1 ≤ 140737488351232 → (∀ x ∈ l1, (Lit.int .u8 x).wf = true) → ∃ k, laws_FnSigns.f k l0 l1 = some true
theorem laws_FnSigns.walk (P : laws_FnSigns.Pure) (a0 : Option Addr) (len0 cap0 : Nat) (z0 : List Int) (a1 : Option Addr) (len1 cap1 : Nat) (z1 : List Int) (w : World) (w0 : (a0 = none ∧ len0 = 0 ∧ cap0 = 0 ∧ z0 = []) ∨ ∃ x, a0 = some x ∧ len0 ≤ cap0 ∧ cap0 ≤ maxLen ∧ z0.length = cap0 ∧ (∀ i, i < z0.length → w.cell? (x.add i) = some (.int .u8 (z0.getD i 0))) ∧ ∀ n ∈ z0, (Lit.int .u8 n).wf = true) (y0 : len0 * 1 ≤ 140737488351232) (w1 : (a1 = none ∧ len1 = 0 ∧ cap1 = 0 ∧ z1 = []) ∨ ∃ x, a1 = some x ∧ len1 ≤ cap1 ∧ cap1 ≤ maxLen ∧ z1.length = cap1 ∧ (∀ i, i < z1.length → w.cell? (x.add i) = some (.int .u8 (z1.getD i 0))) ∧ ∀ n ∈ z1, (Lit.int .u8 n).wf = true) (y1 : len1 * 1 ≤ 140737488351232) :
    Calls Try.prog 3 #[.slice a0 len0 cap0, .slice a1 len1 cap1] w fun e w' => e = .returned (.bool true) ∧ Below w.heap.size w w' := by
  obtain ⟨l0, rfl, hr0, hm0, hw0, hc0⟩ := ReadsInt.ofRowC w0
  obtain ⟨l1, rfl, hr1, hm1, hw1, hc1⟩ := ReadsInt.ofRowC w1
  obtain ⟨k, h⟩ := P l0 l1 hm0 y0 hw0 hm1 y1 hw1
  refine (laws_FnSigns.calls k _ _ l0 _ _ l1 true w (Kd.C_of_reads (d := (0 : Int)) (h1 := fun _ => rfl) hr0) hc0 (Kd.C_of_reads (d := (0 : Int)) (h1 := fun _ => rfl) hr1) hc1 h).mono ?_
  rintro e w' ⟨rfl, hd⟩
  exact ⟨rfl, hd⟩

end Go.Proofs.Ytpkbjgmeejlchaa.PFnSigns
