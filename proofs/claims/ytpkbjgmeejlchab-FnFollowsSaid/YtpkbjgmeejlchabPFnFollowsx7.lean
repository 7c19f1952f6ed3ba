-- Made by a program of this session (wip/tools), which leans on the kit's print: checked by Lean alone.
import Derived.Test.YtpkbjgmeejlchabPFnFollowsx0
import Derived.Test.YtpkbjgmeejlchabPFnFollowsx6
namespace Go.Proofs.Ytpkbjgmeejlchab.PFnFollows
open Go.RowKit Go.Proofs.YtpkbjgmeejlchabW.PrintWords Go.Proofs.YtpkbjgmeejlchabW.PrintLast Go.Proofs.YtpkbjgmeejlchabW.PrintMore
attribute [local go_sem] max2_int min2_int max_two min_two max_three min_three max_four min_four   -- for this text's walks alone
set_option linter.unusedVariables false
set_option linter.unusedSimpArgs false
def impl_decide.l0 : Nat → Int → List Int → Int → Option (Int × Bool)
 | 0, _, _, _ => none
 | k + 1, x0, x1, x6 => if x6 ≤ x0 then ((slices_Contains_int_int.f x1 x6).bind fun t257 => (if t257 = true then (impl_decide.l0 k x0 x1 (wrap64 (x6 + 1))) else ((slices_Contains_int_int.f x1 (wrap64 (-x6))).bind fun t258 => (if t258 = true then (impl_decide.l0 k x0 x1 (wrap64 (x6 + 1))) else (some (x6, true)))))) else (some (0, false))
def impl_decide.f (k : Nat) (a0 : Int) (l1 : List Int) : Option (Int × Bool) := impl_decide.l0 k a0 l1 1
theorem impl_decide.mono_l : ∀ k, (∀ y0 y1 y2, LeO (impl_decide.l0 k y0 y1 y2) (impl_decide.l0 (k + 1) y0 y1 y2))
 | 0 => fun _ _ _ r h => by simp [impl_decide.l0] at h
 | k + 1 => by
  have ih0 := impl_decide.mono_l k
  ·intro y0 y1 y2
   unfold impl_decide.l0
   repeat' first
   | (with_reducible exact ih0 _ _ _)
   | (with_reducible exact LeO.refl _)
   | (with_reducible exact LeO.none _)
   | (with_reducible refine LeO.ite ?_ ?_)
   | (with_reducible refine LeO.bind ?_ (fun _ => ?_))
   | exact ih0 _ _ _
   | exact LeO.none _
   | refine LeO.ite ?_ ?_
   | refine LeO.bind ?_ (fun _ => ?_)
theorem impl_decide.mono : ∀ a0 a1 k, LeO (impl_decide.f k a0 a1) (impl_decide.f (k + 1) a0 a1) := by
 intro a0 a1 k
 have ih0 := impl_decide.mono_l k
 unfold impl_decide.f
 repeat' first
   | (with_reducible exact ih0 _ _ _)
   | (with_reducible exact LeO.refl _)
   | (with_reducible exact LeO.none _)
   | (with_reducible refine LeO.ite ?_ ?_)
   | (with_reducible refine LeO.bind ?_ (fun _ => ?_))
   | exact ih0 _ _ _
   | exact LeO.none _
   | refine LeO.ite ?_ ?_
   | refine LeO.bind ?_ (fun _ => ?_)
set_option maxHeartbeats 8000000 in
set_option maxRecDepth 100000 in
theorem impl_decide.calls (k : Nat) (a0 : Int) (A1 : Option Addr) (c1 : Nat) (l1 : List Int) (r1 : Int) (r2 : Bool) (w : World) (hr1 : Kd.C (Kd.int .i64) w A1 l1.length l1) (hc1 : l1.length ≤ c1) (h : impl_decide.f k a0 l1 = some (r1, r2)) :
  Calls Try.prog 63 #[.int .i64 a0, .slice A1 l1.length c1] w fun e w' => e = .returned (.tuple #[.int .i64 r1, .bool r2]) ∧ Drawn0 w w' := by
 have HR1 := Aside0.mk hr1
 have HC1 := Aside0.mk hc1
 clear hr1 hc1
 have H : (impl_decide.l0 k a0 l1 1) = some (r1, r2) := h
 clear h
 have H' := Aside0.mk H
 clear H
 go_enter Try.func63, Try.ntmps63
 go_wp2
 go_loopg [6] k (fun kq v6 w' => ∃ (x6_1 : Int), v6 = .int .i64 x6_1 ∧ Aside0 (impl_decide.l0 kq a0 l1 x6_1 = some (r1, r2)) ∧ Aside0 (kq ≤ k) ∧ Drawn0 w w')
 case atStart => exact ⟨(1), (by first | rfl | (simp; done) | (simp [*]; done)), H', ⟨Nat.le_refl _⟩, by repeat (first | exact Drawn0.refl _ | apply Drawn0.step)⟩
 case round =>
  clear H'
  try clear c1
  try clear p2
  obtain ⟨x6_1, rfl, HA, HK1, ⟨m1, rfl⟩⟩ := hrel
  cases gk with
  | zero => exact absurd HA.out (by simp [impl_decide.l0])
  | succ k1 =>
   have H := HA.out
   clear HA
   simp only [impl_decide.l0] at H
   by_cases c3 : x6_1 ≤ a0
   ·rw [if_pos c3] at H
    have c3b0 : decide (x6_1 ≤ a0) = true := decide_eq_true c3
    clear c3
    replace H := Option.bind_eq_some_iff.mp H
    obtain ⟨t257, A40, H⟩ := H
    (try dsimp only at H)
    have A4 := Aside0.mk A40
    clear A40
    by_cases c5 : t257 = true
    ·subst c5
     have H1 : (impl_decide.l0 k1 a0 l1 (wrap64 (x6_1 + 1))) = some (r1, r2) := by rw [if_pos rfl] at H; exact H
     clear H
     have H := H1
     clear H1
     have H' := Aside0.mk H
     clear H
     go_wp2_with (first | ((with_reducible refine gate_callee (f := 67) rfl ?_); refine goesL_ (some 14) rfl rfl Try.func67 (by kernel_rfl) rfl #[.slice A1 l1.length c1, .int .i64 x6_1] rfl (by simp only [zA_, zB_, zD_] <;> rfl) ?_; (with_reducible refine (slices_Contains_int_int.calls _ _ l1 x6_1 true _ ?side1 ?side2 A4.out).mono ?_); (case side1 => exact zC_ HR1.out); (case side2 => exact HC1.out); rintro e w' ⟨rfl, ⟨nd, rfl⟩⟩; refine ⟨_, rfl, ?_⟩))
     go_roundg k1
     case measure => have := HK1.out; omega
     case rel => exact ⟨(wrap64 (x6_1 + 1)), (by first | rfl | (simp; done) | (simp [*]; done)), H', ⟨by have := HK1.out; omega⟩, by repeat (first | exact Drawn0.refl _ | apply Drawn0.step)⟩
    ·replace c5 := Bool.eq_false_iff.mpr c5
     subst c5
     have H1 : ((slices_Contains_int_int.f l1 (wrap64 (-x6_1))).bind fun t258 => (if t258 = true then (impl_decide.l0 k1 a0 l1 (wrap64 (x6_1 + 1))) else (some (x6_1, true)))) = some (r1, r2) := by rw [if_neg (show ¬ (false = true) by decide)] at H; exact H
     clear H
     have H := H1
     clear H1
     replace H := Option.bind_eq_some_iff.mp H
     obtain ⟨t258, A60, H⟩ := H
     (try dsimp only at H)
     have A6 := Aside0.mk A60
     clear A60
     by_cases c7 : t258 = true
     ·subst c7
      have H1 : (impl_decide.l0 k1 a0 l1 (wrap64 (x6_1 + 1))) = some (r1, r2) := by rw [if_pos rfl] at H; exact H
      clear H
      have H := H1
      clear H1
      have H' := Aside0.mk H
      clear H
      go_wp2_with (first | ((with_reducible refine gate_callee (f := 67) rfl ?_); refine goesL_ (some 14) rfl rfl Try.func67 (by kernel_rfl) rfl #[.slice A1 l1.length c1, .int .i64 x6_1] rfl (by simp only [zA_, zB_, zD_] <;> rfl) ?_; (with_reducible refine (slices_Contains_int_int.calls _ _ l1 x6_1 false _ ?side1 ?side2 A4.out).mono ?_); (case side1 => exact zC_ HR1.out); (case side2 => exact HC1.out); rintro e w' ⟨rfl, ⟨nd, rfl⟩⟩; refine ⟨_, rfl, ?_⟩) | (go_at_call 67; (with_reducible refine (slices_Contains_int_int.calls _ _ l1 (wrap64 (-x6_1)) true _ ?side1 ?side2 A6.out).mono ?_); (case side1 => exact zC_ HR1.out); (case side2 => exact HC1.out); rintro e w' ⟨rfl, ⟨nd, rfl⟩⟩))
      go_roundg k1
      case measure => have := HK1.out; omega
      case rel => exact ⟨(wrap64 (x6_1 + 1)), (by first | rfl | (simp; done) | (simp [*]; done)), H', ⟨by have := HK1.out; omega⟩, by repeat (first | exact Drawn0.refl _ | apply Drawn0.step)⟩
     ·replace c7 := Bool.eq_false_iff.mpr c7
      subst c7
      have H1 : (some (x6_1, true)) = some (r1, r2) := by rw [if_neg (show ¬ (false = true) by decide)] at H; exact H
      clear H
      have H := H1
      clear H1
      simp only [Option.some.injEq, Prod.mk.injEq] at H
      obtain ⟨rfl, rfl⟩ := H
      go_wp2_with (first | ((with_reducible refine gate_callee (f := 67) rfl ?_); refine goesL_ (some 14) rfl rfl Try.func67 (by kernel_rfl) rfl #[.slice A1 l1.length c1, .int .i64 x6_1] rfl (by simp only [zA_, zB_, zD_] <;> rfl) ?_; (with_reducible refine (slices_Contains_int_int.calls _ _ l1 x6_1 false _ ?side1 ?side2 A4.out).mono ?_); (case side1 => exact zC_ HR1.out); (case side2 => exact HC1.out); rintro e w' ⟨rfl, ⟨nd, rfl⟩⟩; refine ⟨_, rfl, ?_⟩) | (go_at_call 67; (with_reducible refine (slices_Contains_int_int.calls _ _ l1 (wrap64 (-x6_1)) false _ ?side1 ?side2 A6.out).mono ?_); (case side1 => exact zC_ HR1.out); (case side2 => exact HC1.out); rintro e w' ⟨rfl, ⟨nd, rfl⟩⟩))
      go_ret2
      exact ⟨by first | rfl | (simp; done) | (simp [*]; done), by repeat (first | exact Drawn0.refl _ | apply Drawn0.step)⟩
   ·rw [if_neg c3] at H
    have c3b0 : decide (x6_1 ≤ a0) = false := decide_eq_false c3
    clear c3
    simp only [Option.some.injEq, Prod.mk.injEq] at H
    obtain ⟨rfl, rfl⟩ := H
    go_wp2
    go_ret2
    exact ⟨by first | rfl | (simp; done) | (simp [*]; done), by repeat (first | exact Drawn0.refl _ | apply Drawn0.step)⟩
def slices_Clone_int_int.f (l0 : List Int) : Option (List Int) := if l0.length < 17592186044416 then some l0 else none
set_option maxHeartbeats 8000000 in
set_option maxRecDepth 100000 in
theorem slices_Clone_int_int.calls (A0 : Option Addr) (c0 : Nat) (l0 : List Int) (r : List Int) (w : World) (hr0 : Kd.C (Kd.int .i64) w A0 l0.length l0) (hc0 : l0.length ≤ c0) (h : slices_Clone_int_int.f l0 = some r) :
  Calls Try.prog 106 #[.slice A0 l0.length c0] w fun e w' => ∃ v0_ : Value, e = .returned (v0_) ∧ Kd.R (Kd.int .i64) 3 w' w.heap.size (fun _ => True) v0_ r ∧ Below w.heap.size w w' := by
 have HR1 := Aside0.mk hr0
 have HC1 := Aside0.mk hc0
 clear hc0
 have HB := Aside0.mk (Below.refl w.heap.size w)
 unfold slices_Clone_int_int.f at h
 by_cases c3 : l0.length < 17592186044416
 ·rw [if_pos c3] at h
  obtain rfl := Option.some.inj h
  have LMc3 := Aside0.mk c3
  clear h c3
  have hnil : ∀ w : World, (binOp .eql 24 (.slice A0 l0.length c0) (.slice none 0 0)).run Try.prog w = .ok (.bool A0.isNone) w := fun w => Lib.run_eql_slice_nil w 24 3 A0 l0.length c0 0 0 Try.underlying24
  cases A0 with
  | none =>
   have he : l0 = [] := by
    rcases Nat.eq_zero_or_pos l0.length with h0 | h0
    ·exact List.eq_nil_of_length_eq_zero h0
    ·obtain ⟨ad, e, _⟩ := hr0.2.2 h0
     cases e
   clear hr0 HR1
   subst he
   simp only [Option.isNone_none, List.length_nil] at hnil
   go_enter Try.func106, Try.ntmps106
   go_wp2
   go_ret
   exact ⟨_, rfl, Kd.R_nil _ _ _ _ _, zb_ HB.out⟩
  | some ad =>
   clear hr0
   simp only [Option.isNone_some] at hnil
   obtain ⟨y139, hy139⟩ : ∃ y_ : List Int, y_ = (([] : List Int)) := ⟨_, rfl⟩
   have LM := Aside0.mk (show y139.length + l0.length < 17592186044416 by rw [hy139]; simpa using LMc3.out)
   have Ny139 := Aside0.mk hy139
   obtain ⟨y142, hy142⟩ : ∃ y_ : List Int, y_ = (y139 ++ l0) := ⟨_, rfl⟩
   have Ny142 := Aside0.mk hy142
   have HE := Aside0.mk (show y142 = l0 by rw [hy142, hy139]; rfl)
   clear hy139 hy142 LMc3
   go_enter Try.func106, Try.ntmps106
   go_wp2_with (first | ((with_reducible refine gate_dst (N := 5) rfl ?_); refine Kd.R_lit (Kd.int .i64) _ 3 ?hg (N := 5) ?hd (xs := ([] : List Int)) (inner := []) (ok := fun _ => True) (okp := fun _ => True) ?hr ?hp (fun _ hk => hk) trivial (Below.refl _ _) (Nat.le_refl _) (by simp) ?_; (case hd => rfl); (case hg => rfl); (case hr => first | (go_simp; done) | (go_simp; rfl)); (case hp => exact (Reps.none _ _)); intro v140 w4 ho5 hb hg_ hnew_; clear hg_ hnew_; rw [← Ny139.out] at ho5; have n0_ := Aside0.mk (Kd.R_lower ho5 (below_size (zb_ HB.out))); have n1_ := Aside0.mk (below_step (zb_ HB.out) hb); clear HB; have HO141 := n0_; have HB := n1_; clear n0_ n1_; clear hb ho5) | ((with_reducible refine gate_builtin (b := .append) (xs := #[.tmp 5, .tmp 6]) rfl ?_); at_builtin; refine Kd.R_append_rows (Kd.int .i64) (w0 := w) w.heap.size rfl (.tmp 5) (.tmp 6) 24 3 (.int .i64 0) 8 rfl Try.underlying24 info3 rfl (by decide) (by omega) v140 y139 l0 _ _ _ (fun _ => True) (fun _ => False) rfl rfl ?aO ?aR (fun _ _ h => h) (fun _ h => h.elim) ?aF ?aB ?aS ?aL ?_; (case aR => exact zC_ (Kd.C_below HR1.out HB.out)); (case aB => exact (zb_ HB.out)); (case aF => exact (fun _ _ => trivial)); (case aO => exact (zR_ HO141.out)); (case aS => exact (below_size (zb_ HB.out))); (case aL => have := LM.out; omega); intro v143 w6 ho hb hg hat; rw [← Ny142.out] at ho; have n0_ := Aside0.mk (hb); have n1_ := Aside0.mk (ho); clear HB; clear HO141; have HB := n0_; have HO144 := n1_; clear n0_ n1_; clear ho hb hg hat))
   go_ret
   exact ⟨_, rfl, by rw [← HE.out]; (with_reducible repeat (first | apply Kd.R_alloc | apply Kd.R_drewN | apply Kd.R_drew)); exact HO144.out, zb_ HB.out⟩
 ·rw [if_neg c3] at h
  exact absurd h (by simp)
set_option maxHeartbeats 8000000 in
set_option maxRecDepth 100000 in
theorem impl_meets_1_calls (n : Int) (B : Nat) (A : Option Addr) (c : Nat) (m : List Int) (w : World) (hr : Kd.C (Kd.int .i64) w A m.length m) (hl : m.length ≤ c) (hc : w.cell? ⟨B, 0, none⟩ = some (.slice A m.length c)) :
  Calls Try.prog 118 (#[.int .i64 n] ++ #[.pointer (some ⟨B, 0, none⟩)]) w fun e w' => e = .returned (.bool (m.any fun y => n == y)) ∧ ∃ q, w' = w.drewN q := by
 obtain ⟨b, hb⟩ : ∃ b, (m.any fun y => n == y) = b := ⟨_, rfl⟩
 have HV := Aside0.mk (show slices_Contains_int_int.f m n = some b by unfold slices_Contains_int_int.f; rw [hb])
 have HR := Aside0.mk hr
 have HL := Aside0.mk hl
 rw [hb]
 clear hb hr hl
 show Calls Try.prog 118 #[.int .i64 n, .pointer (some ⟨B, 0, none⟩)] w _
 go_enter Try.func118, Try.ntmps118
 go_wp2_with (go_at_call 67; (with_reducible refine (slices_Contains_int_int.calls A c m n b _ ?s1 HL.out HV.out).mono ?_); (case s1 => exact zC_ HR.out); rintro e w' ⟨rfl, ⟨nd, rfl⟩⟩)
 go_ret
 exact ⟨by first | rfl | simp, _, rfl⟩
def meetsB (a b : List Int) : Bool := a.any fun n => b.any fun y => n == y
def impl_meets.f (l0 : List Int) (l1 : List Int) : Option (Bool) := some (meetsB l0 l1)
set_option maxHeartbeats 8000000 in
set_option maxRecDepth 100000 in
theorem impl_meets.calls (A0 : Option Addr) (c0 : Nat) (l0 : List Int) (A1 : Option Addr) (c1 : Nat) (l1 : List Int) (r : Bool) (w : World) (hr0 : Kd.C (Kd.int .i64) w A0 l0.length l0) (hc0 : l0.length ≤ c0) (hr1 : Kd.C (Kd.int .i64) w A1 l1.length l1) (hc1 : l1.length ≤ c1) (h : impl_meets.f l0 l1 = some r) :
  Calls Try.prog 107 #[.slice A0 l0.length c0, .slice A1 l1.length c1] w fun e w' => e = .returned (.bool r) ∧ Below w.heap.size w w' := by
 have HR0 := Aside0.mk hr0
 have HR1 := Aside0.mk hr1
 have HC1 := Aside0.mk hc1
 have HR := Aside0.mk (show (l0.any fun n => l1.any fun y => n == y) = r from Option.some.inj h)
 clear hr0 hc0 hr1 hc1 h
 have HB := Aside0.mk (Below.refl w.heap.size w)
 have eg := enters_of Try.func118 (by kernel_rfl) rfl
 go_enter Try.func107, Try.ntmps107
 go_wp2_with (first | ((with_reducible refine gate_dst (N := 3) rfl ?_); refine box_event ?hg (N := 3) ?hd (cs := #[.slice A1 l1.length c1]) (t := 24) ?hr ?_; (case hd => rfl); (case hg => rfl); (case hr => first | (go_simp; done) | (go_simp; rfl)); intro gb hg w2 hbox hb; have n0_ := Aside0.mk (below_step (zb_ HB.out) hb); have n1_ := Aside0.mk (blk_cell hbox 0); have n2_ := Aside0.mk (Kd.C_below HR0.out hb); have n3_ := Aside0.mk (Kd.C_below HR1.out hb); clear HB HR0 HR1; have HB := n0_; have BK := n1_; have HR0 := n2_; have HR1 := n3_; clear n0_ n1_ n2_ n3_; clear hb hbox hg) | (go_at_call 91; refine (slices_ContainsFunc_int_calls (fun n => l1.any fun y => n == y) 118 #[.pointer (some ⟨_, 0, none⟩)] eg _ _ l0 _ ?s1 ?s2).mono ?_; (case s1 => exact zC_ HR0.out); (case s2 => exact fun z q hz => impl_meets_1_calls z _ A1 c1 l1 _ (by exact zC_ HR1.out) HC1.out BK.out); rintro e w' ⟨he, ⟨nd2, rfl⟩⟩; rw [HR.out] at he; subst he))
 go_ret
 exact ⟨rfl, zb_ HB.out⟩
theorem given_zeros {base g cap n e : Nat} {ok : Nat → Prop} : ∀ (m i : Nat) (w : World) (ys : List Int), Kd.R (Kd.int .i64) e w base ok (.slice (some ⟨g, 0, none⟩) n cap) ys →
  ∃ zs : List Int, Kd.R (Kd.int .i64) e (w.setCells g i (List.replicate m (.int .i64 0))) base ok (.slice (some ⟨g, 0, none⟩) n cap) zs ∧ zs.length = ys.length ∧ zs.take i = ys.take i ∧ w.grownBy (w.setCells g i (List.replicate m (.int .i64 0))) (some g)
 | 0, i, w, ys, h => ⟨ys, h, rfl, rfl, grown_of_below (Below.refl _ _) _⟩
 | m + 1, i, w, ys, h => by
  obtain ⟨h1, hg1⟩ := Kd.R_putg h (i : Int) 0
  rw [show ((i : Int).toNat) = i by omega] at h1 hg1
  obtain ⟨zs, h2, h3, h4, h5⟩ := given_zeros m (i + 1) _ _ h1
  refine ⟨zs, h2, by rw [h3, List.length_set], ?_, ?_⟩
  ·have := congrArg (List.take i) h4
   rw [List.take_take, List.take_take, Nat.min_eq_left (by omega)] at this
   rw [this]
   exact List.take_set_of_le (by omega)
  ·exact hg1.trans h5
theorem pidx_found (p : Int → Bool) (l : List Int) (h : l.any p = true) : pidx p l = (l.findIdx p : Int) := by
 unfold pidx
 rw [if_pos h]
set_option maxHeartbeats 16000000 in
set_option maxRecDepth 100000 in
theorem slices_DeleteFunc_int_calls (p : Int → Bool) (g : Nat) (lb : Array Value) (eg : ∀ args w, (callFunc g args).run Try.prog w = .ok (.enter g args) w) (w0 w : World) (v : Value) (l : List Int) (hB : Below w0.heap.size w0 w) (ho : Kd.R (Kd.int .i64) 3 w w0.heap.size (fun _ => True) v l)
  (hp : ∀ (x : Int) (W : World), Below w0.heap.size w0 W → (∀ k, some k ≠ v.ownBlock → k < w.heap.size → W.heap[k]? = w.heap[k]?) → Calls Try.prog g (#[.int .i64 x] ++ lb) W fun e w' => e = .returned (.bool (p x)) ∧ ∃ q, w' = W.drewN q) :
  Calls Try.prog 113 #[v, .func (.func g) #[] lb] w fun e w' => ∃ v0_ : Value, e = .returned v0_ ∧ Kd.R (Kd.int .i64) 3 w' w0.heap.size (fun _ => True) v0_ (l.filter fun x => !p x) ∧ Below w0.heap.size w0 w' := by
 have HB := Aside0.mk hB
 have HP := Aside0.mk hp
 have HO := Aside0.mk ho
 obtain ⟨A0, c0, rfl, hlc, hC⟩ := Kd.R_reads ho
 have HIF := Aside0.mk (slices_IndexFunc_int_calls p g lb eg A0 c0 l w hC (fun x q _ => hp x (w.drewN q) (pw_below_drewN hB q) (fun k _ _ => rfl)))
 clear hB hp hlc
 cases hany : l.any p with
 | false =>
  have hi : pidx p l = -1 := by unfold pidx; rw [hany]; rfl
  have hf : (l.filter fun x => !p x) = l := by
   rw [List.filter_eq_self]
   intro x hx
   have := List.any_eq_false.1 hany x hx
   simpa using this
  rw [hi] at HIF
  rw [hf]
  clear hi hf hany hC ho HP
  go_enter Try.func113, Try.ntmps113
  go_wp2_with (go_at_call 116; (with_reducible refine HIF.out.mono ?_); rintro e w' ⟨rfl, ⟨nd, rfl⟩⟩)
  go_ret
  exact ⟨_, rfl, zR_ HO.out, zb_ HB.out⟩
 | true =>
  obtain ⟨i0, hi, hlt, hhit, hmiss⟩ : ∃ i0 : Nat, pidx p l = (i0 : Int) ∧ i0 < l.length ∧ (∀ x, l[i0]? = some x → p x = true) ∧ ∀ j x, j < i0 → l[j]? = some x → p x = false := by
   have hlt : l.findIdx p < l.length := List.findIdx_lt_length_of_exists (by simpa using List.any_eq_true.1 hany)
   refine ⟨l.findIdx p, pidx_found p l hany, hlt, fun x hx => ?_, fun j x hj hx => ?_⟩
   ·rw [List.getElem?_eq_getElem hlt] at hx
    rw [← Option.some.inj hx]
    exact List.findIdx_getElem
   ·rw [List.getElem?_eq_getElem (by omega)] at hx
    rw [← Option.some.inj hx]
    simpa using List.not_of_lt_findIdx hj
  rw [hi] at HIF
  obtain ⟨g0, cap, e0, hg0, hg0l, cells0, hh0⟩ := Kd.R_form ho (by omega)
  injection e0 with ea en ec
  subst ea ec
  have hmax := hC.2.1
  have HI0 := Aside0.mk (show (l.take i0).filter (fun x => !p x) = l.take i0 ∧ (l.take (i0 + 1)).filter (fun x => !p x) = l.take i0 by
   have h1 : (l.take i0).filter (fun x => !p x) = l.take i0 := by
    rw [List.filter_eq_self]
    intro x hx
    obtain ⟨j, hj, rfl⟩ := List.mem_iff_getElem.1 hx
    rw [List.getElem_take]
    have hj' : j < i0 := by rw [List.length_take] at hj; omega
    rw [hmiss j _ hj' (List.getElem?_eq_getElem (by omega))]
    rfl
   refine ⟨h1, ?_⟩
   rw [List.take_succ_eq_append_getElem hlt, List.filter_append, h1]
   simp [hhit _ (List.getElem?_eq_getElem hlt)])
  have HLT := Aside0.mk hlt
  have HG0 := Aside0.mk hg0
  have HG1 := Aside0.mk hg0l
  have HMX := Aside0.mk hmax
  have HKP := Aside0.mk (show ∀ k, k ≠ g0 → k < w.heap.size → w.heap[k]? = w.heap[k]? from fun _ _ _ => rfl)
  have hne1 : ((i0 : Int) == -1) = false := beq_eq_false_iff_ne.2 (by omega)
  have hw1 : wrap64 ((i0 : Int) + 1) = ((i0 : Int) + 1) := by unfold wrap64; omega
  have HW1 := Aside0.mk hw1
  clear hi hany hC ho hhit hmiss hg0 hg0l hh0 cells0 hmax hlt hw1 en
  go_enter Try.func113, Try.ntmps113
  go_wp2_with (go_at_call 116; (with_reducible refine HIF.out.mono ?_); rintro e w' ⟨rfl, ⟨nd, rfl⟩⟩)
  go_loopg [5, 6, 7] l.length (fun kq s5 s6 _ w' => ∃ (i j : Nat) (ys : List Int), s5 = .int .i64 (i : Int) ∧ s6 = .int .i64 (j : Int) ∧ Aside0 (i < j ∧ j ≤ l.length ∧ l.length - j ≤ kq ∧ ys.length = l.length ∧ ys.take i = (l.take j).filter (fun x => !p x) ∧ ys.drop j = l.drop j) ∧ Aside0 (Kd.R (Kd.int .i64) 3 w' w0.heap.size (fun _ => True) (.slice (some ⟨g0, 0, none⟩) l.length c0) ys) ∧ Aside0 (Below w0.heap.size w0 w') ∧ Aside0 (w.heap.size ≤ w'.heap.size ∧ ∀ k, k ≠ g0 → k < w.heap.size → w'.heap[k]? = w.heap[k]?))
  case atStart =>
   refine ⟨i0, i0 + 1, l, rfl, ?_, ⟨by omega, HLT.out, by omega, rfl, HI0.out.2.symm, rfl⟩, ⟨zR_ HO.out⟩, ⟨zb_ HB.out⟩, ⟨Nat.le_refl _, fun _ _ _ => rfl⟩⟩
   first | rfl | (rw [HW1.out]; rfl) | (simp [HW1.out])
  case round =>
   clear HB HO HKP HIF HI0 hne1 HW1
   obtain ⟨i, j, ys, rfl, rfl, HA, HO, HB, HKP⟩ := hrel
   by_cases hjn : j < l.length
   ·have hz := HA.out.2.2.2.1
    have c3b0 : decide ((j : Int) < (l.length : Int)) = true := decide_eq_true (by omega)
    have c3b1 := eq_true (show (j : Int) < (l.length : Int) by omega)
    have c3b2 := eq_true hjn
    obtain ⟨hxj, _⟩ := Kd.R_celln 0 HO.out (j : Int) (by omega) (by omega)
    obtain ⟨hxi, hfi⟩ := Kd.R_celln 0 HO.out (i : Int) (by omega) (by have := HA.out.1; omega)
    obtain ⟨x, hx⟩ : ∃ x, l[j]? = some x := ⟨_, List.getElem?_eq_getElem hjn⟩
    have hval : rdOf 0 ys (j : Int) = x := by
     have h1 := congrArg (fun z => z[0]?) HA.out.2.2.2.2.2
     simp only [List.getElem?_drop, Nat.add_zero] at h1
     unfold rdOf
     rw [List.getD_eq_getElem?_getD, show ((j : Int).toNat) = j by omega, h1, hx]
     rfl
    rw [hval] at hxj
    have HP7 := Aside0.mk (Kd.R_putg HO.out (i : Int) x)
    have HW := Aside0.mk (show wrap64 ((j : Int) + 1) = ((j + 1 : Nat) : Int) by have := HMX.out; unfold wrap64; omega)
    have HWi := Aside0.mk (show wrap64 ((i : Int) + 1) = ((i + 1 : Nat) : Int) by have := HMX.out; have := HA.out.1; unfold wrap64; omega)
    have HLJ := Aside0.mk hjn
    have hcall := Aside0.mk (HP.out x wr HB.out (fun k hk hkl => HKP.out.2 k (fun e => hk (by rw [e]; rfl)) hkl))
    have hij := eq_true (show (i : Int) < (l.length : Int) by have := HA.out.1; omega)
    have htk : (l.take (j + 1)).filter (fun x => !p x) = (l.take j).filter (fun x => !p x) ++ (if p x = true then [] else [x]) := by
     rw [List.take_add_one, hx, List.filter_append]
     by_cases hq : p x = true
     ·simp [hq]
     ·simp [hq]
    have HTK := Aside0.mk htk
    rw [show ((j : Int).toNat) = j by omega] at hxj
    rw [show ((i : Int).toNat) = i by omega] at hxi hfi
    have HX := Aside0.mk hx
    clear hval htk hz hjn hx
    cases hq : p x with
    | true =>
     rw [hq] at hcall HTK
     clear hq
     go_wp2_with (go_at_fn g; (with_reducible refine hcall.out.mono ?_); rintro e w' ⟨rfl, q', rfl⟩)
     go_roundg (gk - 1)
     case measure => have := HA.out.2.2.1; have := HLJ.out; omega
     case rel =>
      refine ⟨i, j + 1, ys, rfl, by first | rfl | (rw [← HW.out]; done) | (rw [HW.out]; done) | simp [HW.out], ⟨by have := HA.out.1; omega, HLJ.out, by have := HA.out.2.2.1; omega, HA.out.2.2.2.1, ?_, ?_⟩, ⟨zR_ HO.out⟩, ⟨zb_ HB.out⟩, ⟨HKP.out.1, HKP.out.2⟩⟩
      ·rw [HTK.out, HA.out.2.2.2.2.1]
       simp
      ·have h1 := congrArg (List.drop 1) HA.out.2.2.2.2.2
       rw [List.drop_drop, List.drop_drop] at h1
       exact h1
    | false =>
     rw [hq] at hcall HTK
     clear hq
     go_wp2_with (first | (go_at_fn g; (with_reducible refine hcall.out.mono ?_); rintro e w' ⟨rfl, q', rfl⟩) | ((with_reducible refine gate_store (t := 3) (p := 33) rfl ?_); refine store_event (t := 3) (p := 33) (v := ?vo_w8) (w1 := ((wr.drewN q').setCell ⟨g0, i, none⟩ (.int .i64 x))) ?hg ?ho ?hn ?hr ?_; (case ho => rfl); (case hg => rfl); (case hn => rfl); (case hr => first | (go_simp; done) | (go_simp; rfl)); intro w8 hw; have n0_ := Aside0.mk (show Kd.R (Kd.int .i64) 3 w8 w0.heap.size (fun _ => True) (.slice (some ⟨g0, 0, none⟩) l.length c0) (ys.set i x) by rw [hw]; exact Kd.R_drewN HP7.out.1 q'); have n1_ := Aside0.mk (show Below w0.heap.size w0 w8 by rw [hw]; exact below_set (pw_below_drewN HB.out q') HG0.out); have n2_ := Aside0.mk (show w.heap.size ≤ w8.heap.size ∧ ∀ k, k ≠ g0 → k < w.heap.size → w8.heap[k]? = w.heap[k]? by rw [hw]; exact ⟨by simpa [World.setCell] using HKP.out.1, fun k hk hkl => (Below.heap_setCell (wr.drewN q') ⟨g0, i, none⟩ _ k hk).trans (HKP.out.2 k hk hkl)⟩); clear HB HO HKP hw; have HO := n0_; have HB := n1_; have HKP := n2_; clear n0_ n1_ n2_))
     go_roundg (gk - 1)
     case measure => have := HA.out.2.2.1; have := HLJ.out; omega
     case rel =>
      refine ⟨i + 1, j + 1, ys.set i x, by first | rfl | (rw [← HWi.out]; done) | (rw [HWi.out]; done) | simp [HWi.out], by first | rfl | (rw [← HW.out]; done) | (rw [HW.out]; done) | simp [HW.out], ⟨by have := HA.out.1; omega, HLJ.out, by have := HA.out.2.2.1; omega, by rw [List.length_set]; exact HA.out.2.2.2.1, ?_, ?_⟩, ⟨zR_ HO.out⟩, ⟨zb_ HB.out⟩, ⟨HKP.out.1, HKP.out.2⟩⟩
      ·have hil : i < (ys.set i x).length := by rw [List.length_set, HA.out.2.2.2.1]; have := HA.out.1; have := HLJ.out; omega
       rw [HTK.out, List.take_succ_eq_append_getElem hil, List.take_set_of_le (by omega), HA.out.2.2.2.2.1]
       simp
      ·rw [List.drop_set_of_lt (by have := HA.out.1; omega)]
       have h1 := congrArg (List.drop 1) HA.out.2.2.2.2.2
       rw [List.drop_drop, List.drop_drop] at h1
       exact h1
   ·have hjl : j = l.length := by have := HA.out.2.1; omega
    have c3b0 : decide ((j : Int) < (l.length : Int)) = false := decide_eq_false (by omega)
    have c3b1 := eq_false (show ¬ (j : Int) < (l.length : Int) by omega)
    have hil : i < l.length := by have := HA.out.1; omega
    have hz := HA.out.2.2.2.1
    obtain ⟨zs, hR, hzl, hzt, hgr⟩ := given_zeros (l.length - i) i wr ys HO.out
    have hcl : ∀ ty, (Builtin.clear_ #[24] ty #[.slice (some ⟨g0, i, none⟩) (l.length - i) (c0 - i)]).run Try.prog wr = .ok (.tuple #[]) (wr.setCells g0 i (List.replicate (l.length - i) (.int .i64 0))) :=
     fun ty => Lib.run_clear_slice wr 24 3 ty (.int .i64 0) Try.underlying24 (fun _ => by kernel_rfl) rfl rfl g0 i _ _ (by omega)
      (fun t ht => by rw [← show (((i + t : Nat) : Int).toNat) = i + t by omega, (Kd.R_celln 0 HO.out ((i + t : Nat) : Int) (by omega) (by omega)).1]; rfl)
      (fun t ht => by rw [← show (((i + t : Nat) : Int).toNat) = i + t by omega]; exact (Kd.R_celln 0 HO.out ((i + t : Nat) : Int) (by omega) (by omega)).2)
    have HF := Aside0.mk (show (l.filter fun x => !p x) = zs.take i by
     have h1 := HA.out.2.2.2.2.1
     rw [hjl, List.take_length] at h1
     rw [← h1, hzt])
    have HR := Aside0.mk (Kd.R_take hR (show i ≤ zs.length by omega))
    have HBf := Aside0.mk (show Below w0.heap.size w0 (wr.setCells g0 i (List.replicate (l.length - i) (.int .i64 0))) from HB.out.grown hgr (HB.out.size) (fun k hk => by injection hk with hk; subst hk; exact HG0.out))
    have q1 := eq_true (show (0 : Int) ≤ (i : Int) by omega)
    have q2 := eq_true (show (i : Int) ≤ (l.length : Int) by omega)
    have q2b : decide ((i : Int) ≤ (l.length : Int)) = true := decide_eq_true (of_eq_true q2)
    have q3 := eq_true (show (i : Int) ≤ (c0 : Int) by have := (Kd.R_reads HO.out); obtain ⟨_, _, e_, h_, _⟩ := this; injection e_ with _ _ e3; omega)
    have q4 := eq_true (show i ≤ l.length by omega)
    have q5 := eq_true (show i < c0 by have := (Kd.R_reads HO.out); obtain ⟨_, _, e_, h_, _⟩ := this; injection e_ with _ _ e3; omega)
    have q6 := eq_false (show ¬ c0 = i by have := of_eq_true q5; omega)
    have q7 := eq_false (show ¬ i = c0 by have := of_eq_true q5; omega)
    clear hR hzl hzt hgr hjn hjl hil hz HO
    go_wp2
    go_ret
    exact ⟨_, rfl, by rw [HF.out]; exact HR.out, HBf.out⟩
set_option maxHeartbeats 8000000 in
set_option maxRecDepth 100000 in
theorem impl_without_1_calls (n : Int) (B : Nat) (A : Option Addr) (c : Nat) (m : List Int) (w : World) (hr : Kd.C (Kd.int .i64) w A m.length m) (hl : m.length ≤ c) (hc : w.cell? ⟨B, 0, none⟩ = some (.slice A m.length c)) :
  Calls Try.prog 119 (#[.int .i64 n] ++ #[.pointer (some ⟨B, 0, none⟩)]) w fun e w' => e = .returned (.bool (m.any fun y => wrap64 (-n) == y)) ∧ ∃ q, w' = w.drewN q := by
 obtain ⟨b, hb⟩ : ∃ b, (m.any fun y => wrap64 (-n) == y) = b := ⟨_, rfl⟩
 have HV := Aside0.mk (show slices_Contains_int_int.f m (wrap64 (-n)) = some b by unfold slices_Contains_int_int.f; rw [hb])
 have HR := Aside0.mk hr
 have HL := Aside0.mk hl
 rw [hb]
 clear hb hr hl
 show Calls Try.prog 119 #[.int .i64 n, .pointer (some ⟨B, 0, none⟩)] w _
 go_enter Try.func119, Try.ntmps119
 go_wp2_with (go_at_call 67; (with_reducible refine (slices_Contains_int_int.calls A c m (wrap64 (-n)) b _ ?s1 HL.out HV.out).mono ?_); (case s1 => exact zC_ HR.out); rintro e w' ⟨rfl, ⟨nd, rfl⟩⟩)
 go_ret
 exact ⟨by first | rfl | simp, _, rfl⟩
def withoutL (c given : List Int) : List Int := c.filter fun n => !(given.any fun y => wrap64 (-n) == y)
def impl_without.f (l0 : List Int) (l1 : List Int) : Option (List Int) := if l0.length < 17592186044416 then some (withoutL l0 l1) else none
set_option maxHeartbeats 8000000 in
set_option maxRecDepth 100000 in
theorem impl_without.calls (A0 : Option Addr) (c0 : Nat) (l0 : List Int) (A1 : Option Addr) (c1 : Nat) (l1 : List Int) (r : List Int) (w : World) (hr0 : Kd.C (Kd.int .i64) w A0 l0.length l0) (hc0 : l0.length ≤ c0) (hr1 : Kd.C (Kd.int .i64) w A1 l1.length l1) (hc1 : l1.length ≤ c1) (h : impl_without.f l0 l1 = some r) :
  Calls Try.prog 108 #[.slice A0 l0.length c0, .slice A1 l1.length c1] w fun e w' => ∃ v0_ : Value, e = .returned (v0_) ∧ Kd.R (Kd.int .i64) 3 w' w.heap.size (fun _ => True) v0_ r ∧ Below w.heap.size w w' := by
 have HR0 := Aside0.mk hr0
 have HC0 := Aside0.mk hc0
 have HR1 := Aside0.mk hr1
 have HRw := Aside0.mk hr1
 have HC1 := Aside0.mk hc1
 clear hr0 hc0 hr1 hc1
 unfold impl_without.f at h
 by_cases c3 : l0.length < 17592186044416
 ·rw [if_pos c3] at h
  have HV := Aside0.mk (show slices_Clone_int_int.f l0 = some l0 by unfold slices_Clone_int_int.f; rw [if_pos c3])
  have HR := Aside0.mk (show (l0.filter fun n => !(l1.any fun y => wrap64 (-n) == y)) = r from Option.some.inj h)
  clear c3 h
  have HB := Aside0.mk (Below.refl w.heap.size w)
  have eg := enters_of Try.func119 (by kernel_rfl) rfl
  go_enter Try.func108, Try.ntmps108
  go_wp2_with (first | ((with_reducible refine gate_dst (N := 3) rfl ?_); refine box_event ?hg (N := 3) ?hd (cs := #[.slice A1 l1.length c1]) (t := 24) ?hr ?_; (case hd => rfl); (case hg => rfl); (case hr => first | (go_simp; done) | (go_simp; rfl)); intro gb hg w2 hbox hb; have n0_ := Aside0.mk (below_step (zb_ HB.out) hb); have n1_ := Aside0.mk hbox; have n2_ := Aside0.mk (Kd.C_below HR0.out hb); clear HB HR0; have HB := n0_; have BK := n1_; have HR0 := n2_; clear n0_ n1_ n2_; clear hb hbox hg) | (go_at_call 106; (with_reducible refine (slices_Clone_int_int.calls _ _ l0 l0 _ ?s1 HC0.out HV.out).mono ?_); (case s1 => exact zC_ HR0.out); rintro e w5 ⟨v5, rfl, ho, hb⟩; have n0_ := Aside0.mk (Kd.R_lower ho (below_size (zb_ HB.out))); have n1_ := Aside0.mk (below_step (zb_ HB.out) hb); have n2_ := Aside0.mk (blk_below (by (with_reducible repeat (first | refine blk_drewN ?_ _ | refine blk_drew ?_ | refine blk_alloc ?_ _)); exact BK.out) hb); have n3_ := Aside0.mk (show some gb ≠ v5.ownBlock from fun e_ => by have h1 := Kd.R_base ho gb e_.symm; have h2 := blk_lt BK.out; omega); clear HB BK; have HO := n0_; have HB := n1_; have BK := n2_; have NB := n3_; clear n0_ n1_ n2_ n3_ hb ho) | (go_at_call 113; refine (slices_DeleteFunc_int_calls (fun n => l1.any fun y => wrap64 (-n) == y) 119 #[.pointer (some ⟨gb, 0, none⟩)] eg w _ v5 l0 ?s1 ?s2 ?s3).mono ?_; (case s1 => exact zb_ HB.out); (case s2 => (with_reducible repeat (first | apply Kd.R_alloc | apply Kd.R_drewN | apply Kd.R_drew)); exact HO.out); (case s3 => exact fun x W hW hk => impl_without_1_calls x gb A1 c1 l1 W (Kd.C_below HRw.out hW) HC1.out (blk_cell ((hk gb NB.out (blk_lt BK.out)).trans BK.out) 0)); rintro e w6 ⟨v6, rfl, ho, hb⟩; rw [HR.out] at ho; have HO6 := Aside0.mk ho; have HB6 := Aside0.mk hb; clear ho hb))
  go_ret
  exact ⟨_, rfl, zR_ HO6.out, by repeat (first | (with_reducible first | exact HB6.out | apply below_alloc | apply pw_below_drewN | apply below_drew1) | exact HB6.out)⟩
 ·rw [if_neg c3] at h
  exact absurd h (by simp)
mutual
def impl_propagate.l0 : Nat → List (List Int) → List Int → Option (List Int × Bool)
 | 0, _, _ => none
 | k + 1, x0, x6 => impl_propagate.l1 k x0 x6 false x0 (x0.length : Int) 0
def impl_propagate.l1 : Nat → List (List Int) → List Int → Bool → List (List Int) → Int → Int → Option (List Int × Bool)
 | 0, _, _, _, _, _, _ => none
 | k + 1, x0, x6, x7, x13, x14, x15 => if x15 < x14 then (if 0 ≤ x15 then (if x15 < (x13.length : Int) then ((impl_meets.f (rd_L2 x13 x15) x6).bind fun t263 => (if t263 = true then (impl_propagate.l1 k x0 x6 x7 x13 x14 (wrap64 (x15 + 1))) else ((impl_without.f (rd_L2 x13 x15) x6).bind fun t264 => (if (t264.length : Int) = 0 then (some (x6, true)) else (if (t264.length : Int) = 1 then (if 0 < (t264.length : Int) then (if x6.length < 17592186044416 then (impl_propagate.l0 k x0 (x6 ++ [rd t264 0])) else (none)) else (none)) else (impl_propagate.l1 k x0 x6 x7 x13 x14 (wrap64 (x15 + 1)))))))) else (none)) else (none)) else (if x7 = true then (impl_propagate.l0 k x0 x6) else (some (x6, false)))
end
def impl_propagate.f (k : Nat) (l0 : List (List Int)) (l1 : List Int) : Option (List Int × Bool) := (slices_Clone_int_int.f l1).bind fun t259 => (impl_propagate.l0 k l0 t259)
theorem impl_propagate.mono_l : ∀ k, (∀ y0 y1, LeO (impl_propagate.l0 k y0 y1) (impl_propagate.l0 (k + 1) y0 y1)) ∧ (∀ y0 y1 y2 y3 y4 y5, LeO (impl_propagate.l1 k y0 y1 y2 y3 y4 y5) (impl_propagate.l1 (k + 1) y0 y1 y2 y3 y4 y5))
 | 0 => ⟨fun _ _ r h => by simp [impl_propagate.l0] at h, fun _ _ _ _ _ _ r h => by simp [impl_propagate.l1] at h⟩
 | k + 1 => by
  obtain ⟨ih0, ih1⟩ := impl_propagate.mono_l k
  refine ⟨?_, ?_⟩
  ·intro y0 y1
   unfold impl_propagate.l0
   repeat' first
   | (with_reducible exact ih0 _ _)
   | (with_reducible exact ih1 _ _ _ _ _ _)
   | (with_reducible exact LeO.refl _)
   | (with_reducible exact LeO.none _)
   | (with_reducible refine LeO.ite ?_ ?_)
   | (with_reducible refine LeO.bind ?_ (fun _ => ?_))
   | exact ih0 _ _
   | exact ih1 _ _ _ _ _ _
   | exact LeO.none _
   | refine LeO.ite ?_ ?_
   | refine LeO.bind ?_ (fun _ => ?_)
  ·intro y0 y1 y2 y3 y4 y5
   unfold impl_propagate.l1
   repeat' first
   | (with_reducible exact ih0 _ _)
   | (with_reducible exact ih1 _ _ _ _ _ _)
   | (with_reducible exact LeO.refl _)
   | (with_reducible exact LeO.none _)
   | (with_reducible refine LeO.ite ?_ ?_)
   | (with_reducible refine LeO.bind ?_ (fun _ => ?_))
   | exact ih0 _ _
   | exact ih1 _ _ _ _ _ _
   | exact LeO.none _
   | refine LeO.ite ?_ ?_
   | refine LeO.bind ?_ (fun _ => ?_)
theorem impl_propagate.mono : ∀ a0 a1 k, LeO (impl_propagate.f k a0 a1) (impl_propagate.f (k + 1) a0 a1) := by
 intro a0 a1 k
 obtain ⟨ih0, ih1⟩ := impl_propagate.mono_l k
 unfold impl_propagate.f
 repeat' first
   | (with_reducible exact ih0 _ _)
   | (with_reducible exact ih1 _ _ _ _ _ _)
   | (with_reducible exact LeO.refl _)
   | (with_reducible exact LeO.none _)
   | (with_reducible refine LeO.ite ?_ ?_)
   | (with_reducible refine LeO.bind ?_ (fun _ => ?_))
   | exact ih0 _ _
   | exact ih1 _ _ _ _ _ _
   | exact LeO.none _
   | refine LeO.ite ?_ ?_
   | refine LeO.bind ?_ (fun _ => ?_)
set_option maxHeartbeats 8000000 in
set_option maxRecDepth 100000 in
theorem impl_propagate.calls (k : Nat) (A0 : Option Addr) (c0 : Nat) (l0 : List (List Int)) (A1 : Option Addr) (c1 : Nat) (l1 : List Int) (r1 : List Int) (r2 : Bool) (w : World) (hr0 : Kd.C (Kd.slice 3 (Kd.int .i64)) w A0 l0.length l0) (hc0 : l0.length ≤ c0) (hr1 : Kd.C (Kd.int .i64) w A1 l1.length l1) (hc1 : l1.length ≤ c1) (h : impl_propagate.f k l0 l1 = some (r1, r2)) :
  Calls Try.prog 77 #[.slice A0 l0.length c0, .slice A1 l1.length c1] w fun e w' => ∃ v0_ : Value, e = .returned (.tuple #[v0_, .bool r2]) ∧ Kd.R (Kd.int .i64) 3 w' w.heap.size (fun _ => True) v0_ r1 ∧ Below w.heap.size w w' := by
 have HR0 := Aside0.mk hr0
 have HC0 := Aside0.mk hc0
 clear hr0 hc0
 have HR1 := Aside0.mk hr1
 have HC1 := Aside0.mk hc1
 clear hr1 hc1
 have HB := Aside0.mk (Below.refl w.heap.size w)
 have H : ((slices_Clone_int_int.f l1).bind fun t259 => (impl_propagate.l0 k l0 t259)) = some (r1, r2) := h
 clear h
 replace H := Option.bind_eq_some_iff.mp H
 obtain ⟨t259, A30, H⟩ := H
 (try dsimp only at H)
 have A3 := Aside0.mk A30
 clear A30
 have H' := Aside0.mk H
 clear H
 go_enter Try.func77, Try.ntmps77
 go_wp2_with (first | ((with_reducible refine gate_callee (f := 106) rfl ?_); refine goesL_ (some 12) rfl rfl Try.func106 (by kernel_rfl) rfl #[.slice A1 l1.length c1] rfl (by simp only [zA_, zB_, zD_] <;> rfl) ?_; (with_reducible refine (slices_Clone_int_int.calls _ _ l1 t259 _ ?side1 ?side2 A3.out).mono ?_); (case side1 => exact zC_ HR1.out); (case side2 => exact HC1.out); rintro e w4 ⟨v260, rfl, ho0, hb⟩; refine ⟨_, rfl, ?_⟩; have n0_ := Aside0.mk (Kd.R_lower ho0 (below_size (zb_ HB.out))); have n1_ := Aside0.mk (below_step (zb_ HB.out) hb); clear HB; have HO261 := n0_; have HB := n1_; clear n0_ n1_; (try clear hb); (try clear hb2); (try clear hk); (try clear hi); (try clear ho0)))
 go_loopg [6] k (fun kq v6 w' => ∃ (x6_1 : List Int), Aside0 (impl_propagate.l0 kq l0 x6_1 = some (r1, r2)) ∧ Aside0 (kq ≤ k) ∧ Aside0 (Kd.R (Kd.int .i64) 3 w' w.heap.size (fun _ => True) v6 x6_1) ∧ Aside0 (Below w.heap.size w w'))
 case atStart => exact ⟨(t259), H', ⟨Nat.le_refl _⟩, ⟨zR_ HO261.out⟩, ⟨zb_ HB.out⟩⟩
 case round =>
  clear H'
  try clear c1
  try clear p2
  obtain ⟨x6_1, HA, HK1, HO_6, HB⟩ := hrel
  cases gk with
  | zero => exact absurd HA.out (by simp [impl_propagate.l0])
  | succ k1 =>
   have H := HA.out
   clear HA
   simp only [impl_propagate.l0] at H
   have H' := Aside0.mk H
   clear H
   go_wp2
   go_loopg [6, 7, 15] k1 (fun kq v6 v7 v15 w' => ∃ (x6_2 : List Int) (x7_2 : Bool) (x15_2 : Int), v7 = .bool x7_2 ∧ v15 = .int .i64 x15_2 ∧ Aside0 (impl_propagate.l1 kq l0 x6_2 x7_2 l0 (l0.length : Int) x15_2 = some (r1, r2)) ∧ Aside0 (kq ≤ k1) ∧ Aside0 (Kd.R (Kd.int .i64) 3 w' w.heap.size (fun _ => True) v6 x6_2) ∧ Aside0 (Below w.heap.size w w'))
   case atStart => exact ⟨(x6_1), (false), (0), (by first | rfl | (simp; done) | (simp [*]; done)), (by first | rfl | (simp; done) | (simp [*]; done)), H', ⟨Nat.le_refl _⟩, ⟨zR_ HO_6.out⟩, ⟨zb_ HB.out⟩⟩
   case round =>
    clear H'
    try clear c1
    try clear p2
    try clear p2
    obtain ⟨x6_2, x7_2, x15_2, rfl, rfl, HA, HK2, HO_6, HB⟩ := hrel
    cases gk with
    | zero => exact absurd HA.out (by simp [impl_propagate.l1])
    | succ k2 =>
     have H := HA.out
     clear HA
     simp only [impl_propagate.l1] at H
     by_cases c5 : x15_2 < (l0.length : Int)
     ·rw [if_pos c5] at H
      have c5b0 : decide (x15_2 < (l0.length : Int)) = true := decide_eq_true c5
      clear c5
      by_cases c6 : 0 ≤ x15_2
      ·rw [if_pos c6] at H
       have c6b0 : decide (0 ≤ x15_2) = true := decide_eq_true c6
       clear c6
       by_cases c7 : x15_2 < (l0.length : Int)
       ·rw [if_pos c7] at H
        have c7b0 : decide (x15_2 < (l0.length : Int)) = true := decide_eq_true c7
        clear c7
        replace H := Option.bind_eq_some_iff.mp H
        obtain ⟨t263, A80, H⟩ := H
        (try dsimp only at H)
        have A8 := Aside0.mk A80
        clear A80
        by_cases c9 : t263 = true
        ·subst c9
         have H1 : (impl_propagate.l1 k2 l0 x6_2 x7_2 l0 (l0.length : Int) (wrap64 (x15_2 + 1))) = some (r1, r2) := by rw [if_pos rfl] at H; exact H
         clear H
         have H := H1
         clear H1
         have H' := Aside0.mk H
         clear H
         have p262 : 0 ≤ (x15_2 : Int) := of_decide_eq_true (by assumption)
         have q262 : x15_2 < (l0.length : Int) := of_decide_eq_true (by assumption)
         obtain ⟨ad262, A262_0, c262_0, e262, hx262_0, hl262_0, hi262_0⟩ := at_L2 HR0.out x15_2 p262 q262
         cases e262
         (try replace hx262_0 := (HB.out.cell (World.block_lt_of_cell? w _ hx262_0)).trans hx262_0)
         have HR262_0 := Aside0.mk hi262_0
         have HC262_0 := Aside0.mk hl262_0
         clear hi262_0 hl262_0
         replace p262 := eq_true p262
         replace q262 := eq_true q262
         obtain ⟨Ao10, co10, eo10⟩ := Kd.R_slice HO_6.out
         subst eo10
         go_wp2_with (first | ((with_reducible refine gate_callee (f := 107) rfl ?_); refine goesL_ (some 21) rfl rfl Try.func107 (by kernel_rfl) rfl #[.slice A262_0 (rd_L2 l0 x15_2).length c262_0, .slice Ao10 x6_2.length co10] rfl (by simp only [zA_, zB_, zD_] <;> rfl) ?_; (with_reducible refine (impl_meets.calls _ _ (rd_L2 l0 x15_2) _ _ x6_2 true _ ?side1 ?side2 ?side3 ?side4 A8.out).mono ?_); (case side1 => exact zC_ (Kd.C_below HR262_0.out HB.out)); (case side2 => exact HC262_0.out); (case side3 => exact zC_ (Kd.R_reads' HO_6.out).2.2); (case side4 => exact (Kd.R_reads' HO_6.out).2.1); rintro e w11 ⟨rfl, hb⟩; refine ⟨_, rfl, ?_⟩; have n0_ := Aside0.mk (Kd.R_below (zR_ HO_6.out) hb); have n1_ := Aside0.mk (below_step (zb_ HB.out) hb); clear HO_6; clear HB; have HO_6 := n0_; have HB := n1_; clear n0_ n1_; (try clear hb); (try clear hb2); (try clear hk); (try clear hi)))
         go_roundg k2
         case measure => have := HK1.out; have := HK2.out; omega
         case rel => exact ⟨(x6_2), (x7_2), (wrap64 (x15_2 + 1)), (by first | rfl | (simp; done) | (simp [*]; done)), (by first | rfl | (simp; done) | (simp [*]; done)), H', ⟨by have := HK1.out; have := HK2.out; omega⟩, ⟨zR_ HO_6.out⟩, ⟨zb_ HB.out⟩⟩
        ·replace c9 := Bool.eq_false_iff.mpr c9
         subst c9
         have H1 : ((impl_without.f (rd_L2 l0 x15_2) x6_2).bind fun t264 => (if (t264.length : Int) = 0 then (some (x6_2, true)) else (if (t264.length : Int) = 1 then (if 0 < (t264.length : Int) then (if x6_2.length < 17592186044416 then (impl_propagate.l0 k2 l0 (x6_2 ++ [rd t264 0])) else (none)) else (none)) else (impl_propagate.l1 k2 l0 x6_2 x7_2 l0 (l0.length : Int) (wrap64 (x15_2 + 1)))))) = some (r1, r2) := by rw [if_neg (show ¬ (false = true) by decide)] at H; exact H
         clear H
         have H := H1
         clear H1
         replace H := Option.bind_eq_some_iff.mp H
         obtain ⟨t264, A120, H⟩ := H
         (try dsimp only at H)
         have A12 := Aside0.mk A120
         clear A120
         by_cases c13 : (t264.length : Int) = 0
         ·rw [if_pos c13] at H
          have c13b0 : ((t264.length : Int) == 0) = true := beq_iff_eq.mpr c13
          have c13b1 : ((t264.length : Int) != 0) = false := bne_eq_false_iff_eq.mpr c13
          clear c13
          simp only [Option.some.injEq, Prod.mk.injEq] at H
          obtain ⟨rfl, rfl⟩ := H
          have p262 : 0 ≤ (x15_2 : Int) := of_decide_eq_true (by assumption)
          have q262 : x15_2 < (l0.length : Int) := of_decide_eq_true (by assumption)
          obtain ⟨ad262, A262_0, c262_0, e262, hx262_0, hl262_0, hi262_0⟩ := at_L2 HR0.out x15_2 p262 q262
          cases e262
          (try replace hx262_0 := (HB.out.cell (World.block_lt_of_cell? w _ hx262_0)).trans hx262_0)
          have HR262_0 := Aside0.mk hi262_0
          have HC262_0 := Aside0.mk hl262_0
          clear hi262_0 hl262_0
          replace p262 := eq_true p262
          replace q262 := eq_true q262
          obtain ⟨Ao14, co14, eo14⟩ := Kd.R_slice HO_6.out
          subst eo14
          go_wp2_with (first | ((with_reducible refine gate_callee (f := 107) rfl ?_); refine goesL_ (some 21) rfl rfl Try.func107 (by kernel_rfl) rfl #[.slice A262_0 (rd_L2 l0 x15_2).length c262_0, .slice Ao14 x6_2.length co14] rfl (by simp only [zA_, zB_, zD_] <;> rfl) ?_; (with_reducible refine (impl_meets.calls _ _ (rd_L2 l0 x15_2) _ _ x6_2 false _ ?side1 ?side2 ?side3 ?side4 A8.out).mono ?_); (case side1 => exact zC_ (Kd.C_below HR262_0.out HB.out)); (case side2 => exact HC262_0.out); (case side3 => exact zC_ (Kd.R_reads' HO_6.out).2.2); (case side4 => exact (Kd.R_reads' HO_6.out).2.1); rintro e w15 ⟨rfl, hb⟩; refine ⟨_, rfl, ?_⟩; have n0_ := Aside0.mk (Kd.R_below (zR_ HO_6.out) hb); have n1_ := Aside0.mk (below_step (zb_ HB.out) hb); clear HO_6; clear HB; have HO_6 := n0_; have HB := n1_; clear n0_ n1_; (try clear hb); (try clear hb2); (try clear hk); (try clear hi)) | ((with_reducible refine gate_callee (f := 108) rfl ?_); refine goesL_ (some 24) rfl rfl Try.func108 (by kernel_rfl) rfl #[.slice A262_0 (rd_L2 l0 x15_2).length c262_0, .slice Ao14 x6_2.length co14] rfl (by simp only [zA_, zB_, zD_] <;> rfl) ?_; (with_reducible refine (impl_without.calls _ _ (rd_L2 l0 x15_2) _ _ x6_2 t264 _ ?side1 ?side2 ?side3 ?side4 A12.out).mono ?_); (case side1 => exact zC_ (Kd.C_below HR262_0.out HB.out)); (case side2 => exact HC262_0.out); (case side3 => exact zC_ (Kd.R_reads' HO_6.out).2.2); (case side4 => exact (Kd.R_reads' HO_6.out).2.1); rintro e w16 ⟨v265, rfl, ho0, hb⟩; refine ⟨_, rfl, ?_⟩; have n0_ := Aside0.mk (Kd.R_elder' (zR_ HO_6.out) (Kd.R_base ho0) hb); have n1_ := Aside0.mk (Kd.R_lower (Kd.R_new' ho0 (Kd.R_lt (zR_ HO_6.out))) (below_size (zb_ HB.out))); have n2_ := Aside0.mk (below_step (zb_ HB.out) hb); clear HO_6; clear HB; have HO_6 := n0_; have HO266 := n1_; have HB := n2_; clear n0_ n1_ n2_; (try clear hb); (try clear hb2); (try clear hk); (try clear hi); (try clear ho0); obtain ⟨Ao17, co17, eo17⟩ := Kd.R_slice HO266.out; subst eo17))
          go_ret2
          exact ⟨_, by first | rfl | (simp [errW_none, errW_some] <;> rfl) | (simp [*, errW_none, errW_some] <;> rfl), by (with_reducible repeat (first | apply Kd.R_alloc | apply Kd.R_drewN | apply Kd.R_drew)); exact Kd.R_mono HO_6.out (fun _ hk => trivial), zb_ HB.out⟩
         ·rw [if_neg c13] at H
          have c13b0 : ((t264.length : Int) == 0) = false := beq_eq_false_iff_ne.mpr c13
          have c13b1 : ((t264.length : Int) != 0) = true := bne_iff_ne.mpr c13
          have c13b2 : ¬ (t264 = []) := fun h_ => c13 (by rw [h_]; rfl)
          by_cases c18 : (t264.length : Int) = 1
          ·rw [if_pos c18] at H
           have c18b0 : ((t264.length : Int) == 1) = true := beq_iff_eq.mpr c18
           have c18b1 : ((t264.length : Int) != 1) = false := bne_eq_false_iff_eq.mpr c18
           clear c18
           by_cases c19 : 0 < (t264.length : Int)
           ·rw [if_pos c19] at H
            have c19b0 : decide (0 < (t264.length : Int)) = true := decide_eq_true c19
            have c19b1 : decide (0 < t264.length) = true := decide_eq_true (by omega)
            clear c19
            by_cases c20 : x6_2.length < 17592186044416
            ·rw [if_pos c20] at H
             have LMc20 := Aside0.mk c20
             clear c20
             obtain ⟨y268, hy268⟩ : ∃ y_ : List Int, y_ = (x6_2 ++ [rd t264 0]) := ⟨_, rfl⟩
             replace H : (impl_propagate.l0 k2 l0 y268) = some (r1, r2) := by first | (rw [hy268]; with_reducible exact H) | (have H2_ := (Option.bind_some _ _).symm.trans H; rw [hy268]; with_reducible exact H2_) | (have H2_ := (Option.bind_some _ _).symm.trans H; with_reducible exact H2_) | with_reducible exact H | (rw [hy268]; exact H) | exact H
             have Ny268 := Aside0.mk hy268
             clear hy268
             have H' := Aside0.mk H
             clear H
             have p262 : 0 ≤ (x15_2 : Int) := of_decide_eq_true (by assumption)
             have q262 : x15_2 < (l0.length : Int) := of_decide_eq_true (by assumption)
             obtain ⟨ad262, A262_0, c262_0, e262, hx262_0, hl262_0, hi262_0⟩ := at_L2 HR0.out x15_2 p262 q262
             cases e262
             (try replace hx262_0 := (HB.out.cell (World.block_lt_of_cell? w _ hx262_0)).trans hx262_0)
             have HR262_0 := Aside0.mk hi262_0
             have HC262_0 := Aside0.mk hl262_0
             clear hi262_0 hl262_0
             replace p262 := eq_true p262
             replace q262 := eq_true q262
             obtain ⟨Ao21, co21, eo21⟩ := Kd.R_slice HO_6.out
             subst eo21
             go_wp2_with (first | ((with_reducible refine gate_callee (f := 107) rfl ?_); refine goesL_ (some 21) rfl rfl Try.func107 (by kernel_rfl) rfl #[.slice A262_0 (rd_L2 l0 x15_2).length c262_0, .slice Ao21 x6_2.length co21] rfl (by simp only [zA_, zB_, zD_] <;> rfl) ?_; (with_reducible refine (impl_meets.calls _ _ (rd_L2 l0 x15_2) _ _ x6_2 false _ ?side1 ?side2 ?side3 ?side4 A8.out).mono ?_); (case side1 => exact zC_ (Kd.C_below HR262_0.out HB.out)); (case side2 => exact HC262_0.out); (case side3 => exact zC_ (Kd.R_reads' HO_6.out).2.2); (case side4 => exact (Kd.R_reads' HO_6.out).2.1); rintro e w22 ⟨rfl, hb⟩; refine ⟨_, rfl, ?_⟩; have n0_ := Aside0.mk (Kd.R_below (zR_ HO_6.out) hb); have n1_ := Aside0.mk (below_step (zb_ HB.out) hb); clear HO_6; clear HB; have HO_6 := n0_; have HB := n1_; clear n0_ n1_; (try clear hb); (try clear hb2); (try clear hk); (try clear hi)) | ((with_reducible refine gate_callee (f := 108) rfl ?_); refine goesL_ (some 24) rfl rfl Try.func108 (by kernel_rfl) rfl #[.slice A262_0 (rd_L2 l0 x15_2).length c262_0, .slice Ao21 x6_2.length co21] rfl (by simp only [zA_, zB_, zD_] <;> rfl) ?_; (with_reducible refine (impl_without.calls _ _ (rd_L2 l0 x15_2) _ _ x6_2 t264 _ ?side1 ?side2 ?side3 ?side4 A12.out).mono ?_); (case side1 => exact zC_ (Kd.C_below HR262_0.out HB.out)); (case side2 => exact HC262_0.out); (case side3 => exact zC_ (Kd.R_reads' HO_6.out).2.2); (case side4 => exact (Kd.R_reads' HO_6.out).2.1); rintro e w23 ⟨v265, rfl, ho0, hb⟩; refine ⟨_, rfl, ?_⟩; have n0_ := Aside0.mk (Kd.R_elder' (zR_ HO_6.out) (Kd.R_base ho0) hb); have n1_ := Aside0.mk (Kd.R_lower (Kd.R_new' ho0 (Kd.R_lt (zR_ HO_6.out))) (below_size (zb_ HB.out))); have n2_ := Aside0.mk (below_step (zb_ HB.out) hb); clear HO_6; clear HB; have HO_6 := n0_; have HO266 := n1_; have HB := n2_; clear n0_ n1_ n2_; (try clear hb); (try clear hb2); (try clear hk); (try clear hi); (try clear ho0); obtain ⟨Ao24, co24, eo24⟩ := Kd.R_slice HO266.out; subst eo24; have p267 : 0 ≤ (0 : Int) := (by omega); have q267 : 0 < (t264.length : Int) := of_decide_eq_true (by assumption); obtain ⟨ad267, e267, hx267_0⟩ := Kd.at_int (Kd.R_reads' HO266.out).2.2 0 p267 q267; cases e267; have qi267 : (0 < t264.length) = True := eq_true (by omega); (try rw [show ((0 : Int)).toNat = 0 from rfl] at hx267_0); (try rw [Addr.add_zero'] at hx267_0); replace p267 := eq_true p267; replace q267 := eq_true q267) | ((with_reducible refine gate_builtin (b := .append) (xs := #[.tmp 32, .tmp 36]) rfl ?_); at_builtin; refine Kd.R_append (Kd.int .i64) (w0 := w) w.heap.size rfl (.tmp 32) (.tmp 36) 24 3 (.int .i64 0) 8 rfl Try.underlying24 info3 rfl (by decide) (by omega) (.slice Ao21 x6_2.length co21) x6_2 (rd t264 0) [.int .i64 (rd t264 0)] (fun k_ => some k_ ≠ (.slice (some ad267) t264.length co24 : Value).ownBlock) (fun _ => False) rfl rfl ?aP (fun _ hk => hk.elim) ?aF ?aO ?aB ?aS ?aL ?_; (case aP => exact rfl); (case aB => exact (zb_ HB.out)); (case aF => exact (fun k_ hk => Kd.fresh' (Kd.R_lt (zR_ HO266.out)) k_ hk)); (case aO => exact (by (with_reducible repeat (first | apply Kd.R_alloc | apply Kd.R_drewN | apply Kd.R_drew)); exact Kd.R_mono HO_6.out (fun _ hk => hk.2))); (case aS => exact (below_size (zb_ HB.out))); (case aL => have := LMc20.out; omega); intro v269 w25 ho hb hg hat; rw [← Ny268.out] at ho; have n0_ := Aside0.mk (Kd.R_after (ok := (fun _ => True)) (zR_ HO266.out) hg hat); have n1_ := Aside0.mk (hb); have n2_ := Aside0.mk (ho); clear HO266; clear HB; clear HO_6; have HO266 := n0_; have HB := n1_; have HO270 := n2_; clear n0_ n1_ n2_; clear ho hb hg hat))
             go_roundg k2
             case measure => have := HK1.out; have := HK2.out; omega
             case rel => exact ⟨(y268), H', ⟨by have := HK1.out; have := HK2.out; omega⟩, ⟨by (with_reducible repeat (first | apply Kd.R_alloc | apply Kd.R_drewN | apply Kd.R_drew)); exact Kd.R_mono HO270.out (fun _ hk => trivial)⟩, ⟨zb_ HB.out⟩⟩
            ·rw [if_neg c20] at H
             exact absurd H (by simp)
           ·rw [if_neg c19] at H
            exact absurd H (by simp)
          ·rw [if_neg c18] at H
           have c18b0 : ((t264.length : Int) == 1) = false := beq_eq_false_iff_ne.mpr c18
           have c18b1 : ((t264.length : Int) != 1) = true := bne_iff_ne.mpr c18
           have H' := Aside0.mk H
           clear H
           have p262 : 0 ≤ (x15_2 : Int) := of_decide_eq_true (by assumption)
           have q262 : x15_2 < (l0.length : Int) := of_decide_eq_true (by assumption)
           obtain ⟨ad262, A262_0, c262_0, e262, hx262_0, hl262_0, hi262_0⟩ := at_L2 HR0.out x15_2 p262 q262
           cases e262
           (try replace hx262_0 := (HB.out.cell (World.block_lt_of_cell? w _ hx262_0)).trans hx262_0)
           have HR262_0 := Aside0.mk hi262_0
           have HC262_0 := Aside0.mk hl262_0
           clear hi262_0 hl262_0
           replace p262 := eq_true p262
           replace q262 := eq_true q262
           obtain ⟨Ao26, co26, eo26⟩ := Kd.R_slice HO_6.out
           subst eo26
           go_wp2_with (first | ((with_reducible refine gate_callee (f := 107) rfl ?_); refine goesL_ (some 21) rfl rfl Try.func107 (by kernel_rfl) rfl #[.slice A262_0 (rd_L2 l0 x15_2).length c262_0, .slice Ao26 x6_2.length co26] rfl (by simp only [zA_, zB_, zD_] <;> rfl) ?_; (with_reducible refine (impl_meets.calls _ _ (rd_L2 l0 x15_2) _ _ x6_2 false _ ?side1 ?side2 ?side3 ?side4 A8.out).mono ?_); (case side1 => exact zC_ (Kd.C_below HR262_0.out HB.out)); (case side2 => exact HC262_0.out); (case side3 => exact zC_ (Kd.R_reads' HO_6.out).2.2); (case side4 => exact (Kd.R_reads' HO_6.out).2.1); rintro e w27 ⟨rfl, hb⟩; refine ⟨_, rfl, ?_⟩; have n0_ := Aside0.mk (Kd.R_below (zR_ HO_6.out) hb); have n1_ := Aside0.mk (below_step (zb_ HB.out) hb); clear HO_6; clear HB; have HO_6 := n0_; have HB := n1_; clear n0_ n1_; (try clear hb); (try clear hb2); (try clear hk); (try clear hi)) | ((with_reducible refine gate_callee (f := 108) rfl ?_); refine goesL_ (some 24) rfl rfl Try.func108 (by kernel_rfl) rfl #[.slice A262_0 (rd_L2 l0 x15_2).length c262_0, .slice Ao26 x6_2.length co26] rfl (by simp only [zA_, zB_, zD_] <;> rfl) ?_; (with_reducible refine (impl_without.calls _ _ (rd_L2 l0 x15_2) _ _ x6_2 t264 _ ?side1 ?side2 ?side3 ?side4 A12.out).mono ?_); (case side1 => exact zC_ (Kd.C_below HR262_0.out HB.out)); (case side2 => exact HC262_0.out); (case side3 => exact zC_ (Kd.R_reads' HO_6.out).2.2); (case side4 => exact (Kd.R_reads' HO_6.out).2.1); rintro e w28 ⟨v265, rfl, ho0, hb⟩; refine ⟨_, rfl, ?_⟩; have n0_ := Aside0.mk (Kd.R_elder' (zR_ HO_6.out) (Kd.R_base ho0) hb); have n1_ := Aside0.mk (Kd.R_lower (Kd.R_new' ho0 (Kd.R_lt (zR_ HO_6.out))) (below_size (zb_ HB.out))); have n2_ := Aside0.mk (below_step (zb_ HB.out) hb); clear HO_6; clear HB; have HO_6 := n0_; have HO266 := n1_; have HB := n2_; clear n0_ n1_ n2_; (try clear hb); (try clear hb2); (try clear hk); (try clear hi); (try clear ho0); obtain ⟨Ao29, co29, eo29⟩ := Kd.R_slice HO266.out; subst eo29))
           go_roundg k2
           case measure => have := HK1.out; have := HK2.out; omega
           case rel => exact ⟨(x6_2), (x7_2), (wrap64 (x15_2 + 1)), (by first | rfl | (simp; done) | (simp [*]; done)), (by first | rfl | (simp; done) | (simp [*]; done)), H', ⟨by have := HK1.out; have := HK2.out; omega⟩, ⟨by (with_reducible repeat (first | apply Kd.R_alloc | apply Kd.R_drewN | apply Kd.R_drew)); exact Kd.R_mono HO_6.out (fun _ hk => trivial)⟩, ⟨zb_ HB.out⟩⟩
       ·rw [if_neg c7] at H
        exact absurd H (by simp)
      ·rw [if_neg c6] at H
       exact absurd H (by simp)
     ·rw [if_neg c5] at H
      have c5b0 : decide (x15_2 < (l0.length : Int)) = false := decide_eq_false c5
      clear c5
      by_cases c30 : x7_2 = true
      ·subst c30
       have H1 : (impl_propagate.l0 k2 l0 x6_2) = some (r1, r2) := by rw [if_pos rfl] at H; exact H
       clear H
       have H := H1
       clear H1
       have H' := Aside0.mk H
       clear H
       go_wp2
       go_roundg k2
       case measure => have := HK1.out; have := HK2.out; omega
       case rel => exact ⟨(x6_2), H', ⟨by have := HK1.out; have := HK2.out; omega⟩, ⟨zR_ HO_6.out⟩, ⟨zb_ HB.out⟩⟩
      ·replace c30 := Bool.eq_false_iff.mpr c30
       subst c30
       have H1 : (some (x6_2, false)) = some (r1, r2) := by rw [if_neg (show ¬ (false = true) by decide)] at H; exact H
       clear H
       have H := H1
       clear H1
       simp only [Option.some.injEq, Prod.mk.injEq] at H
       obtain ⟨rfl, rfl⟩ := H
       go_wp2
       go_ret2
       exact ⟨_, by first | rfl | (simp [errW_none, errW_some] <;> rfl) | (simp [*, errW_none, errW_some] <;> rfl), zR_ HO_6.out, zb_ HB.out⟩
end Go.Proofs.Ytpkbjgmeejlchab.PFnFollows
-- squeezed
