-- Made by a program of this session (wip/tools), which leans on the kit's print: checked by Lean alone.
import Derived.Test.YtpkbjgmeejlchabPFnResolvedx0
import Derived.Test.YtpkbjgmeejlchabPFnResolvedx1
import Derived.Test.YtpkbjgmeejlchabPFnResolvedx2
import Derived.Test.YtpkbjgmeejlchabPFnResolvedx3
import Derived.Test.YtpkbjgmeejlchabPFnResolvedx5
namespace Go.Proofs.Ytpkbjgmeejlchab.PFnResolved
open Go.RowKit Go.Proofs.YtpkbjgmeejlchabW.PrintWords Go.Proofs.YtpkbjgmeejlchabW.PrintLast Go.Proofs.YtpkbjgmeejlchabW.PrintMore
attribute [local go_sem] max2_int min2_int max_two min_two max_three min_three max_four min_four   -- for this text's walks alone
set_option linter.unusedVariables false
set_option linter.unusedSimpArgs false

/-! ### slices_DeleteFunc_int_int: function 113 -/
theorem given_zeros {base g cap n e : Nat} {ok : Nat → Prop} : ∀ (m i : Nat) (w : World) (ys : List Int), Kd.R (Kd.int .i64) e w base ok (.slice (some ⟨g, 0, none⟩) n cap) ys →
  ∃ zs : List Int, Kd.R (Kd.int .i64) e (w.setCells g i (List.replicate m (.int .i64 0))) base ok (.slice (some ⟨g, 0, none⟩) n cap) zs ∧ zs.length = ys.length ∧ zs.take i = ys.take i ∧ w.grownBy (w.setCells g i (List.replicate m (.int .i64 0))) (some g)
 | 0, i, w, ys, h => ⟨ys, h, rfl, rfl, grown_of_below (Below.refl _ _) _⟩
 | m + 1, i, w, ys, h => by
  obtain ⟨h1, hg1⟩ := Kd.R_putg h (i : Int) 0
  rw [show ((i : Int).toNat) = i by omega] at h1 hg1
  obtain ⟨zs, h2, h3, h4, h5⟩ := given_zeros m (i + 1) _ _ h1
  refine ⟨zs, h2, by rw [h3, List.length_set], ?_, ?_⟩
  ·have := congrArg (List.take i) h4
   rw [List.take_take, List.take_take, Nat.min_eq_left (by omega)] at this
   rw [this]
   exact List.take_set_of_le (by omega)
  ·exact hg1.trans h5
theorem pidx_found (p : Int → Bool) (l : List Int) (h : l.any p = true) : pidx p l = (l.findIdx p : Int) := by
 unfold pidx
 rw [if_pos h]
set_option maxHeartbeats 16000000 in
set_option maxRecDepth 100000 in
theorem slices_DeleteFunc_int_calls (p : Int → Bool) (g : Nat) (lb : Array Value) (eg : ∀ args w, (callFunc g args).run Try.prog w = .ok (.enter g args) w) (w0 w : World) (v : Value) (l : List Int) (hB : Below w0.heap.size w0 w) (ho : Kd.R (Kd.int .i64) 3 w w0.heap.size (fun _ => True) v l)
  (hp : ∀ (x : Int) (W : World), Below w0.heap.size w0 W → (∀ k, some k ≠ v.ownBlock → k < w.heap.size → W.heap[k]? = w.heap[k]?) → Calls Try.prog g (#[.int .i64 x] ++ lb) W fun e w' => e = .returned (.bool (p x)) ∧ ∃ q, w' = W.drewN q) :
  Calls Try.prog 113 #[v, .func (.func g) #[] lb] w fun e w' => ∃ v0_ : Value, e = .returned v0_ ∧ Kd.R (Kd.int .i64) 3 w' w0.heap.size (fun _ => True) v0_ (l.filter fun x => !p x) ∧ Below w0.heap.size w0 w' := by
 have HB := Aside0.mk hB
 have HP := Aside0.mk hp
 have HO := Aside0.mk ho
 obtain ⟨A0, c0, rfl, hlc, hC⟩ := Kd.R_reads ho
 have HIF := Aside0.mk (slices_IndexFunc_int_calls p g lb eg A0 c0 l w hC (fun x q _ => hp x (w.drewN q) (pw_below_drewN hB q) (fun k _ _ => rfl)))
 clear hB hp hlc
 cases hany : l.any p with
 | false =>
  have hi : pidx p l = -1 := by unfold pidx; rw [hany]; rfl
  have hf : (l.filter fun x => !p x) = l := by
   rw [List.filter_eq_self]
   intro x hx
   have := List.any_eq_false.1 hany x hx
   simpa using this
  rw [hi] at HIF
  rw [hf]
  clear hi hf hany hC ho HP
  go_enter Try.func113, Try.ntmps113
  go_wp2_with (go_at_call 116; (with_reducible refine HIF.out.mono ?_); rintro e w' ⟨rfl, ⟨nd, rfl⟩⟩)
  go_ret
  exact ⟨_, rfl, zR_ HO.out, zb_ HB.out⟩
 | true =>
  obtain ⟨i0, hi, hlt, hhit, hmiss⟩ : ∃ i0 : Nat, pidx p l = (i0 : Int) ∧ i0 < l.length ∧ (∀ x, l[i0]? = some x → p x = true) ∧ ∀ j x, j < i0 → l[j]? = some x → p x = false := by
   have hlt : l.findIdx p < l.length := List.findIdx_lt_length_of_exists (by simpa using List.any_eq_true.1 hany)
   refine ⟨l.findIdx p, pidx_found p l hany, hlt, fun x hx => ?_, fun j x hj hx => ?_⟩
   ·rw [List.getElem?_eq_getElem hlt] at hx
    rw [← Option.some.inj hx]
    exact List.findIdx_getElem
   ·rw [List.getElem?_eq_getElem (by omega)] at hx
    rw [← Option.some.inj hx]
    simpa using List.not_of_lt_findIdx hj
  rw [hi] at HIF
  obtain ⟨g0, cap, e0, hg0, hg0l, cells0, hh0⟩ := Kd.R_form ho (by omega)
  injection e0 with ea en ec
  subst ea ec
  have hmax := hC.2.1
  have HI0 := Aside0.mk (show (l.take i0).filter (fun x => !p x) = l.take i0 ∧ (l.take (i0 + 1)).filter (fun x => !p x) = l.take i0 by
   have h1 : (l.take i0).filter (fun x => !p x) = l.take i0 := by
    rw [List.filter_eq_self]
    intro x hx
    obtain ⟨j, hj, rfl⟩ := List.mem_iff_getElem.1 hx
    rw [List.getElem_take]
    have hj' : j < i0 := by rw [List.length_take] at hj; omega
    rw [hmiss j _ hj' (List.getElem?_eq_getElem (by omega))]
    rfl
   refine ⟨h1, ?_⟩
   rw [List.take_succ_eq_append_getElem hlt, List.filter_append, h1]
   simp [hhit _ (List.getElem?_eq_getElem hlt)])
  have HLT := Aside0.mk hlt
  have HG0 := Aside0.mk hg0
  have HG1 := Aside0.mk hg0l
  have HMX := Aside0.mk hmax
  have HKP := Aside0.mk (show ∀ k, k ≠ g0 → k < w.heap.size → w.heap[k]? = w.heap[k]? from fun _ _ _ => rfl)
  have hne1 : ((i0 : Int) == -1) = false := beq_eq_false_iff_ne.2 (by omega)
  have hw1 : wrap64 ((i0 : Int) + 1) = ((i0 : Int) + 1) := by unfold wrap64; omega
  have HW1 := Aside0.mk hw1
  clear hi hany hC ho hhit hmiss hg0 hg0l hh0 cells0 hmax hlt hw1 en
  go_enter Try.func113, Try.ntmps113
  go_wp2_with (go_at_call 116; (with_reducible refine HIF.out.mono ?_); rintro e w' ⟨rfl, ⟨nd, rfl⟩⟩)
  go_loopg [5, 6, 7] l.length (fun kq s5 s6 _ w' => ∃ (i j : Nat) (ys : List Int), s5 = .int .i64 (i : Int) ∧ s6 = .int .i64 (j : Int) ∧ Aside0 (i < j ∧ j ≤ l.length ∧ l.length - j ≤ kq ∧ ys.length = l.length ∧ ys.take i = (l.take j).filter (fun x => !p x) ∧ ys.drop j = l.drop j) ∧ Aside0 (Kd.R (Kd.int .i64) 3 w' w0.heap.size (fun _ => True) (.slice (some ⟨g0, 0, none⟩) l.length c0) ys) ∧ Aside0 (Below w0.heap.size w0 w') ∧ Aside0 (w.heap.size ≤ w'.heap.size ∧ ∀ k, k ≠ g0 → k < w.heap.size → w'.heap[k]? = w.heap[k]?))
  case atStart =>
   refine ⟨i0, i0 + 1, l, rfl, ?_, ⟨by omega, HLT.out, by omega, rfl, HI0.out.2.symm, rfl⟩, ⟨zR_ HO.out⟩, ⟨zb_ HB.out⟩, ⟨Nat.le_refl _, fun _ _ _ => rfl⟩⟩
   first | rfl | (rw [HW1.out]; rfl) | (simp [HW1.out])
  case round =>
   clear HB HO HKP HIF HI0 hne1 HW1
   obtain ⟨i, j, ys, rfl, rfl, HA, HO, HB, HKP⟩ := hrel
   by_cases hjn : j < l.length
   ·have hz := HA.out.2.2.2.1
    have c3b0 : decide ((j : Int) < (l.length : Int)) = true := decide_eq_true (by omega)
    have c3b1 := eq_true (show (j : Int) < (l.length : Int) by omega)
    have c3b2 := eq_true hjn
    obtain ⟨hxj, _⟩ := Kd.R_celln 0 HO.out (j : Int) (by omega) (by omega)
    obtain ⟨hxi, hfi⟩ := Kd.R_celln 0 HO.out (i : Int) (by omega) (by have := HA.out.1; omega)
    obtain ⟨x, hx⟩ : ∃ x, l[j]? = some x := ⟨_, List.getElem?_eq_getElem hjn⟩
    have hval : rdOf 0 ys (j : Int) = x := by
     have h1 := congrArg (fun z => z[0]?) HA.out.2.2.2.2.2
     simp only [List.getElem?_drop, Nat.add_zero] at h1
     unfold rdOf
     rw [List.getD_eq_getElem?_getD, show ((j : Int).toNat) = j by omega, h1, hx]
     rfl
    rw [hval] at hxj
    have HP7 := Aside0.mk (Kd.R_putg HO.out (i : Int) x)
    have HW := Aside0.mk (show wrap64 ((j : Int) + 1) = ((j + 1 : Nat) : Int) by have := HMX.out; unfold wrap64; omega)
    have HWi := Aside0.mk (show wrap64 ((i : Int) + 1) = ((i + 1 : Nat) : Int) by have := HMX.out; have := HA.out.1; unfold wrap64; omega)
    have HLJ := Aside0.mk hjn
    have hcall := Aside0.mk (HP.out x wr HB.out (fun k hk hkl => HKP.out.2 k (fun e => hk (by rw [e]; rfl)) hkl))
    have hij := eq_true (show (i : Int) < (l.length : Int) by have := HA.out.1; omega)
    have htk : (l.take (j + 1)).filter (fun x => !p x) = (l.take j).filter (fun x => !p x) ++ (if p x = true then [] else [x]) := by
     rw [List.take_add_one, hx, List.filter_append]
     by_cases hq : p x = true
     ·simp [hq]
     ·simp [hq]
    have HTK := Aside0.mk htk
    rw [show ((j : Int).toNat) = j by omega] at hxj
    rw [show ((i : Int).toNat) = i by omega] at hxi hfi
    have HX := Aside0.mk hx
    clear hval htk hz hjn hx
    cases hq : p x with
    | true =>
     rw [hq] at hcall HTK
     clear hq
     go_wp2_with (go_at_fn g; (with_reducible refine hcall.out.mono ?_); rintro e w' ⟨rfl, q', rfl⟩)
     go_roundg (gk - 1)
     case measure => have := HA.out.2.2.1; have := HLJ.out; omega
     case rel =>
      refine ⟨i, j + 1, ys, rfl, by first | rfl | (rw [← HW.out]; done) | (rw [HW.out]; done) | simp [HW.out], ⟨by have := HA.out.1; omega, HLJ.out, by have := HA.out.2.2.1; omega, HA.out.2.2.2.1, ?_, ?_⟩, ⟨zR_ HO.out⟩, ⟨zb_ HB.out⟩, ⟨HKP.out.1, HKP.out.2⟩⟩
      ·rw [HTK.out, HA.out.2.2.2.2.1]
       simp
      ·have h1 := congrArg (List.drop 1) HA.out.2.2.2.2.2
       rw [List.drop_drop, List.drop_drop] at h1
       exact h1
    | false =>
     rw [hq] at hcall HTK
     clear hq
     go_wp2_with (first | (go_at_fn g; (with_reducible refine hcall.out.mono ?_); rintro e w' ⟨rfl, q', rfl⟩) | ((with_reducible refine gate_store (t := 3) (p := 33) rfl ?_); refine store_event (t := 3) (p := 33) (v := ?vo_w8) (w1 := ((wr.drewN q').setCell ⟨g0, i, none⟩ (.int .i64 x))) ?hg ?ho ?hn ?hr ?_; (case ho => rfl); (case hg => rfl); (case hn => rfl); (case hr => first | (go_simp; done) | (go_simp; rfl)); intro w8 hw; have n0_ := Aside0.mk (show Kd.R (Kd.int .i64) 3 w8 w0.heap.size (fun _ => True) (.slice (some ⟨g0, 0, none⟩) l.length c0) (ys.set i x) by rw [hw]; exact Kd.R_drewN HP7.out.1 q'); have n1_ := Aside0.mk (show Below w0.heap.size w0 w8 by rw [hw]; exact below_set (pw_below_drewN HB.out q') HG0.out); have n2_ := Aside0.mk (show w.heap.size ≤ w8.heap.size ∧ ∀ k, k ≠ g0 → k < w.heap.size → w8.heap[k]? = w.heap[k]? by rw [hw]; exact ⟨by simpa [World.setCell] using HKP.out.1, fun k hk hkl => (Below.heap_setCell (wr.drewN q') ⟨g0, i, none⟩ _ k hk).trans (HKP.out.2 k hk hkl)⟩); clear HB HO HKP hw; have HO := n0_; have HB := n1_; have HKP := n2_; clear n0_ n1_ n2_))
     go_roundg (gk - 1)
     case measure => have := HA.out.2.2.1; have := HLJ.out; omega
     case rel =>
      refine ⟨i + 1, j + 1, ys.set i x, by first | rfl | (rw [← HWi.out]; done) | (rw [HWi.out]; done) | simp [HWi.out], by first | rfl | (rw [← HW.out]; done) | (rw [HW.out]; done) | simp [HW.out], ⟨by have := HA.out.1; omega, HLJ.out, by have := HA.out.2.2.1; omega, by rw [List.length_set]; exact HA.out.2.2.2.1, ?_, ?_⟩, ⟨zR_ HO.out⟩, ⟨zb_ HB.out⟩, ⟨HKP.out.1, HKP.out.2⟩⟩
      ·have hil : i < (ys.set i x).length := by rw [List.length_set, HA.out.2.2.2.1]; have := HA.out.1; have := HLJ.out; omega
       rw [HTK.out, List.take_succ_eq_append_getElem hil, List.take_set_of_le (by omega), HA.out.2.2.2.2.1]
       simp
      ·rw [List.drop_set_of_lt (by have := HA.out.1; omega)]
       have h1 := congrArg (List.drop 1) HA.out.2.2.2.2.2
       rw [List.drop_drop, List.drop_drop] at h1
       exact h1
   ·have hjl : j = l.length := by have := HA.out.2.1; omega
    have c3b0 : decide ((j : Int) < (l.length : Int)) = false := decide_eq_false (by omega)
    have c3b1 := eq_false (show ¬ (j : Int) < (l.length : Int) by omega)
    have hil : i < l.length := by have := HA.out.1; omega
    have hz := HA.out.2.2.2.1
    obtain ⟨zs, hR, hzl, hzt, hgr⟩ := given_zeros (l.length - i) i wr ys HO.out
    have hcl : ∀ ty, (Builtin.clear_ #[24] ty #[.slice (some ⟨g0, i, none⟩) (l.length - i) (c0 - i)]).run Try.prog wr = .ok (.tuple #[]) (wr.setCells g0 i (List.replicate (l.length - i) (.int .i64 0))) :=
     fun ty => Lib.run_clear_slice wr 24 3 ty (.int .i64 0) Try.underlying24 (fun _ => by kernel_rfl) rfl rfl g0 i _ _ (by omega)
      (fun t ht => by rw [← show (((i + t : Nat) : Int).toNat) = i + t by omega, (Kd.R_celln 0 HO.out ((i + t : Nat) : Int) (by omega) (by omega)).1]; rfl)
      (fun t ht => by rw [← show (((i + t : Nat) : Int).toNat) = i + t by omega]; exact (Kd.R_celln 0 HO.out ((i + t : Nat) : Int) (by omega) (by omega)).2)
    have HF := Aside0.mk (show (l.filter fun x => !p x) = zs.take i by
     have h1 := HA.out.2.2.2.2.1
     rw [hjl, List.take_length] at h1
     rw [← h1, hzt])
    have HR := Aside0.mk (Kd.R_take hR (show i ≤ zs.length by omega))
    have HBf := Aside0.mk (show Below w0.heap.size w0 (wr.setCells g0 i (List.replicate (l.length - i) (.int .i64 0))) from HB.out.grown hgr (HB.out.size) (fun k hk => by injection hk with hk; subst hk; exact HG0.out))
    have q1 := eq_true (show (0 : Int) ≤ (i : Int) by omega)
    have q2 := eq_true (show (i : Int) ≤ (l.length : Int) by omega)
    have q2b : decide ((i : Int) ≤ (l.length : Int)) = true := decide_eq_true (of_eq_true q2)
    have q3 := eq_true (show (i : Int) ≤ (c0 : Int) by have := (Kd.R_reads HO.out); obtain ⟨_, _, e_, h_, _⟩ := this; injection e_ with _ _ e3; omega)
    have q4 := eq_true (show i ≤ l.length by omega)
    have q5 := eq_true (show i < c0 by have := (Kd.R_reads HO.out); obtain ⟨_, _, e_, h_, _⟩ := this; injection e_ with _ _ e3; omega)
    have q6 := eq_false (show ¬ c0 = i by have := of_eq_true q5; omega)
    have q7 := eq_false (show ¬ i = c0 by have := of_eq_true q5; omega)
    clear hR hzl hzt hgr hjn hjl hil hz HO
    go_wp2
    go_ret
    exact ⟨_, rfl, by rw [HF.out]; exact HR.out, HBf.out⟩


/-! ### impl_resolve_1: function 114 -/
set_option maxHeartbeats 8000000 in
set_option maxRecDepth 100000 in
theorem impl_resolve_1_calls (n v : Int) (B : Nat) (w : World) (hc : w.cell? ⟨B, 0, none⟩ = some (.int .i64 v)) :
  Calls Try.prog 114 (#[.int .i64 n] ++ #[.pointer (some ⟨B, 0, none⟩)]) w fun e w' => e = .returned (.bool (n == v)) ∧ ∃ q, w' = w.drewN q := by
 show Calls Try.prog 114 #[.int .i64 n, .pointer (some ⟨B, 0, none⟩)] w _
 go_enter Try.func114, Try.ntmps114
 go_wp2
 go_ret
 exact ⟨by first | rfl | simp, 0, by first | rfl | simp⟩


/-! ### impl_resolve_2: function 115 -/
set_option maxHeartbeats 8000000 in
set_option maxRecDepth 100000 in
theorem impl_resolve_2_calls (n v : Int) (B : Nat) (w : World) (hc : w.cell? ⟨B, 0, none⟩ = some (.int .i64 v)) :
  Calls Try.prog 115 (#[.int .i64 n] ++ #[.pointer (some ⟨B, 0, none⟩)]) w fun e w' => e = .returned (.bool (n == wrap64 (-v))) ∧ ∃ q, w' = w.drewN q := by
 show Calls Try.prog 115 #[.int .i64 n, .pointer (some ⟨B, 0, none⟩)] w _
 go_enter Try.func115, Try.ntmps115
 go_wp2
 go_ret
 exact ⟨by first | rfl | simp, 0, by first | rfl | simp⟩


/-! ### impl_resolve: function 86 -/
def impl_resolve.f (k : Nat) (l0 l1 : List Int) (a2 : Int) : Option (List Int × Bool) := if l0.length + l1.length < 17592186044416 then impl_clean.f k ((l0.filter fun x => !(x == a2)) ++ (l1.filter fun x => !(x == wrap64 (-a2)))) else none
theorem impl_resolve.mono : ∀ a0 a1 a2 k, LeO (impl_resolve.f k a0 a1 a2) (impl_resolve.f (k + 1) a0 a1 a2) := by
 intro a0 a1 a2 k
 unfold impl_resolve.f
 exact LeO.ite (impl_clean.mono _ _) (LeO.refl _)
set_option maxHeartbeats 1000000 in
set_option maxRecDepth 100000 in
theorem impl_resolve.calls (k : Nat) (A0 : Option Addr) (c0 : Nat) (l0 : List Int) (A1 : Option Addr) (c1 : Nat) (l1 : List Int) (a2 : Int) (r1 : List Int) (r2 : Bool) (w : World) (hr0 : Kd.C (Kd.int .i64) w A0 l0.length l0) (hc0 : l0.length ≤ c0) (hr1 : Kd.C (Kd.int .i64) w A1 l1.length l1) (hc1 : l1.length ≤ c1) (h : impl_resolve.f k l0 l1 a2 = some (r1, r2)) :
  Calls Try.prog 86 #[.slice A0 l0.length c0, .slice A1 l1.length c1, .int .i64 a2] w fun e w' => ∃ v0_ : Value, e = .returned (.tuple #[v0_, .bool r2]) ∧ Kd.R (Kd.int .i64) 3 w' w.heap.size (fun _ => True) v0_ r1 ∧ Below w.heap.size w w' := by
 have HR0 := Aside0.mk hr0
 have HC0 := Aside0.mk hc0
 have HR1 := Aside0.mk hr1
 have HC1 := Aside0.mk hc1
 clear hr0 hc0 hr1 hc1
 unfold impl_resolve.f at h
 by_cases c3 : l0.length + l1.length < 17592186044416
 ·rw [if_pos c3] at h
  have HW := Aside0.mk h
  have HV0 := Aside0.mk (show slices_Clone_int_int.f l0 = some l0 by unfold slices_Clone_int_int.f; rw [if_pos (by omega)])
  have HV1 := Aside0.mk (show slices_Clone_int_int.f l1 = some l1 by unfold slices_Clone_int_int.f; rw [if_pos (by omega)])
  have LM := Aside0.mk (show (l0.filter fun x => !(x == a2)).length + (l1.filter fun x => !(x == wrap64 (-a2))).length < 17592186044416 by
   have h1 := List.length_filter_le (fun x => !(x == a2)) l0
   have h2 := List.length_filter_le (fun x => !(x == wrap64 (-a2))) l1
   omega)
  obtain ⟨y6, hy6⟩ : ∃ y_ : List Int, y_ = l0.filter fun x => !(x == a2) := ⟨_, rfl⟩
  obtain ⟨y8, hy8⟩ : ∃ y_ : List Int, y_ = l1.filter fun x => !(x == wrap64 (-a2)) := ⟨_, rfl⟩
  obtain ⟨y9, hy9⟩ : ∃ y_ : List Int, y_ = y6 ++ y8 := ⟨_, rfl⟩
  have HY9 := Aside0.mk (show impl_clean.f k y9 = some (r1, r2) by rw [hy9, hy6, hy8]; exact HW.out)
  have LM := Aside0.mk (show y6.length + y8.length < 17592186044416 by rw [hy6, hy8]; exact LM.out)
  have N6 := Aside0.mk hy6
  have N8 := Aside0.mk hy8
  have N9 := Aside0.mk hy9
  clear c3 h hy6 hy8 hy9 HW
  have HB := Aside0.mk (Below.refl w.heap.size w)
  have eg1 := enters_of Try.func114 (by kernel_rfl) rfl
  have eg2 := enters_of Try.func115 (by kernel_rfl) rfl
  go_enter Try.func86, Try.ntmps86
  go_wp2_with (first | ((with_reducible refine gate_dst (N := 5) rfl ?_); refine box_event ?hg (N := 5) ?hd (cs := #[.int .i64 a2]) (t := 3) ?hr ?_; (case hd => rfl); (case hg => rfl); (case hr => first | (go_simp; done) | (go_simp; rfl)); intro gb hg w2 hbox hb; have n0_ := Aside0.mk (below_step (zb_ HB.out) hb); have n1_ := Aside0.mk hbox; have n2_ := Aside0.mk (Below.refl w2.heap.size w2); clear HB; have HB2 := n0_; have BK2 := n1_; have HS2 := n2_; clear n0_ n1_ n2_; clear hb hbox hg) | (have z_ := HS2; clear z_; go_at_call 106; (with_reducible refine (slices_Clone_int_int.calls _ _ l0 l0 _ ?s1 HC0.out HV0.out).mono ?_); (case s1 => exact zC_ (Kd.C_below HR0.out HB2.out)); rintro e w5 ⟨v5, rfl, ho, hb⟩; have n0_ := Aside0.mk (Kd.R_lower ho (below_size (by repeat (first | (with_reducible first | exact HS2.out | apply below_alloc | apply pw_below_drewN | apply below_drew1) | exact HS2.out)))); have n1_ := Aside0.mk (below_step (by repeat (first | (with_reducible first | exact HS2.out | apply below_alloc | apply pw_below_drewN | apply below_drew1) | exact HS2.out)) hb); clear HS2; have HO5 := n0_; have HS5 := n1_; clear n0_ n1_ hb ho) | (have z_ := HO5; clear z_; go_at_call 113; refine (slices_DeleteFunc_int_calls (fun n => n == a2) 114 #[.pointer (some ⟨gb, 0, none⟩)] eg1 w2 _ v5 l0 ?s1 ?s2 ?s3).mono ?_; (case s1 => repeat (first | (with_reducible first | exact HS5.out | apply below_alloc | apply pw_below_drewN | apply below_drew1) | exact HS5.out)); (case s2 => (with_reducible repeat (first | apply Kd.R_alloc | apply Kd.R_drewN | apply Kd.R_drew)); exact HO5.out); (case s3 => exact fun x W hW hk => impl_resolve_1_calls x a2 gb W (blk_cell (blk_below BK2.out hW) 0)); rintro e w6 ⟨v6, rfl, ho, hb⟩; rw [← N6.out] at ho; have n0_ := Aside0.mk (Kd.R_lower ho (below_size HB2.out)); have n1_ := Aside0.mk (below_step HB2.out hb); have n2_ := Aside0.mk (blk_below BK2.out hb); have n3_ := Aside0.mk (Below.refl w6.heap.size w6); clear HS5 HO5; have HO6 := n0_; have HB6 := n1_; have BK6 := n2_; have HS6 := n3_; clear n0_ n1_ n2_ n3_ ho hb) | (have z_ := HS6; clear z_; go_at_call 106; (with_reducible refine (slices_Clone_int_int.calls _ _ l1 l1 _ ?s1 HC1.out HV1.out).mono ?_); (case s1 => exact zC_ (Kd.C_below HR1.out HB6.out)); rintro e w7 ⟨v7, rfl, ho, hb⟩; have n0_ := Aside0.mk (Kd.R_lower ho (below_size (by repeat (first | (with_reducible first | exact HS6.out | apply below_alloc | apply pw_below_drewN | apply below_drew1) | exact HS6.out)))); have n1_ := Aside0.mk (below_step (by repeat (first | (with_reducible first | exact HS6.out | apply below_alloc | apply pw_below_drewN | apply below_drew1) | exact HS6.out)) hb); clear HS6; have HO7 := n0_; have HS7 := n1_; clear n0_ n1_ hb ho) | (have z_ := HO7; clear z_; go_at_call 113; refine (slices_DeleteFunc_int_calls (fun n => n == wrap64 (-a2)) 115 #[.pointer (some ⟨gb, 0, none⟩)] eg2 w6 _ v7 l1 ?s1 ?s2 ?s3).mono ?_; (case s1 => repeat (first | (with_reducible first | exact HS7.out | apply below_alloc | apply pw_below_drewN | apply below_drew1) | exact HS7.out)); (case s2 => (with_reducible repeat (first | apply Kd.R_alloc | apply Kd.R_drewN | apply Kd.R_drew)); exact HO7.out); (case s3 => exact fun x W hW hk => impl_resolve_2_calls x a2 gb W (blk_cell (blk_below BK6.out hW) 0)); rintro e w8 ⟨v8, rfl, ho, hb⟩; rw [← N8.out] at ho; have n0_ := Aside0.mk ho; have n1_ := Aside0.mk (below_step HB6.out hb); have n2_ := Aside0.mk (Kd.R_below HO6.out hb); clear HS7 HO7 HO6; have HO8 := n0_; have HB8 := n1_; have HO6 := n2_; clear n0_ n1_ n2_ ho hb; obtain ⟨A8, c8, e8⟩ := Kd.R_slice HO8.out; subst e8) | ((with_reducible refine gate_builtin (b := .append) (xs := #[.tmp 18, .tmp 19]) rfl ?_); at_builtin; refine Kd.R_append_rows (Kd.int .i64) (w0 := w) w.heap.size rfl (.tmp 18) (.tmp 19) 24 3 (.int .i64 0) 8 rfl Try.underlying24 info3 rfl (by decide) (by omega) v6 y6 y8 _ _ _ (fun _ => True) (fun _ => False) rfl rfl ?aO ?aR (fun _ _ h => h) (fun _ h => h.elim) ?aF ?aB ?aS ?aL ?_; (case aR => exact zC_ (Kd.R_reads' HO8.out).2.2); (case aB => exact (by repeat (first | (with_reducible first | exact HB8.out | apply below_alloc | apply pw_below_drewN | apply below_drew1) | exact HB8.out))); (case aF => exact (fun _ _ => trivial)); (case aO => exact (zR_ HO6.out)); (case aS => exact (below_size (by repeat (first | (with_reducible first | exact HB8.out | apply below_alloc | apply pw_below_drewN | apply below_drew1) | exact HB8.out)))); (case aL => have := LM.out; omega); intro v9 w9 ho hb hg hat; rw [← N9.out] at ho; have n0_ := Aside0.mk (hb); have n1_ := Aside0.mk (ho); clear HB8; clear HO8; clear HO6; have HB9 := n0_; have HO9 := n1_; clear n0_ n1_; clear ho hb hg hat; obtain ⟨A9, c9, e9⟩ := Kd.R_slice HO9.out; subst e9) | (go_at_call 94; (with_reducible refine (impl_clean.calls k _ _ y9 r1 r2 _ ?s1 ?s2 HY9.out).mono ?_); (case s1 => exact zC_ (Kd.R_reads' HO9.out).2.2); (case s2 => exact (Kd.R_reads' HO9.out).2.1); rintro e w10 ⟨v10, rfl, ho, hb⟩; have n0_ := Aside0.mk (Kd.R_lower ho (below_size (by repeat (first | (with_reducible first | exact HB9.out | apply below_alloc | apply pw_below_drewN | apply below_drew1) | exact HB9.out)))); have n1_ := Aside0.mk (below_step (by repeat (first | (with_reducible first | exact HB9.out | apply below_alloc | apply pw_below_drewN | apply below_drew1) | exact HB9.out)) hb); clear HO9 HB9; have HO10 := n0_; have HB10 := n1_; clear n0_ n1_ ho hb))
  go_ret2
  exact ⟨_, by first | rfl | simp, zR_ HO10.out, by repeat (first | (with_reducible first | exact HB10.out | apply below_alloc | apply pw_below_drewN | apply below_drew1) | exact HB10.out)⟩
 ·rw [if_neg c3] at h
  exact absurd h (by simp)


/-! ### impl_Resolve: function 36 -/
def impl_Resolve.f (k : Nat) (l0 : List Int) (l1 : List Int) (a2 : Int) : Option (List Int × Bool) := (impl_isClause.f l0 12).bind fun t244 => (if t244 = true then ((impl_isClause.f l1 12).bind fun t245 => (if t245 = true then (if a2 < 1 then (some (([] : List Int), false)) else ((slices_Contains_int_int.f l0 a2).bind fun t246 => (if t246 = true then ((slices_Contains_int_int.f l1 (wrap64 (-a2))).bind fun t247 => (if t247 = true then ((impl_resolve.f k l0 l1 a2).bind fun bt248 => (some (bt248.1, bt248.2))) else (some (([] : List Int), false)))) else (some (([] : List Int), false))))) else (some (([] : List Int), false)))) else (some (([] : List Int), false)))
theorem impl_Resolve.mono : ∀ a0 a1 a2 k, LeO (impl_Resolve.f k a0 a1 a2) (impl_Resolve.f (k + 1) a0 a1 a2) := by
 intro a0 a1 a2 k
 unfold impl_Resolve.f
 repeat' first
   | (with_reducible exact impl_resolve.mono _ _ _ _)
   | (with_reducible exact LeO.refl _)
   | (with_reducible exact LeO.none _)
   | (with_reducible refine LeO.ite ?_ ?_)
   | (with_reducible refine LeO.bind ?_ (fun _ => ?_))
   | exact impl_resolve.mono _ _ _ _
   | exact LeO.none _
   | refine LeO.ite ?_ ?_
   | refine LeO.bind ?_ (fun _ => ?_)
set_option maxHeartbeats 8000000 in
set_option maxRecDepth 100000 in
theorem impl_Resolve.calls (k : Nat) (A0 : Option Addr) (c0 : Nat) (l0 : List Int) (A1 : Option Addr) (c1 : Nat) (l1 : List Int) (a2 : Int) (r1 : List Int) (r2 : Bool) (w : World) (hr0 : Kd.C (Kd.int .i64) w A0 l0.length l0) (hc0 : l0.length ≤ c0) (hr1 : Kd.C (Kd.int .i64) w A1 l1.length l1) (hc1 : l1.length ≤ c1) (h : impl_Resolve.f k l0 l1 a2 = some (r1, r2)) :
  Calls Try.prog 36 #[.slice A0 l0.length c0, .slice A1 l1.length c1, .int .i64 a2] w fun e w' => ∃ v0_ : Value, e = .returned (.tuple #[v0_, .bool r2]) ∧ Kd.R (Kd.int .i64) 3 w' w.heap.size (fun _ => True) v0_ r1 ∧ Below w.heap.size w w' := by
 have HR0 := Aside0.mk hr0
 have HC0 := Aside0.mk hc0
 clear hr0 hc0
 have HR1 := Aside0.mk hr1
 have HC1 := Aside0.mk hc1
 clear hr1 hc1
 have HB := Aside0.mk (Below.refl w.heap.size w)
 have H : ((impl_isClause.f l0 12).bind fun t244 => (if t244 = true then ((impl_isClause.f l1 12).bind fun t245 => (if t245 = true then (if a2 < 1 then (some (([] : List Int), false)) else ((slices_Contains_int_int.f l0 a2).bind fun t246 => (if t246 = true then ((slices_Contains_int_int.f l1 (wrap64 (-a2))).bind fun t247 => (if t247 = true then ((impl_resolve.f k l0 l1 a2).bind fun bt248 => (some (bt248.1, bt248.2))) else (some (([] : List Int), false)))) else (some (([] : List Int), false))))) else (some (([] : List Int), false)))) else (some (([] : List Int), false)))) = some (r1, r2) := h
 clear h
 replace H := Option.bind_eq_some_iff.mp H
 obtain ⟨t244, A40, H⟩ := H
 (try dsimp only at H)
 have A4 := Aside0.mk A40
 clear A40
 by_cases c5 : t244 = true
 ·subst c5
  have H1 : ((impl_isClause.f l1 12).bind fun t245 => (if t245 = true then (if a2 < 1 then (some (([] : List Int), false)) else ((slices_Contains_int_int.f l0 a2).bind fun t246 => (if t246 = true then ((slices_Contains_int_int.f l1 (wrap64 (-a2))).bind fun t247 => (if t247 = true then ((impl_resolve.f k l0 l1 a2).bind fun bt248 => (some (bt248.1, bt248.2))) else (some (([] : List Int), false)))) else (some (([] : List Int), false))))) else (some (([] : List Int), false)))) = some (r1, r2) := by rw [if_pos rfl] at H; exact H
  clear H
  have H := H1
  clear H1
  replace H := Option.bind_eq_some_iff.mp H
  obtain ⟨t245, A60, H⟩ := H
  (try dsimp only at H)
  have A6 := Aside0.mk A60
  clear A60
  by_cases c7 : t245 = true
  ·subst c7
   have H1 : (if a2 < 1 then (some (([] : List Int), false)) else ((slices_Contains_int_int.f l0 a2).bind fun t246 => (if t246 = true then ((slices_Contains_int_int.f l1 (wrap64 (-a2))).bind fun t247 => (if t247 = true then ((impl_resolve.f k l0 l1 a2).bind fun bt248 => (some (bt248.1, bt248.2))) else (some (([] : List Int), false)))) else (some (([] : List Int), false))))) = some (r1, r2) := by rw [if_pos rfl] at H; exact H
   clear H
   have H := H1
   clear H1
   by_cases c8 : a2 < 1
   ·rw [if_pos c8] at H
    have c8b0 : decide (a2 < 1) = true := decide_eq_true c8
    clear c8
    simp only [Option.some.injEq, Prod.mk.injEq] at H
    obtain ⟨rfl, rfl⟩ := H
    go_enter Try.func36, Try.ntmps36
    go_wp2_with (first | ((with_reducible refine gate_callee (f := 58) rfl ?_); refine goesL_ (some 9) rfl rfl Try.func58 (by kernel_rfl) rfl #[.slice A0 l0.length c0, .int .i64 12] rfl (by (try simp only [List.map_toArray, List.map_cons, List.map_nil]); first | done | rfl | (simp only [List.length_drop, List.length_take]; rfl)) ?_; (with_reducible refine (impl_isClause.calls _ _ l0 12 true _ ?side1 ?side2 A4.out).mono ?_); (case side1 => exact zC_ HR0.out); (case side2 => exact HC0.out); rintro e w9 ⟨rfl, hb⟩; refine ⟨_, rfl, ?_⟩; have n0_ := Aside0.mk (below_step (zb_ HB.out) hb); clear HB; have HB := n0_; clear n0_; (try clear hb); (try clear hb2); (try clear hk); (try clear hi)) | (go_at_call 58; (with_reducible refine (impl_isClause.calls _ _ l1 12 true _ ?side1 ?side2 A6.out).mono ?_); (case side1 => exact zC_ (Kd.C_below HR1.out HB.out)); (case side2 => exact HC1.out); rintro e w10 ⟨rfl, hb⟩; have n0_ := Aside0.mk (below_step (zb_ HB.out) hb); clear HB; have HB := n0_; clear n0_; (try clear hb); (try clear hb2); (try clear hk); (try clear hi)))
    go_ret2
    exact ⟨_, by first | rfl | (simp [errW_none, errW_some] <;> rfl) | (simp [*, errW_none, errW_some] <;> rfl), by first | exact Kd.R_nil _ _ _ _ _ | exact Kd.N_nil _ _ _ _ _ | exact Kd.V_nil _ _ _ _ _ | exact Kd.Q_nil _ _ _ _ _ | exact Kd.S_nil _ _ _ _ _, zb_ HB.out⟩
   ·rw [if_neg c8] at H
    have c8b0 : decide (a2 < 1) = false := decide_eq_false c8
    clear c8
    replace H := Option.bind_eq_some_iff.mp H
    obtain ⟨t246, A110, H⟩ := H
    (try dsimp only at H)
    have A11 := Aside0.mk A110
    clear A110
    by_cases c12 : t246 = true
    ·subst c12
     have H1 : ((slices_Contains_int_int.f l1 (wrap64 (-a2))).bind fun t247 => (if t247 = true then ((impl_resolve.f k l0 l1 a2).bind fun bt248 => (some (bt248.1, bt248.2))) else (some (([] : List Int), false)))) = some (r1, r2) := by rw [if_pos rfl] at H; exact H
     clear H
     have H := H1
     clear H1
     replace H := Option.bind_eq_some_iff.mp H
     obtain ⟨t247, A130, H⟩ := H
     (try dsimp only at H)
     have A13 := Aside0.mk A130
     clear A130
     by_cases c14 : t247 = true
     ·subst c14
      have H1 : ((impl_resolve.f k l0 l1 a2).bind fun bt248 => (some (bt248.1, bt248.2))) = some (r1, r2) := by rw [if_pos rfl] at H; exact H
      clear H
      have H := H1
      clear H1
      replace H := Option.bind_eq_some_iff.mp H
      obtain ⟨⟨t248, t249⟩, A150, H⟩ := H
      (try dsimp only at H)
      have A15 := Aside0.mk A150
      clear A150
      simp only [Option.some.injEq, Prod.mk.injEq] at H
      obtain ⟨rfl, rfl⟩ := H
      go_enter Try.func36, Try.ntmps36
      go_wp2_with (first | ((with_reducible refine gate_callee (f := 58) rfl ?_); refine goesL_ (some 9) rfl rfl Try.func58 (by kernel_rfl) rfl #[.slice A0 l0.length c0, .int .i64 12] rfl (by (try simp only [List.map_toArray, List.map_cons, List.map_nil]); first | done | rfl | (simp only [List.length_drop, List.length_take]; rfl)) ?_; (with_reducible refine (impl_isClause.calls _ _ l0 12 true _ ?side1 ?side2 A4.out).mono ?_); (case side1 => exact zC_ HR0.out); (case side2 => exact HC0.out); rintro e w16 ⟨rfl, hb⟩; refine ⟨_, rfl, ?_⟩; have n0_ := Aside0.mk (below_step (zb_ HB.out) hb); clear HB; have HB := n0_; clear n0_; (try clear hb); (try clear hb2); (try clear hk); (try clear hi)) | (go_at_call 58; (with_reducible refine (impl_isClause.calls _ _ l1 12 true _ ?side1 ?side2 A6.out).mono ?_); (case side1 => exact zC_ (Kd.C_below HR1.out HB.out)); (case side2 => exact HC1.out); rintro e w17 ⟨rfl, hb⟩; have n0_ := Aside0.mk (below_step (zb_ HB.out) hb); clear HB; have HB := n0_; clear n0_; (try clear hb); (try clear hb2); (try clear hk); (try clear hi)) | (go_at_call 67; (with_reducible refine (slices_Contains_int_int.calls _ _ l0 a2 true _ ?side1 ?side2 A11.out).mono ?_); (case side1 => exact zC_ (Kd.C_below HR0.out HB.out)); (case side2 => exact HC0.out); rintro e w' ⟨rfl, ⟨nd, rfl⟩⟩) | (go_at_call 67; (with_reducible refine (slices_Contains_int_int.calls _ _ l1 (wrap64 (-a2)) true _ ?side1 ?side2 A13.out).mono ?_); (case side1 => exact Kd.C_below HR1.out (zb_ HB.out)); (case side2 => exact HC1.out); rintro e w' ⟨rfl, ⟨nd, rfl⟩⟩) | ((with_reducible refine gate_callee (f := 86) rfl ?_); refine goesL_ (some 36) rfl rfl Try.func86 (by kernel_rfl) rfl #[.slice A0 l0.length c0, .slice A1 l1.length c1, .int .i64 a2] rfl (by (try simp only [List.map_toArray, List.map_cons, List.map_nil]); first | done | rfl | (simp only [List.length_drop, List.length_take]; rfl)) ?_; (with_reducible refine (impl_resolve.calls k _ _ l0 _ _ l1 a2 t248 t249 _ ?side1 ?side2 ?side3 ?side4 A15.out).mono ?_); (case side1 => exact Kd.C_below HR0.out (zb_ HB.out)); (case side2 => exact HC0.out); (case side3 => exact Kd.C_below HR1.out (zb_ HB.out)); (case side4 => exact HC1.out); rintro e w18 ⟨v250, rfl, ho0, hb⟩; refine ⟨_, rfl, ?_⟩; have n0_ := Aside0.mk (Kd.R_lower ho0 (below_size (zb_ HB.out))); have n1_ := Aside0.mk (below_step (zb_ HB.out) hb); clear HB; have HO251 := n0_; have HB := n1_; clear n0_ n1_; (try clear hb); (try clear hb2); (try clear hk); (try clear hi); (try clear ho0)))
      go_ret2
      exact ⟨_, by first | rfl | (simp [errW_none, errW_some] <;> rfl) | (simp [*, errW_none, errW_some] <;> rfl), zR_ HO251.out, zb_ HB.out⟩
     ·replace c14 := Bool.eq_false_iff.mpr c14
      subst c14
      have H1 : (some (([] : List Int), false)) = some (r1, r2) := by rw [if_neg (show ¬ (false = true) by decide)] at H; exact H
      clear H
      have H := H1
      clear H1
      simp only [Option.some.injEq, Prod.mk.injEq] at H
      obtain ⟨rfl, rfl⟩ := H
      go_enter Try.func36, Try.ntmps36
      go_wp2_with (first | ((with_reducible refine gate_callee (f := 58) rfl ?_); refine goesL_ (some 9) rfl rfl Try.func58 (by kernel_rfl) rfl #[.slice A0 l0.length c0, .int .i64 12] rfl (by (try simp only [List.map_toArray, List.map_cons, List.map_nil]); first | done | rfl | (simp only [List.length_drop, List.length_take]; rfl)) ?_; (with_reducible refine (impl_isClause.calls _ _ l0 12 true _ ?side1 ?side2 A4.out).mono ?_); (case side1 => exact zC_ HR0.out); (case side2 => exact HC0.out); rintro e w19 ⟨rfl, hb⟩; refine ⟨_, rfl, ?_⟩; have n0_ := Aside0.mk (below_step (zb_ HB.out) hb); clear HB; have HB := n0_; clear n0_; (try clear hb); (try clear hb2); (try clear hk); (try clear hi)) | (go_at_call 58; (with_reducible refine (impl_isClause.calls _ _ l1 12 true _ ?side1 ?side2 A6.out).mono ?_); (case side1 => exact zC_ (Kd.C_below HR1.out HB.out)); (case side2 => exact HC1.out); rintro e w20 ⟨rfl, hb⟩; have n0_ := Aside0.mk (below_step (zb_ HB.out) hb); clear HB; have HB := n0_; clear n0_; (try clear hb); (try clear hb2); (try clear hk); (try clear hi)) | (go_at_call 67; (with_reducible refine (slices_Contains_int_int.calls _ _ l0 a2 true _ ?side1 ?side2 A11.out).mono ?_); (case side1 => exact zC_ (Kd.C_below HR0.out HB.out)); (case side2 => exact HC0.out); rintro e w' ⟨rfl, ⟨nd, rfl⟩⟩) | (go_at_call 67; (with_reducible refine (slices_Contains_int_int.calls _ _ l1 (wrap64 (-a2)) false _ ?side1 ?side2 A13.out).mono ?_); (case side1 => exact Kd.C_below HR1.out (zb_ HB.out)); (case side2 => exact HC1.out); rintro e w' ⟨rfl, ⟨nd, rfl⟩⟩))
      go_ret2
      exact ⟨_, by first | rfl | (simp [errW_none, errW_some] <;> rfl) | (simp [*, errW_none, errW_some] <;> rfl), by first | exact Kd.R_nil _ _ _ _ _ | exact Kd.N_nil _ _ _ _ _ | exact Kd.V_nil _ _ _ _ _ | exact Kd.Q_nil _ _ _ _ _ | exact Kd.S_nil _ _ _ _ _, zb_ HB.out⟩
    ·replace c12 := Bool.eq_false_iff.mpr c12
     subst c12
     have H1 : (some (([] : List Int), false)) = some (r1, r2) := by rw [if_neg (show ¬ (false = true) by decide)] at H; exact H
     clear H
     have H := H1
     clear H1
     simp only [Option.some.injEq, Prod.mk.injEq] at H
     obtain ⟨rfl, rfl⟩ := H
     go_enter Try.func36, Try.ntmps36
     go_wp2_with (first | ((with_reducible refine gate_callee (f := 58) rfl ?_); refine goesL_ (some 9) rfl rfl Try.func58 (by kernel_rfl) rfl #[.slice A0 l0.length c0, .int .i64 12] rfl (by (try simp only [List.map_toArray, List.map_cons, List.map_nil]); first | done | rfl | (simp only [List.length_drop, List.length_take]; rfl)) ?_; (with_reducible refine (impl_isClause.calls _ _ l0 12 true _ ?side1 ?side2 A4.out).mono ?_); (case side1 => exact zC_ HR0.out); (case side2 => exact HC0.out); rintro e w21 ⟨rfl, hb⟩; refine ⟨_, rfl, ?_⟩; have n0_ := Aside0.mk (below_step (zb_ HB.out) hb); clear HB; have HB := n0_; clear n0_; (try clear hb); (try clear hb2); (try clear hk); (try clear hi)) | (go_at_call 58; (with_reducible refine (impl_isClause.calls _ _ l1 12 true _ ?side1 ?side2 A6.out).mono ?_); (case side1 => exact zC_ (Kd.C_below HR1.out HB.out)); (case side2 => exact HC1.out); rintro e w22 ⟨rfl, hb⟩; have n0_ := Aside0.mk (below_step (zb_ HB.out) hb); clear HB; have HB := n0_; clear n0_; (try clear hb); (try clear hb2); (try clear hk); (try clear hi)) | (go_at_call 67; (with_reducible refine (slices_Contains_int_int.calls _ _ l0 a2 false _ ?side1 ?side2 A11.out).mono ?_); (case side1 => exact zC_ (Kd.C_below HR0.out HB.out)); (case side2 => exact HC0.out); rintro e w' ⟨rfl, ⟨nd, rfl⟩⟩))
     go_ret2
     exact ⟨_, by first | rfl | (simp [errW_none, errW_some] <;> rfl) | (simp [*, errW_none, errW_some] <;> rfl), by first | exact Kd.R_nil _ _ _ _ _ | exact Kd.N_nil _ _ _ _ _ | exact Kd.V_nil _ _ _ _ _ | exact Kd.Q_nil _ _ _ _ _ | exact Kd.S_nil _ _ _ _ _, zb_ HB.out⟩
  ·replace c7 := Bool.eq_false_iff.mpr c7
   subst c7
   have H1 : (some (([] : List Int), false)) = some (r1, r2) := by rw [if_neg (show ¬ (false = true) by decide)] at H; exact H
   clear H
   have H := H1
   clear H1
   simp only [Option.some.injEq, Prod.mk.injEq] at H
   obtain ⟨rfl, rfl⟩ := H
   go_enter Try.func36, Try.ntmps36
   go_wp2_with (first | ((with_reducible refine gate_callee (f := 58) rfl ?_); refine goesL_ (some 9) rfl rfl Try.func58 (by kernel_rfl) rfl #[.slice A0 l0.length c0, .int .i64 12] rfl (by (try simp only [List.map_toArray, List.map_cons, List.map_nil]); first | done | rfl | (simp only [List.length_drop, List.length_take]; rfl)) ?_; (with_reducible refine (impl_isClause.calls _ _ l0 12 true _ ?side1 ?side2 A4.out).mono ?_); (case side1 => exact zC_ HR0.out); (case side2 => exact HC0.out); rintro e w23 ⟨rfl, hb⟩; refine ⟨_, rfl, ?_⟩; have n0_ := Aside0.mk (below_step (zb_ HB.out) hb); clear HB; have HB := n0_; clear n0_; (try clear hb); (try clear hb2); (try clear hk); (try clear hi)) | (go_at_call 58; (with_reducible refine (impl_isClause.calls _ _ l1 12 false _ ?side1 ?side2 A6.out).mono ?_); (case side1 => exact zC_ (Kd.C_below HR1.out HB.out)); (case side2 => exact HC1.out); rintro e w24 ⟨rfl, hb⟩; have n0_ := Aside0.mk (below_step (zb_ HB.out) hb); clear HB; have HB := n0_; clear n0_; (try clear hb); (try clear hb2); (try clear hk); (try clear hi)))
   go_ret2
   exact ⟨_, by first | rfl | (simp [errW_none, errW_some] <;> rfl) | (simp [*, errW_none, errW_some] <;> rfl), by first | exact Kd.R_nil _ _ _ _ _ | exact Kd.N_nil _ _ _ _ _ | exact Kd.V_nil _ _ _ _ _ | exact Kd.Q_nil _ _ _ _ _ | exact Kd.S_nil _ _ _ _ _, zb_ HB.out⟩
 ·replace c5 := Bool.eq_false_iff.mpr c5
  subst c5
  have H1 : (some (([] : List Int), false)) = some (r1, r2) := by rw [if_neg (show ¬ (false = true) by decide)] at H; exact H
  clear H
  have H := H1
  clear H1
  simp only [Option.some.injEq, Prod.mk.injEq] at H
  obtain ⟨rfl, rfl⟩ := H
  go_enter Try.func36, Try.ntmps36
  go_wp2_with (first | ((with_reducible refine gate_callee (f := 58) rfl ?_); refine goesL_ (some 9) rfl rfl Try.func58 (by kernel_rfl) rfl #[.slice A0 l0.length c0, .int .i64 12] rfl (by (try simp only [List.map_toArray, List.map_cons, List.map_nil]); first | done | rfl | (simp only [List.length_drop, List.length_take]; rfl)) ?_; (with_reducible refine (impl_isClause.calls _ _ l0 12 false _ ?side1 ?side2 A4.out).mono ?_); (case side1 => exact zC_ HR0.out); (case side2 => exact HC0.out); rintro e w25 ⟨rfl, hb⟩; refine ⟨_, rfl, ?_⟩; have n0_ := Aside0.mk (below_step (zb_ HB.out) hb); clear HB; have HB := n0_; clear n0_; (try clear hb); (try clear hb2); (try clear hk); (try clear hi)))
  go_ret2
  exact ⟨_, by first | rfl | (simp [errW_none, errW_some] <;> rfl) | (simp [*, errW_none, errW_some] <;> rfl), by first | exact Kd.R_nil _ _ _ _ _ | exact Kd.N_nil _ _ _ _ _ | exact Kd.V_nil _ _ _ _ _ | exact Kd.Q_nil _ _ _ _ _ | exact Kd.S_nil _ _ _ _ _, zb_ HB.out⟩

/-! ### spec_l4Clause: function 87 -/
def spec_l4Clause.l0 : Nat → Int → List Int → List Int → Int → Int → Option (Bool)
 | 0, _, _, _, _, _ => none
 | k + 1, x0, x1, x7, x8, x9 => if x9 < x8 then (if 0 ≤ x9 then (if x9 < (x7.length : Int) then (if (rd x7 x9) = 0 then (some false) else ((spec_l1In.f (rd x7 x9) (wrap64 (-x0)) x0).bind fun t253 => (if t253 = true then (if x9 ≤ (x1.length : Int) then ((spec_l1Has.f k (x1.take (x9 : Int).toNat) (rd x7 x9)).bind fun t255 => (if t255 = true then (some false) else ((spec_l1Has.f k (x1.take (x9 : Int).toNat) (wrap64 (-(rd x7 x9)))).bind fun t257 => (if t257 = true then (some false) else (spec_l4Clause.l0 k x0 x1 x7 x8 (wrap64 (x9 + 1))))))) else (none)) else (some false)))) else (none)) else (none)) else (some (decide ((x1.length : Int) ≤ 12)))
def spec_l4Clause.f (k : Nat) (a0 : Int) (l1 : List Int) : Option (Bool) := spec_l4Clause.l0 k a0 l1 l1 (l1.length : Int) 0
theorem spec_l4Clause.mono_l : ∀ k, (∀ y0 y1 y2 y3 y4, LeO (spec_l4Clause.l0 k y0 y1 y2 y3 y4) (spec_l4Clause.l0 (k + 1) y0 y1 y2 y3 y4))
 | 0 => fun _ _ _ _ _ r h => by simp [spec_l4Clause.l0] at h
 | k + 1 => by
  have ih0 := spec_l4Clause.mono_l k
  ·intro y0 y1 y2 y3 y4
   unfold spec_l4Clause.l0
   repeat' first
   | (with_reducible exact ih0 _ _ _ _ _)
   | (with_reducible exact spec_l1Has.mono _ _ _)
   | (with_reducible exact LeO.refl _)
   | (with_reducible exact LeO.none _)
   | (with_reducible refine LeO.ite ?_ ?_)
   | (with_reducible refine LeO.bind ?_ (fun _ => ?_))
   | exact ih0 _ _ _ _ _
   | exact spec_l1Has.mono _ _ _
   | exact LeO.none _
   | refine LeO.ite ?_ ?_
   | refine LeO.bind ?_ (fun _ => ?_)
theorem spec_l4Clause.mono : ∀ a0 a1 k, LeO (spec_l4Clause.f k a0 a1) (spec_l4Clause.f (k + 1) a0 a1) := by
 intro a0 a1 k
 have ih0 := spec_l4Clause.mono_l k
 unfold spec_l4Clause.f
 repeat' first
   | (with_reducible exact ih0 _ _ _ _ _)
   | (with_reducible exact spec_l1Has.mono _ _ _)
   | (with_reducible exact LeO.refl _)
   | (with_reducible exact LeO.none _)
   | (with_reducible refine LeO.ite ?_ ?_)
   | (with_reducible refine LeO.bind ?_ (fun _ => ?_))
   | exact ih0 _ _ _ _ _
   | exact spec_l1Has.mono _ _ _
   | exact LeO.none _
   | refine LeO.ite ?_ ?_
   | refine LeO.bind ?_ (fun _ => ?_)
set_option maxHeartbeats 8000000 in
set_option maxRecDepth 100000 in
theorem spec_l4Clause.calls (k : Nat) (a0 : Int) (A1 : Option Addr) (c1 : Nat) (l1 : List Int) (r : Bool) (w : World) (hr1 : Kd.C (Kd.int .i64) w A1 l1.length l1) (hc1 : l1.length ≤ c1) (h : spec_l4Clause.f k a0 l1 = some r) :
  Calls Try.prog 87 #[.int .i64 a0, .slice A1 l1.length c1] w fun e w' => e = .returned (.bool r) ∧ Drawn0 w w' := by
 have HR1 := Aside0.mk hr1
 have HC1 := Aside0.mk hc1
 clear hr1 hc1
 have H : (spec_l4Clause.l0 k a0 l1 l1 (l1.length : Int) 0) = some r := h
 clear h
 have H' := Aside0.mk H
 clear H
 go_enter Try.func87, Try.ntmps87
 go_wp2
 go_loopg [9] k (fun kq v9 w' => ∃ (x9_1 : Int), v9 = .int .i64 x9_1 ∧ Aside0 (spec_l4Clause.l0 kq a0 l1 l1 (l1.length : Int) x9_1 = some r) ∧ Aside0 (kq ≤ k) ∧ Drawn0 w w')
 case atStart => exact ⟨(0), (by first | rfl | (simp; done) | (simp [*]; done)), H', ⟨Nat.le_refl _⟩, by repeat (first | exact Drawn0.refl _ | apply Drawn0.step)⟩
 case round =>
  clear H'
  try clear c1
  try clear p2
  obtain ⟨x9_1, rfl, HA, HK1, ⟨m1, rfl⟩⟩ := hrel
  cases gk with
  | zero => exact absurd HA.out (by simp [spec_l4Clause.l0])
  | succ k1 =>
   have H := HA.out
   clear HA
   simp only [spec_l4Clause.l0] at H
   by_cases c3 : x9_1 < (l1.length : Int)
   ·rw [if_pos c3] at H
    have c3b0 : decide (x9_1 < (l1.length : Int)) = true := decide_eq_true c3
    clear c3
    by_cases c4 : 0 ≤ x9_1
    ·rw [if_pos c4] at H
     have c4b0 : decide (0 ≤ x9_1) = true := decide_eq_true c4
     clear c4
     by_cases c5 : x9_1 < (l1.length : Int)
     ·rw [if_pos c5] at H
      have c5b0 : decide (x9_1 < (l1.length : Int)) = true := decide_eq_true c5
      clear c5
      by_cases c6 : (rd l1 x9_1) = 0
      ·rw [if_pos c6] at H
       have c6b0 : ((rd l1 x9_1) == 0) = true := beq_iff_eq.mpr c6
       have c6b1 : ((rd l1 x9_1) != 0) = false := bne_eq_false_iff_eq.mpr c6
       clear c6
       obtain rfl := Option.some.inj H
       have p252 : 0 ≤ (x9_1 : Int) := of_decide_eq_true (by first | (with_reducible assumption) | assumption)
       have q252 : x9_1 < (l1.length : Int) := of_decide_eq_true (by first | (with_reducible assumption) | assumption)
       obtain ⟨ad252, e252, hx252_0⟩ := Kd.at_int HR1.out x9_1 p252 q252
       cases e252
       replace p252 := eq_true p252
       replace q252 := eq_true q252
       go_wp2
       go_ret
       exact ⟨by first | rfl | (simp; done) | (simp [*]; done), by repeat (first | exact Drawn0.refl _ | apply Drawn0.step)⟩
      ·rw [if_neg c6] at H
       have c6b0 : ((rd l1 x9_1) == 0) = false := beq_eq_false_iff_ne.mpr c6
       have c6b1 : ((rd l1 x9_1) != 0) = true := bne_iff_ne.mpr c6
       replace H := Option.bind_eq_some_iff.mp H
       obtain ⟨t253, A70, H⟩ := H
       (try dsimp only at H)
       have A7 := Aside0.mk A70
       clear A70
       by_cases c8 : t253 = true
       ·subst c8
        have H1 : (if x9_1 ≤ (l1.length : Int) then ((spec_l1Has.f k1 (l1.take (x9_1 : Int).toNat) (rd l1 x9_1)).bind fun t255 => (if t255 = true then (some false) else ((spec_l1Has.f k1 (l1.take (x9_1 : Int).toNat) (wrap64 (-(rd l1 x9_1)))).bind fun t257 => (if t257 = true then (some false) else (spec_l4Clause.l0 k1 a0 l1 l1 (l1.length : Int) (wrap64 (x9_1 + 1))))))) else (none)) = some r := by rw [if_pos rfl] at H; exact H
        clear H
        have H := H1
        clear H1
        have c9b0 := eq_true (of_decide_eq_true (by first | (with_reducible assumption) | assumption) : 0 ≤ x9_1)
        by_cases c10 : x9_1 ≤ (l1.length : Int)
        ·rw [if_pos c10] at H
         have c10b0 := eq_true c10
         have c10b1 : decide (x9_1 ≤ (l1.length : Int)) = true := decide_eq_true c10
         clear c10
         replace H := Option.bind_eq_some_iff.mp H
         obtain ⟨t255, A110, H⟩ := H
         (try dsimp only at H)
         have A11 := Aside0.mk A110
         clear A110
         by_cases c12 : t255 = true
         ·subst c12
          have H1 : (some false) = some r := by rw [if_pos rfl] at H; exact H
          clear H
          have H := H1
          clear H1
          obtain rfl := Option.some.inj H
          have p252 : 0 ≤ (x9_1 : Int) := of_decide_eq_true (by first | (with_reducible assumption) | assumption)
          have q252 : x9_1 < (l1.length : Int) := of_decide_eq_true (by first | (with_reducible assumption) | assumption)
          obtain ⟨ad252, e252, hx252_0⟩ := Kd.at_int HR1.out x9_1 p252 q252
          cases e252
          replace p252 := eq_true p252
          replace q252 := eq_true q252
          go_wp2_with (first | (go_at_call 88; (with_reducible refine (spec_l1In.calls (rd l1 x9_1) (wrap64 (-a0)) a0 true _ A7.out).mono ?_); rintro e w' ⟨rfl, ⟨nd, rfl⟩⟩; obtain ⟨i013, hi013, _, hsz13, _⟩ := info_parts info3; obtain ⟨hcut13, hA13, hC13⟩ := print_take_of (P := Try.prog) (Value.int .i64) 0 24 3 .i64 Try.underlying24 hi013 hsz13 (some ad252) c1 l1 x9_1 (of_decide_eq_true (by first | (with_reducible assumption) | assumption)) (of_decide_eq_true (by first | (with_reducible assumption) | assumption)) HC1.out; have HR254 := Aside0.mk (Kd.C_of_reads (h1 := fun _ => rfl) (hA13 _ (Kd.reads_of_C HR1.out))); have HC254 := Aside0.mk hC13; clear hA13 hC13 hi013 hsz13) | (go_at_call 69; (first | (with_reducible refine (spec_l1Has.calls k1 _ _ (l1.take (x9_1 : Int).toNat) (rd l1 x9_1) true _ ?side1 ?side2 A11.out).mono ?_) | (refine (recast_ (spec_l1Has.calls k1 _ _ (l1.take (x9_1 : Int).toNat) (rd l1 x9_1) true _ ?side1 ?side2 A11.out) (by rw [take_len_ l1 x9_1 (of_decide_eq_true (by first | (with_reducible assumption) | assumption)) (of_decide_eq_true (by first | (with_reducible assumption) | assumption))])).mono ?_)); (case side1 => exact zC_ HR254.out); (case side2 => exact HC254.out); rintro e w' ⟨rfl, ⟨nd, rfl⟩⟩))
          go_ret
          exact ⟨by first | rfl | (simp; done) | (simp [*]; done), by repeat (first | exact Drawn0.refl _ | apply Drawn0.step)⟩
         ·replace c12 := Bool.eq_false_iff.mpr c12
          subst c12
          have H1 : ((spec_l1Has.f k1 (l1.take (x9_1 : Int).toNat) (wrap64 (-(rd l1 x9_1)))).bind fun t257 => (if t257 = true then (some false) else (spec_l4Clause.l0 k1 a0 l1 l1 (l1.length : Int) (wrap64 (x9_1 + 1))))) = some r := by rw [if_neg (show ¬ (false = true) by decide)] at H; exact H
          clear H
          have H := H1
          clear H1
          have c14b0 := eq_true (of_decide_eq_true (by first | (with_reducible assumption) | assumption) : 0 ≤ x9_1)
          have c15b0 := eq_true (of_decide_eq_true (by first | (with_reducible assumption) | assumption) : x9_1 ≤ (l1.length : Int))
          replace H := Option.bind_eq_some_iff.mp H
          obtain ⟨t257, A160, H⟩ := H
          (try dsimp only at H)
          have A16 := Aside0.mk A160
          clear A160
          by_cases c17 : t257 = true
          ·subst c17
           have H1 : (some false) = some r := by rw [if_pos rfl] at H; exact H
           clear H
           have H := H1
           clear H1
           obtain rfl := Option.some.inj H
           have p252 : 0 ≤ (x9_1 : Int) := of_decide_eq_true (by first | (with_reducible assumption) | assumption)
           have q252 : x9_1 < (l1.length : Int) := of_decide_eq_true (by first | (with_reducible assumption) | assumption)
           obtain ⟨ad252, e252, hx252_0⟩ := Kd.at_int HR1.out x9_1 p252 q252
           cases e252
           replace p252 := eq_true p252
           replace q252 := eq_true q252
           go_wp2_with (first | (go_at_call 88; (with_reducible refine (spec_l1In.calls (rd l1 x9_1) (wrap64 (-a0)) a0 true _ A7.out).mono ?_); rintro e w' ⟨rfl, ⟨nd, rfl⟩⟩; obtain ⟨i018, hi018, _, hsz18, _⟩ := info_parts info3; obtain ⟨hcut18, hA18, hC18⟩ := print_take_of (P := Try.prog) (Value.int .i64) 0 24 3 .i64 Try.underlying24 hi018 hsz18 (some ad252) c1 l1 x9_1 (of_decide_eq_true (by first | (with_reducible assumption) | assumption)) (of_decide_eq_true (by first | (with_reducible assumption) | assumption)) HC1.out; have HR254 := Aside0.mk (Kd.C_of_reads (h1 := fun _ => rfl) (hA18 _ (Kd.reads_of_C HR1.out))); have HC254 := Aside0.mk hC18; clear hA18 hC18 hi018 hsz18) | (go_at_call 69; (first | (with_reducible refine (spec_l1Has.calls k1 _ _ (l1.take (x9_1 : Int).toNat) (rd l1 x9_1) false _ ?side1 ?side2 A11.out).mono ?_) | (refine (recast_ (spec_l1Has.calls k1 _ _ (l1.take (x9_1 : Int).toNat) (rd l1 x9_1) false _ ?side1 ?side2 A11.out) (by rw [take_len_ l1 x9_1 (of_decide_eq_true (by first | (with_reducible assumption) | assumption)) (of_decide_eq_true (by first | (with_reducible assumption) | assumption))])).mono ?_)); (case side1 => exact zC_ HR254.out); (case side2 => exact HC254.out); rintro e w' ⟨rfl, ⟨nd, rfl⟩⟩; obtain ⟨i019, hi019, _, hsz19, _⟩ := info_parts info3; obtain ⟨hcut19, hA19, hC19⟩ := print_take_of (P := Try.prog) (Value.int .i64) 0 24 3 .i64 Try.underlying24 hi019 hsz19 (some ad252) c1 l1 x9_1 (of_decide_eq_true (by first | (with_reducible assumption) | assumption)) (of_decide_eq_true (by first | (with_reducible assumption) | assumption)) HC1.out; have HR256 := Aside0.mk (Kd.C_of_reads (h1 := fun _ => rfl) (hA19 _ (Kd.reads_of_C HR1.out))); have HC256 := Aside0.mk hC19; clear hA19 hC19 hi019 hsz19) | (go_at_call 69; (first | (with_reducible refine (spec_l1Has.calls k1 _ _ (l1.take (x9_1 : Int).toNat) (wrap64 (-(rd l1 x9_1))) true _ ?side1 ?side2 A16.out).mono ?_) | (refine (recast_ (spec_l1Has.calls k1 _ _ (l1.take (x9_1 : Int).toNat) (wrap64 (-(rd l1 x9_1))) true _ ?side1 ?side2 A16.out) (by rw [take_len_ l1 x9_1 (of_decide_eq_true (by first | (with_reducible assumption) | assumption)) (of_decide_eq_true (by first | (with_reducible assumption) | assumption))])).mono ?_)); (case side1 => exact zC_ HR256.out); (case side2 => exact HC256.out); rintro e w' ⟨rfl, ⟨nd, rfl⟩⟩))
           go_ret
           exact ⟨by first | rfl | (simp; done) | (simp [*]; done), by repeat (first | exact Drawn0.refl _ | apply Drawn0.step)⟩
          ·replace c17 := Bool.eq_false_iff.mpr c17
           subst c17
           have H1 : (spec_l4Clause.l0 k1 a0 l1 l1 (l1.length : Int) (wrap64 (x9_1 + 1))) = some r := by rw [if_neg (show ¬ (false = true) by decide)] at H; exact H
           clear H
           have H := H1
           clear H1
           have H' := Aside0.mk H
           clear H
           have p252 : 0 ≤ (x9_1 : Int) := of_decide_eq_true (by first | (with_reducible assumption) | assumption)
           have q252 : x9_1 < (l1.length : Int) := of_decide_eq_true (by first | (with_reducible assumption) | assumption)
           obtain ⟨ad252, e252, hx252_0⟩ := Kd.at_int HR1.out x9_1 p252 q252
           cases e252
           replace p252 := eq_true p252
           replace q252 := eq_true q252
           go_wp2_with (first | (go_at_call 88; (with_reducible refine (spec_l1In.calls (rd l1 x9_1) (wrap64 (-a0)) a0 true _ A7.out).mono ?_); rintro e w' ⟨rfl, ⟨nd, rfl⟩⟩; obtain ⟨i020, hi020, _, hsz20, _⟩ := info_parts info3; obtain ⟨hcut20, hA20, hC20⟩ := print_take_of (P := Try.prog) (Value.int .i64) 0 24 3 .i64 Try.underlying24 hi020 hsz20 (some ad252) c1 l1 x9_1 (of_decide_eq_true (by first | (with_reducible assumption) | assumption)) (of_decide_eq_true (by first | (with_reducible assumption) | assumption)) HC1.out; have HR254 := Aside0.mk (Kd.C_of_reads (h1 := fun _ => rfl) (hA20 _ (Kd.reads_of_C HR1.out))); have HC254 := Aside0.mk hC20; clear hA20 hC20 hi020 hsz20) | (go_at_call 69; (first | (with_reducible refine (spec_l1Has.calls k1 _ _ (l1.take (x9_1 : Int).toNat) (rd l1 x9_1) false _ ?side1 ?side2 A11.out).mono ?_) | (refine (recast_ (spec_l1Has.calls k1 _ _ (l1.take (x9_1 : Int).toNat) (rd l1 x9_1) false _ ?side1 ?side2 A11.out) (by rw [take_len_ l1 x9_1 (of_decide_eq_true (by first | (with_reducible assumption) | assumption)) (of_decide_eq_true (by first | (with_reducible assumption) | assumption))])).mono ?_)); (case side1 => exact zC_ HR254.out); (case side2 => exact HC254.out); rintro e w' ⟨rfl, ⟨nd, rfl⟩⟩; obtain ⟨i021, hi021, _, hsz21, _⟩ := info_parts info3; obtain ⟨hcut21, hA21, hC21⟩ := print_take_of (P := Try.prog) (Value.int .i64) 0 24 3 .i64 Try.underlying24 hi021 hsz21 (some ad252) c1 l1 x9_1 (of_decide_eq_true (by first | (with_reducible assumption) | assumption)) (of_decide_eq_true (by first | (with_reducible assumption) | assumption)) HC1.out; have HR256 := Aside0.mk (Kd.C_of_reads (h1 := fun _ => rfl) (hA21 _ (Kd.reads_of_C HR1.out))); have HC256 := Aside0.mk hC21; clear hA21 hC21 hi021 hsz21) | (go_at_call 69; (first | (with_reducible refine (spec_l1Has.calls k1 _ _ (l1.take (x9_1 : Int).toNat) (wrap64 (-(rd l1 x9_1))) false _ ?side1 ?side2 A16.out).mono ?_) | (refine (recast_ (spec_l1Has.calls k1 _ _ (l1.take (x9_1 : Int).toNat) (wrap64 (-(rd l1 x9_1))) false _ ?side1 ?side2 A16.out) (by rw [take_len_ l1 x9_1 (of_decide_eq_true (by first | (with_reducible assumption) | assumption)) (of_decide_eq_true (by first | (with_reducible assumption) | assumption))])).mono ?_)); (case side1 => exact zC_ HR256.out); (case side2 => exact HC256.out); rintro e w' ⟨rfl, ⟨nd, rfl⟩⟩))
           go_roundg k1
           case measure => have := HK1.out; omega
           case rel => exact ⟨(wrap64 (x9_1 + 1)), (by first | rfl | (simp; done) | (simp [*]; done)), H', ⟨by have := HK1.out; omega⟩, by repeat (first | exact Drawn0.refl _ | apply Drawn0.step)⟩
        ·rw [if_neg c10] at H
         exact absurd H (by simp)
       ·replace c8 := Bool.eq_false_iff.mpr c8
        subst c8
        have H1 : (some false) = some r := by rw [if_neg (show ¬ (false = true) by decide)] at H; exact H
        clear H
        have H := H1
        clear H1
        obtain rfl := Option.some.inj H
        have p252 : 0 ≤ (x9_1 : Int) := of_decide_eq_true (by first | (with_reducible assumption) | assumption)
        have q252 : x9_1 < (l1.length : Int) := of_decide_eq_true (by first | (with_reducible assumption) | assumption)
        obtain ⟨ad252, e252, hx252_0⟩ := Kd.at_int HR1.out x9_1 p252 q252
        cases e252
        replace p252 := eq_true p252
        replace q252 := eq_true q252
        go_wp2_with (first | (go_at_call 88; (with_reducible refine (spec_l1In.calls (rd l1 x9_1) (wrap64 (-a0)) a0 false _ A7.out).mono ?_); rintro e w' ⟨rfl, ⟨nd, rfl⟩⟩))
        go_ret
        exact ⟨by first | rfl | (simp; done) | (simp [*]; done), by repeat (first | exact Drawn0.refl _ | apply Drawn0.step)⟩
     ·rw [if_neg c5] at H
      exact absurd H (by simp)
    ·rw [if_neg c4] at H
     exact absurd H (by simp)
   ·rw [if_neg c3] at H
    have c3b0 : decide (x9_1 < (l1.length : Int)) = false := decide_eq_false c3
    clear c3
    obtain rfl := Option.some.inj H
    go_wp2
    go_ret
    exact ⟨by first | rfl | (simp; done) | (simp [*]; done), by repeat (first | exact Drawn0.refl _ | apply Drawn0.step)⟩

/-! ### spec_l4Resolve: function 89 -/
mutual
def spec_l4Resolve.l0 : Nat → List Int → Int → List Int → List Int → Int → Int → Option (List Int × Bool)
 | 0, _, _, _, _, _, _ => none
 | k + 1, x1, x2, x8, x13, x14, x15 => if x15 < x14 then (if 0 ≤ x15 then (if x15 < (x13.length : Int) then (if (rd x13 x15) = x2 then (spec_l4Resolve.l0 k x1 x2 x8 x13 x14 (wrap64 (x15 + 1))) else (if x8.length < 17592186044416 then (spec_l4Resolve.l0 k x1 x2 (x8 ++ [rd x13 x15]) x13 x14 (wrap64 (x15 + 1))) else (none))) else (none)) else (none)) else (spec_l4Resolve.l1 k x2 x8 x1 (x1.length : Int) 0)
def spec_l4Resolve.l1 : Nat → Int → List Int → List Int → Int → Int → Option (List Int × Bool)
 | 0, _, _, _, _, _ => none
 | k + 1, x2, x8, x27, x28, x29 => if x29 < x28 then (if 0 ≤ x29 then (if x29 < (x27.length : Int) then (if (rd x27 x29) = (wrap64 (-x2)) then (spec_l4Resolve.l1 k x2 x8 x27 x28 (wrap64 (x29 + 1))) else (if x8.length < 17592186044416 then (spec_l4Resolve.l1 k x2 (x8 ++ [rd x27 x29]) x27 x28 (wrap64 (x29 + 1))) else (none))) else (none)) else (none)) else ((spec_CleanClause.f k x8).bind fun bt266 => (some (bt266.1, bt266.2)))
end
def spec_l4Resolve.f (k : Nat) (l0 : List Int) (l1 : List Int) (a2 : Int) : Option (List Int × Bool) := spec_l4Resolve.l0 k l1 a2 ([] : List Int) l0 (l0.length : Int) 0
theorem spec_l4Resolve.mono_l : ∀ k, (∀ y0 y1 y2 y3 y4 y5, LeO (spec_l4Resolve.l0 k y0 y1 y2 y3 y4 y5) (spec_l4Resolve.l0 (k + 1) y0 y1 y2 y3 y4 y5)) ∧ (∀ y0 y1 y2 y3 y4, LeO (spec_l4Resolve.l1 k y0 y1 y2 y3 y4) (spec_l4Resolve.l1 (k + 1) y0 y1 y2 y3 y4))
 | 0 => ⟨fun _ _ _ _ _ _ r h => by simp [spec_l4Resolve.l0] at h, fun _ _ _ _ _ r h => by simp [spec_l4Resolve.l1] at h⟩
 | k + 1 => by
  obtain ⟨ih0, ih1⟩ := spec_l4Resolve.mono_l k
  refine ⟨?_, ?_⟩
  ·intro y0 y1 y2 y3 y4 y5
   unfold spec_l4Resolve.l0
   repeat' first
   | (with_reducible exact ih0 _ _ _ _ _ _)
   | (with_reducible exact ih1 _ _ _ _ _)
   | (with_reducible exact spec_CleanClause.mono _ _)
   | (with_reducible exact LeO.refl _)
   | (with_reducible exact LeO.none _)
   | (with_reducible refine LeO.ite ?_ ?_)
   | (with_reducible refine LeO.bind ?_ (fun _ => ?_))
   | exact ih0 _ _ _ _ _ _
   | exact ih1 _ _ _ _ _
   | exact spec_CleanClause.mono _ _
   | exact LeO.none _
   | refine LeO.ite ?_ ?_
   | refine LeO.bind ?_ (fun _ => ?_)
  ·intro y0 y1 y2 y3 y4
   unfold spec_l4Resolve.l1
   repeat' first
   | (with_reducible exact ih0 _ _ _ _ _ _)
   | (with_reducible exact ih1 _ _ _ _ _)
   | (with_reducible exact spec_CleanClause.mono _ _)
   | (with_reducible exact LeO.refl _)
   | (with_reducible exact LeO.none _)
   | (with_reducible refine LeO.ite ?_ ?_)
   | (with_reducible refine LeO.bind ?_ (fun _ => ?_))
   | exact ih0 _ _ _ _ _ _
   | exact ih1 _ _ _ _ _
   | exact spec_CleanClause.mono _ _
   | exact LeO.none _
   | refine LeO.ite ?_ ?_
   | refine LeO.bind ?_ (fun _ => ?_)
theorem spec_l4Resolve.mono : ∀ a0 a1 a2 k, LeO (spec_l4Resolve.f k a0 a1 a2) (spec_l4Resolve.f (k + 1) a0 a1 a2) := by
 intro a0 a1 a2 k
 obtain ⟨ih0, ih1⟩ := spec_l4Resolve.mono_l k
 unfold spec_l4Resolve.f
 repeat' first
   | (with_reducible exact ih0 _ _ _ _ _ _)
   | (with_reducible exact ih1 _ _ _ _ _)
   | (with_reducible exact spec_CleanClause.mono _ _)
   | (with_reducible exact LeO.refl _)
   | (with_reducible exact LeO.none _)
   | (with_reducible refine LeO.ite ?_ ?_)
   | (with_reducible refine LeO.bind ?_ (fun _ => ?_))
   | exact ih0 _ _ _ _ _ _
   | exact ih1 _ _ _ _ _
   | exact spec_CleanClause.mono _ _
   | exact LeO.none _
   | refine LeO.ite ?_ ?_
   | refine LeO.bind ?_ (fun _ => ?_)
set_option maxHeartbeats 8000000 in
set_option maxRecDepth 100000 in
theorem spec_l4Resolve.calls (k : Nat) (A0 : Option Addr) (c0 : Nat) (l0 : List Int) (A1 : Option Addr) (c1 : Nat) (l1 : List Int) (a2 : Int) (r1 : List Int) (r2 : Bool) (w : World) (hr0 : Kd.C (Kd.int .i64) w A0 l0.length l0) (hc0 : l0.length ≤ c0) (hr1 : Kd.C (Kd.int .i64) w A1 l1.length l1) (hc1 : l1.length ≤ c1) (h : spec_l4Resolve.f k l0 l1 a2 = some (r1, r2)) :
  Calls Try.prog 89 #[.slice A0 l0.length c0, .slice A1 l1.length c1, .int .i64 a2] w fun e w' => ∃ v0_ : Value, e = .returned (.tuple #[v0_, .bool r2]) ∧ Kd.R (Kd.int .i64) 3 w' w.heap.size (fun _ => True) v0_ r1 ∧ Below w.heap.size w w' := by
 have HR0 := Aside0.mk hr0
 have HC0 := Aside0.mk hc0
 clear hr0 hc0
 have HR1 := Aside0.mk hr1
 have HC1 := Aside0.mk hc1
 clear hr1 hc1
 have HB := Aside0.mk (Below.refl w.heap.size w)
 have H : (spec_l4Resolve.l0 k l1 a2 ([] : List Int) l0 (l0.length : Int) 0) = some (r1, r2) := h
 clear h
 have H' := Aside0.mk H
 clear H
 go_enter Try.func89, Try.ntmps89
 go_wp2
 go_loopg [8, 15] k (fun kq v8 v15 w' => ∃ (x8_1 : List Int) (x15_1 : Int), v15 = .int .i64 x15_1 ∧ Aside0 (spec_l4Resolve.l0 kq l1 a2 x8_1 l0 (l0.length : Int) x15_1 = some (r1, r2)) ∧ Aside0 (kq ≤ k) ∧ Aside0 (Kd.R (Kd.int .i64) 3 w' w.heap.size (fun _ => True) v8 x8_1) ∧ Aside0 (Below w.heap.size w w'))
 case atStart => exact ⟨(([] : List Int)), (0), (by first | rfl | (simp; done) | (simp [*]; done)), H', ⟨Nat.le_refl _⟩, ⟨by first | exact Kd.R_nil _ _ _ _ _ | exact Kd.N_nil _ _ _ _ _ | exact Kd.V_nil _ _ _ _ _ | exact Kd.Q_nil _ _ _ _ _ | exact Kd.S_nil _ _ _ _ _⟩, ⟨zb_ HB.out⟩⟩
 case round =>
  clear H'
  try clear c1
  try clear p2
  obtain ⟨x8_1, x15_1, rfl, HA, HK1, HO_8, HB⟩ := hrel
  cases gk with
  | zero => exact absurd HA.out (by simp [spec_l4Resolve.l0])
  | succ k1 =>
   have H := HA.out
   clear HA
   simp only [spec_l4Resolve.l0] at H
   by_cases c4 : x15_1 < (l0.length : Int)
   ·rw [if_pos c4] at H
    have c4b0 : decide (x15_1 < (l0.length : Int)) = true := decide_eq_true c4
    clear c4
    by_cases c5 : 0 ≤ x15_1
    ·rw [if_pos c5] at H
     have c5b0 : decide (0 ≤ x15_1) = true := decide_eq_true c5
     clear c5
     by_cases c6 : x15_1 < (l0.length : Int)
     ·rw [if_pos c6] at H
      have c6b0 : decide (x15_1 < (l0.length : Int)) = true := decide_eq_true c6
      clear c6
      by_cases c7 : (rd l0 x15_1) = a2
      ·rw [if_pos c7] at H
       have c7b0 : ((rd l0 x15_1) == a2) = true := beq_iff_eq.mpr c7
       have c7b1 : ((rd l0 x15_1) != a2) = false := bne_eq_false_iff_eq.mpr c7
       clear c7
       have H' := Aside0.mk H
       clear H
       have p258 : 0 ≤ (x15_1 : Int) := of_decide_eq_true (by first | (with_reducible assumption) | assumption)
       have q258 : x15_1 < (l0.length : Int) := of_decide_eq_true (by first | (with_reducible assumption) | assumption)
       obtain ⟨ad258, e258, hx258_0⟩ := Kd.at_int HR0.out x15_1 p258 q258
       cases e258
       replace hx258_0 := (HB.out.cell (World.block_lt_of_cell? w _ hx258_0)).trans hx258_0
       replace p258 := eq_true p258
       replace q258 := eq_true q258
       go_wp2
       go_roundg k1
       case measure => have := HK1.out; omega
       case rel => exact ⟨(x8_1), (wrap64 (x15_1 + 1)), (by first | rfl | (simp; done) | (simp [*]; done)), H', ⟨by have := HK1.out; omega⟩, ⟨zR_ HO_8.out⟩, ⟨zb_ HB.out⟩⟩
      ·rw [if_neg c7] at H
       have c7b0 : ((rd l0 x15_1) == a2) = false := beq_eq_false_iff_ne.mpr c7
       have c7b1 : ((rd l0 x15_1) != a2) = true := bne_iff_ne.mpr c7
       by_cases c8 : x8_1.length < 17592186044416
       ·rw [if_pos c8] at H
        have LMc8 := Aside0.mk c8
        clear c8
        obtain ⟨y259, hy259⟩ : ∃ y_ : List Int, y_ = (x8_1 ++ [rd l0 x15_1]) := ⟨_, rfl⟩
        replace H : (spec_l4Resolve.l0 k1 l1 a2 y259 l0 (l0.length : Int) (wrap64 (x15_1 + 1))) = some (r1, r2) := by first | (rw [hy259]; with_reducible exact H) | (have H2_ := (Option.bind_some _ _).symm.trans H; rw [hy259]; with_reducible exact H2_) | (have H2_ := (Option.bind_some _ _).symm.trans H; with_reducible exact H2_) | with_reducible exact H | (rw [hy259]; exact H) | exact H
        have Ny259 := Aside0.mk hy259
        clear hy259
        have H' := Aside0.mk H
        clear H
        have p258 : 0 ≤ (x15_1 : Int) := of_decide_eq_true (by first | (with_reducible assumption) | assumption)
        have q258 : x15_1 < (l0.length : Int) := of_decide_eq_true (by first | (with_reducible assumption) | assumption)
        obtain ⟨ad258, e258, hx258_0⟩ := Kd.at_int HR0.out x15_1 p258 q258
        cases e258
        replace hx258_0 := (HB.out.cell (World.block_lt_of_cell? w _ hx258_0)).trans hx258_0
        replace p258 := eq_true p258
        replace q258 := eq_true q258
        go_wp2_with (first | ((with_reducible refine gate_builtin (b := .append) (xs := #[.tmp 22, .tmp 24]) rfl ?_); at_builtin; refine Kd.R_append (Kd.int .i64) (w0 := w) w.heap.size rfl (.tmp 22) (.tmp 24) 24 3 (.int .i64 0) 8 rfl Try.underlying24 info3 rfl (by decide) (by omega) u8 x8_1 (rd l0 x15_1) [.int .i64 (rd l0 x15_1)] (fun _ => True) (fun _ => False) rfl rfl ?aP (fun _ hk => hk.elim) ?aF ?aO ?aB ?aS ?aL ?_; (case aP => exact rfl); (case aB => exact (zb_ HB.out)); (case aF => exact (fun _ _ => trivial)); (case aO => exact (zR_ HO_8.out)); (case aS => exact (below_size (zb_ HB.out))); (case aL => have := LMc8.out; omega); intro v260 w9 ho hb hg hat; rw [← Ny259.out] at ho; have n0_ := Aside0.mk (hb); have n1_ := Aside0.mk (ho); clear HB; clear HO_8; have HB := n0_; have HO261 := n1_; clear n0_ n1_; clear ho hb hg hat))
        go_roundg k1
        case measure => have := HK1.out; omega
        case rel => exact ⟨(y259), (wrap64 (x15_1 + 1)), (by first | rfl | (simp; done) | (simp [*]; done)), H', ⟨by have := HK1.out; omega⟩, ⟨zR_ HO261.out⟩, ⟨zb_ HB.out⟩⟩
       ·rw [if_neg c8] at H
        exact absurd H (by simp)
     ·rw [if_neg c6] at H
      exact absurd H (by simp)
    ·rw [if_neg c5] at H
     exact absurd H (by simp)
   ·rw [if_neg c4] at H
    have c4b0 : decide (x15_1 < (l0.length : Int)) = false := decide_eq_false c4
    clear c4
    have H' := Aside0.mk H
    clear H
    go_wp2
    go_loopg [8, 29] k1 (fun kq v8 v29 w' => ∃ (x8_2 : List Int) (x29_2 : Int), v29 = .int .i64 x29_2 ∧ Aside0 (spec_l4Resolve.l1 kq a2 x8_2 l1 (l1.length : Int) x29_2 = some (r1, r2)) ∧ Aside0 (kq ≤ k1) ∧ Aside0 (Kd.R (Kd.int .i64) 3 w' w.heap.size (fun _ => True) v8 x8_2) ∧ Aside0 (Below w.heap.size w w'))
    case atStart => exact ⟨(x8_1), (0), (by first | rfl | (simp; done) | (simp [*]; done)), H', ⟨Nat.le_refl _⟩, ⟨zR_ HO_8.out⟩, ⟨zb_ HB.out⟩⟩
    case round =>
     clear H'
     try clear c1
     try clear p2
     try clear q2
     try clear hx2
     try clear c4
     try clear c4b0
     try clear c5
     try clear c5b0
     try clear c6
     try clear c6b0
     try clear p6
     try clear c7
     try clear c7b0
     try clear c7b1
     try clear c8
     try clear hx258_0
     try clear p2
     try clear p258
     try clear q258
     obtain ⟨x8_2, x29_2, rfl, HA, HK2, HO_8, HB⟩ := hrel
     cases gk with
     | zero => exact absurd HA.out (by simp [spec_l4Resolve.l1])
     | succ k2 =>
      have H := HA.out
      clear HA
      simp only [spec_l4Resolve.l1] at H
      by_cases c10 : x29_2 < (l1.length : Int)
      ·rw [if_pos c10] at H
       have c10b0 : decide (x29_2 < (l1.length : Int)) = true := decide_eq_true c10
       clear c10
       by_cases c11 : 0 ≤ x29_2
       ·rw [if_pos c11] at H
        have c11b0 : decide (0 ≤ x29_2) = true := decide_eq_true c11
        clear c11
        by_cases c12 : x29_2 < (l1.length : Int)
        ·rw [if_pos c12] at H
         have c12b0 : decide (x29_2 < (l1.length : Int)) = true := decide_eq_true c12
         clear c12
         by_cases c13 : (rd l1 x29_2) = (wrap64 (-a2))
         ·rw [if_pos c13] at H
          have c13b0 : ((rd l1 x29_2) == (wrap64 (-a2))) = true := beq_iff_eq.mpr c13
          have c13b1 : ((rd l1 x29_2) != (wrap64 (-a2))) = false := bne_eq_false_iff_eq.mpr c13
          clear c13
          have H' := Aside0.mk H
          clear H
          have p262 : 0 ≤ (x29_2 : Int) := of_decide_eq_true (by first | (with_reducible assumption) | assumption)
          have q262 : x29_2 < (l1.length : Int) := of_decide_eq_true (by first | (with_reducible assumption) | assumption)
          obtain ⟨ad262, e262, hx262_0⟩ := Kd.at_int HR1.out x29_2 p262 q262
          cases e262
          replace hx262_0 := (HB.out.cell (World.block_lt_of_cell? w _ hx262_0)).trans hx262_0
          replace p262 := eq_true p262
          replace q262 := eq_true q262
          go_wp2
          go_roundg k2
          case measure => have := HK1.out; have := HK2.out; omega
          case rel => exact ⟨(x8_2), (wrap64 (x29_2 + 1)), (by first | rfl | (simp; done) | (simp [*]; done)), H', ⟨by have := HK1.out; have := HK2.out; omega⟩, ⟨zR_ HO_8.out⟩, ⟨zb_ HB.out⟩⟩
         ·rw [if_neg c13] at H
          have c13b0 : ((rd l1 x29_2) == (wrap64 (-a2))) = false := beq_eq_false_iff_ne.mpr c13
          have c13b1 : ((rd l1 x29_2) != (wrap64 (-a2))) = true := bne_iff_ne.mpr c13
          by_cases c14 : x8_2.length < 17592186044416
          ·rw [if_pos c14] at H
           have LMc14 := Aside0.mk c14
           clear c14
           obtain ⟨y263, hy263⟩ : ∃ y_ : List Int, y_ = (x8_2 ++ [rd l1 x29_2]) := ⟨_, rfl⟩
           replace H : (spec_l4Resolve.l1 k2 a2 y263 l1 (l1.length : Int) (wrap64 (x29_2 + 1))) = some (r1, r2) := by first | (rw [hy263]; with_reducible exact H) | (have H2_ := (Option.bind_some _ _).symm.trans H; rw [hy263]; with_reducible exact H2_) | (have H2_ := (Option.bind_some _ _).symm.trans H; with_reducible exact H2_) | with_reducible exact H | (rw [hy263]; exact H) | exact H
           have Ny263 := Aside0.mk hy263
           clear hy263
           have H' := Aside0.mk H
           clear H
           have p262 : 0 ≤ (x29_2 : Int) := of_decide_eq_true (by first | (with_reducible assumption) | assumption)
           have q262 : x29_2 < (l1.length : Int) := of_decide_eq_true (by first | (with_reducible assumption) | assumption)
           obtain ⟨ad262, e262, hx262_0⟩ := Kd.at_int HR1.out x29_2 p262 q262
           cases e262
           replace hx262_0 := (HB.out.cell (World.block_lt_of_cell? w _ hx262_0)).trans hx262_0
           replace p262 := eq_true p262
           replace q262 := eq_true q262
           go_wp2_with (first | ((with_reducible refine gate_builtin (b := .append) (xs := #[.tmp 37, .tmp 39]) rfl ?_); at_builtin; refine Kd.R_append (Kd.int .i64) (w0 := w) w.heap.size rfl (.tmp 37) (.tmp 39) 24 3 (.int .i64 0) 8 rfl Try.underlying24 info3 rfl (by decide) (by omega) u8 x8_2 (rd l1 x29_2) [.int .i64 (rd l1 x29_2)] (fun _ => True) (fun _ => False) rfl rfl ?aP (fun _ hk => hk.elim) ?aF ?aO ?aB ?aS ?aL ?_; (case aP => exact rfl); (case aB => exact (zb_ HB.out)); (case aF => exact (fun _ _ => trivial)); (case aO => exact (zR_ HO_8.out)); (case aS => exact (below_size (zb_ HB.out))); (case aL => have := LMc14.out; omega); intro v264 w15 ho hb hg hat; rw [← Ny263.out] at ho; have n0_ := Aside0.mk (hb); have n1_ := Aside0.mk (ho); clear HB; clear HO_8; have HB := n0_; have HO265 := n1_; clear n0_ n1_; clear ho hb hg hat))
           go_roundg k2
           case measure => have := HK1.out; have := HK2.out; omega
           case rel => exact ⟨(y263), (wrap64 (x29_2 + 1)), (by first | rfl | (simp; done) | (simp [*]; done)), H', ⟨by have := HK1.out; have := HK2.out; omega⟩, ⟨zR_ HO265.out⟩, ⟨zb_ HB.out⟩⟩
          ·rw [if_neg c14] at H
           exact absurd H (by simp)
        ·rw [if_neg c12] at H
         exact absurd H (by simp)
       ·rw [if_neg c11] at H
        exact absurd H (by simp)
      ·rw [if_neg c10] at H
       have c10b0 : decide (x29_2 < (l1.length : Int)) = false := decide_eq_false c10
       clear c10
       replace H := Option.bind_eq_some_iff.mp H
       obtain ⟨⟨t266, t267⟩, A160, H⟩ := H
       (try dsimp only at H)
       have A16 := Aside0.mk A160
       clear A160
       simp only [Option.some.injEq, Prod.mk.injEq] at H
       obtain ⟨rfl, rfl⟩ := H
       obtain ⟨Ao17, co17, eo17⟩ := Kd.R_slice HO_8.out
       subst eo17
       go_wp2_with (first | ((with_reducible refine gate_callee (f := 42) rfl ?_); refine goesL_ (some 43) rfl rfl Try.func42 (by kernel_rfl) rfl #[.slice Ao17 x8_2.length co17] rfl (by (try simp only [List.map_toArray, List.map_cons, List.map_nil]); first | done | rfl | (simp only [List.length_drop, List.length_take]; rfl)) ?_; (with_reducible refine (spec_CleanClause.calls k2 _ _ x8_2 t266 t267 _ ?side1 ?side2 A16.out).mono ?_); (case side1 => exact zC_ (Kd.R_reads' HO_8.out).2.2); (case side2 => exact (Kd.R_reads' HO_8.out).2.1); rintro e w18 ⟨v268, rfl, ho0, hb⟩; refine ⟨_, rfl, ?_⟩; have n0_ := Aside0.mk (Kd.R_elder' (zR_ HO_8.out) (Kd.R_base ho0) hb); have n1_ := Aside0.mk (Kd.R_lower (Kd.R_new' ho0 (Kd.R_lt (zR_ HO_8.out))) (below_size (zb_ HB.out))); have n2_ := Aside0.mk (below_step (zb_ HB.out) hb); clear HO_8; clear HB; have HO_8 := n0_; have HO269 := n1_; have HB := n2_; clear n0_ n1_ n2_; (try clear hb); (try clear hb2); (try clear hk); (try clear hi); (try clear ho0)))
       go_ret2
       exact ⟨_, by first | rfl | (simp [errW_none, errW_some] <;> rfl) | (simp [*, errW_none, errW_some] <;> rfl), by (with_reducible repeat (first | apply Kd.R_alloc | apply Kd.R_drewN | apply Kd.R_drew)); exact Kd.R_mono HO269.out (fun _ hk => trivial), zb_ HB.out⟩

end Go.Proofs.Ytpkbjgmeejlchab.PFnResolved
-- squeezed
