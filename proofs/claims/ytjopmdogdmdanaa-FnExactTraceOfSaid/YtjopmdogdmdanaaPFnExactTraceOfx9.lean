-- Made by a program of this session (wip/tools), which leans on the kit's print: checked by Lean alone.
import Derived.Test.YtjopmdogdmdanaaPFnExactTraceOfx0
import Derived.Test.YtjopmdogdmdanaaPFnExactTraceOfx7
namespace Go.Proofs.Ytjopmdogdmdanaa.PFnExactTraceOf
open Go.RowKit Go.Proofs.YtjopmdogdmdanaaW.PrintWords Go.Proofs.YtjopmdogdmdanaaW.PrintLast Go.Proofs.YtjopmdogdmdanaaW.PrintMore
attribute [local go_sem] max2_int min2_int max_two min_two max_three min_three max_four min_four   -- for this text's walks alone
set_option linter.unusedVariables false
set_option linter.unusedSimpArgs false
def pidx (p : Int → Bool) (l : List Int) : Int := if l.any p = true then (l.findIdx p : Int) else -1
theorem pidx_hit (p : Int → Bool) (l : List Int) (i : Int) (h0 : 0 ≤ i) (h1 : i < (l.length : Int)) (hb : ∀ j : Nat, (j : Int) < i → p (rd l j) = false) (hp : p (rd l i) = true) : pidx p l = i := by
 have hl : i.toNat < l.length := by omega
 have e : rd l i = l[i.toNat] := by unfold rd; rw [List.getD_eq_getElem?_getD, List.getElem?_eq_getElem hl]; rfl
 have hany : l.any p = true := List.any_eq_true.2 ⟨_, List.getElem_mem hl, by rw [← e]; exact hp⟩
 have hf : l.findIdx p = i.toNat := by
  rw [List.findIdx_eq hl]
  refine ⟨by rw [← e]; exact hp, fun j hj => ?_⟩
  have := hb j (by omega)
  unfold rd at this
  rw [List.getD_eq_getElem?_getD, show ((j : Int).toNat) = j by omega, List.getElem?_eq_getElem (by omega)] at this
  simpa using this
 unfold pidx
 rw [if_pos hany, hf]
 omega
theorem pidx_miss (p : Int → Bool) (l : List Int) (h : ∀ j : Nat, j < l.length → p (rd l j) = false) : pidx p l = -1 := by
 have : ¬ l.any p = true := by
  intro hany
  obtain ⟨x, hx, hp⟩ := List.any_eq_true.1 hany
  obtain ⟨j, hj, rfl⟩ := List.mem_iff_getElem.1 hx
  have := h j hj
  unfold rd at this
  rw [List.getD_eq_getElem?_getD, show ((j : Int).toNat) = j by omega, List.getElem?_eq_getElem hj] at this
  simp [hp] at this
 unfold pidx
 rw [if_neg this]
theorem pidx_nonneg (p : Int → Bool) (l : List Int) : decide (0 ≤ pidx p l) = l.any p := by
 unfold pidx
 cases h : l.any p
 ·simp
 ·simp
set_option maxHeartbeats 8000000 in
set_option maxRecDepth 100000 in
theorem slices_IndexFunc_int_calls (p : Int → Bool) (g : Nat) (lb : Array Value) (eg : ∀ args w, (callFunc g args).run Try.prog w = .ok (.enter g args) w) (A0 : Option Addr) (c0 : Nat) (l0 : List Int) (w : World) (hr0 : Kd.C (Kd.int .i64) w A0 l0.length l0)
  (hp : ∀ (x : Int) (q : Nat), x ∈ l0 → Calls Try.prog g (#[.int .i64 x] ++ lb) (w.drewN q) fun e w' => e = .returned (.bool (p x)) ∧ ∃ q', w' = (w.drewN q).drewN q') :
  Calls Try.prog 102 #[.slice A0 l0.length c0, .func (.func g) #[] lb] w fun e w' => e = .returned (.int .i64 (pidx p l0)) ∧ Drawn0 w w' := by
 have HR0 := Aside0.mk hr0
 have HP := Aside0.mk hp
 clear hr0 hp
 go_enter Try.func102, Try.ntmps102
 go_wp2
 go_loopg [5, 8] l0.length (fun kq _ v8 w' => ∃ (x : Int), v8 = .int .i64 x ∧ Aside0 (0 ≤ x ∧ x ≤ (l0.length : Int) ∧ (l0.length : Int) - x ≤ kq ∧ ∀ j : Nat, (j : Int) < x → p (rd l0 j) = false) ∧ Drawn0 w w')
 case atStart => exact ⟨0, rfl, ⟨by omega, by omega, by omega, fun j hj => absurd hj (by omega)⟩, by repeat (first | exact Drawn0.refl _ | apply Drawn0.step)⟩
 case round =>
  obtain ⟨x, rfl, HA, ⟨m1, rfl⟩⟩ := hrel
  by_cases c3 : x < (l0.length : Int)
  ·have c3b0 : decide (x < (l0.length : Int)) = true := decide_eq_true c3
   have p101 : 0 ≤ x := HA.out.1
   have q101 := c3
   obtain ⟨ad101, e101, hx101_0⟩ := Kd.at_int HR0.out x p101 q101
   cases e101
   have hmem : rd l0 x ∈ l0 := by
    unfold rd
    rw [List.getD_eq_getElem?_getD, List.getElem?_eq_getElem (show x.toNat < l0.length by omega)]
    exact List.getElem_mem _
   have hcall := HP.out (rd l0 x)
   have hw1 : wrap64 (x + 1) = x + 1 := by
    have := HR0.out.2.1
    unfold wrap64
    omega
   have HW := Aside0.mk hw1
   have HM := Aside0.mk hmem
   clear hw1 hmem c3
   replace p101 := eq_true p101
   replace q101 := eq_true q101
   cases hq : p (rd l0 x) with
   | true =>
    rw [hq] at hcall
    have HQ := Aside0.mk hq
    clear hq
    go_wp2_with (go_at_fn g; refine (hcall _ HM.out).mono ?_; rintro e w' ⟨rfl, q', rfl⟩)
    go_ret
    refine ⟨?_, by repeat (first | exact Drawn0.refl _ | apply Drawn0.step)⟩
    rw [pidx_hit p l0 x HA.out.1 (of_eq_true q101) HA.out.2.2.2 HQ.out]
    rfl
   | false =>
    rw [hq] at hcall
    have HQ := Aside0.mk hq
    clear hq
    go_wp2_with (go_at_fn g; refine (hcall _ HM.out).mono ?_; rintro e w' ⟨rfl, q', rfl⟩)
    go_roundg (gk - 1)
    case measure => have := HA.out.2.2.1; have := of_eq_true q101; omega
    case rel =>
     refine ⟨x + 1, by first | rfl | (rw [← HW.out]; done) | (rw [HW.out]; done) | simp [HW.out], ⟨by have := HA.out.1; omega, by have := of_eq_true q101; omega, by have := HA.out.2.2.1; have := of_eq_true q101; omega, fun j hj => ?_⟩, by repeat (first | exact Drawn0.refl _ | apply Drawn0.step)⟩
     by_cases e : (j : Int) = x
     ·rw [e]; exact HQ.out
     ·exact HA.out.2.2.2 j (by omega)
  ·have c3b0 : decide (x < (l0.length : Int)) = false := decide_eq_false c3
   have hx : x = (l0.length : Int) := by have := HA.out.2.1; omega
   have HX := Aside0.mk hx
   clear hx c3
   go_wp2
   go_ret
   refine ⟨?_, by repeat (first | exact Drawn0.refl _ | apply Drawn0.step)⟩
   rw [pidx_miss p l0 (fun j hj => HA.out.2.2.2 j (by rw [HX.out]; omega))]
   rfl
set_option maxHeartbeats 8000000 in
set_option maxRecDepth 100000 in
theorem slices_ContainsFunc_int_calls (p : Int → Bool) (g : Nat) (lb : Array Value) (eg : ∀ args w, (callFunc g args).run Try.prog w = .ok (.enter g args) w) (A0 : Option Addr) (c0 : Nat) (l0 : List Int) (w : World) (hr0 : Kd.C (Kd.int .i64) w A0 l0.length l0)
  (hp : ∀ (x : Int) (q : Nat), x ∈ l0 → Calls Try.prog g (#[.int .i64 x] ++ lb) (w.drewN q) fun e w' => e = .returned (.bool (p x)) ∧ ∃ q', w' = (w.drewN q).drewN q') :
  Calls Try.prog 93 #[.slice A0 l0.length c0, .func (.func g) #[] lb] w fun e w' => e = .returned (.bool (l0.any p)) ∧ Drawn0 w w' := by
 have HN := Aside0.mk (pidx_nonneg p l0)
 generalize hv : l0.any p = v at HN
 have HR0 := Aside0.mk hr0
 clear hr0 hv
 go_enter Try.func93, Try.ntmps93
 have hn := HN.out
 go_wp2_with (go_at_call 102; (with_reducible refine (slices_IndexFunc_int_calls p g lb eg A0 c0 l0 _ HR0.out hp).mono ?_); rintro e w' ⟨rfl, ⟨nd, rfl⟩⟩)
 go_ret
 exact ⟨by first | rfl | simp, by repeat (first | exact Drawn0.refl _ | apply Drawn0.step)⟩
theorem impl_in_val (n a b : Int) : impl_in.f n a b = some (decide (a ≤ n) && decide (n ≤ b)) := by
 unfold impl_in.f
 by_cases h : n ≥ a
 ·rw [if_pos h]
  simp [h]
 rw [if_neg h]
 simp [h]
set_option maxHeartbeats 8000000 in
set_option maxRecDepth 100000 in
theorem impl_isContext_1_calls (n : Int) (w : World) :
  Calls Try.prog 94 (#[.int .i64 n] ++ #[]) w fun e w' => e = .returned (.bool (!(decide (0 ≤ n) && decide (n ≤ 255)))) ∧ ∃ q, w' = w.drewN q := by
 obtain ⟨b, hb⟩ : ∃ b, (decide (0 ≤ n) && decide (n ≤ 255)) = b := ⟨_, rfl⟩
 have HV := Aside0.mk (show impl_in.f n 0 255 = some b by rw [impl_in_val, hb])
 rw [hb]
 clear hb
 show Calls Try.prog 94 #[.int .i64 n] w _
 go_enter Try.func94, Try.ntmps94
 go_wp2_with (go_at_call 59; (with_reducible refine (impl_in.calls n 0 255 b _ HV.out).mono ?_); rintro e w' ⟨rfl, ⟨nd, rfl⟩⟩)
 go_ret
 exact ⟨by first | rfl | simp, _, rfl⟩
def impl_isContext.f (l0 : List Int) : Option (Bool) := some (decide (l0.length = 8) && !(l0.any fun n => !(decide (0 ≤ n) && decide (n ≤ 255))))
set_option maxHeartbeats 8000000 in
set_option maxRecDepth 100000 in
theorem impl_isContext.calls (A0 : Option Addr) (c0 : Nat) (l0 : List Int) (r : Bool) (w : World) (hr0 : Kd.C (Kd.int .i64) w A0 l0.length l0) (hc0 : l0.length ≤ c0) (h : impl_isContext.f l0 = some r) :
  Calls Try.prog 76 #[.slice A0 l0.length c0] w fun e w' => e = .returned (.bool r) ∧ Below w.heap.size w w' := by
 have HR0 := Aside0.mk hr0
 have HR := Aside0.mk (Option.some.inj h)
 clear hr0 hc0 h
 have HB := Aside0.mk (Below.refl w.heap.size w)
 have eg := enters_of Try.func94 (by kernel_rfl) rfl
 by_cases h8 : l0.length = 8
 ·obtain ⟨b, hb⟩ : ∃ b, (l0.any fun n => !(decide (0 ≤ n) && decide (n ≤ 255))) = b := ⟨_, rfl⟩
  have HY := Aside0.mk hb
  have HF := Aside0.mk (show r = !b by rw [← HR.out, hb, h8]; rfl)
  have h8b : ((l0.length : Int) == 8) = true := by rw [h8]; rfl
  clear hb HR h8
  obtain rfl := HF.out
  go_enter Try.func76, Try.ntmps76
  go_wp2_with (go_at_call 93; refine (slices_ContainsFunc_int_calls (fun n => !(decide (0 ≤ n) && decide (n ≤ 255))) 94 #[] eg _ _ l0 _ ?s1 ?s2).mono ?_; (case s1 => exact zC_ HR0.out); (case s2 => exact fun z q _ => impl_isContext_1_calls z _); rintro e w' ⟨he, ⟨nd2, rfl⟩⟩; rw [HY.out] at he; subst he)
  go_ret
  exact ⟨by first | rfl | simp, zb_ HB.out⟩
 ·have h8b : ((l0.length : Int) == 8) = false := by
   rw [beq_eq_false_iff_ne]
   omega
  have HF := Aside0.mk (show r = false by rw [← HR.out]; simp [h8])
  clear HR h8
  obtain rfl := HF.out
  go_enter Try.func76, Try.ntmps76
  go_wp2
  go_ret
  exact ⟨by first | rfl | simp, zb_ HB.out⟩
def impl_NewMachine.f  : Option (Int × List Int × List Int × List Bool) := if 6 ≤ 35184372088832 then (if 16 ≤ 35184372088832 then (if 16 ≤ 281474976710656 then (some (0, (List.replicate 6 0), (List.replicate 16 0), (List.replicate 16 false))) else (none)) else (none)) else (none)
set_option maxHeartbeats 8000000 in
set_option maxRecDepth 100000 in
theorem impl_NewMachine.calls  (r1 : Int) (r2 : List Int) (r3 : List Int) (r4 : List Bool) (w : World) (h : impl_NewMachine.f  = some (r1, r2, r3, r4)) :
  Calls Try.prog 95 #[] w fun e w' => ∃ v1_ v2_ v3_ : Value, e = .returned (.agg #[.int .i64 r1, v1_, v2_, v3_]) ∧ Kd.R (Kd.int .i64) 3 w' w.heap.size (fun k_ => some k_ ≠ (v2_ : Value).ownBlock) v1_ r2 ∧ Kd.R (Kd.int .i64) 3 w' w.heap.size (fun k_ => some k_ ≠ (v1_ : Value).ownBlock) v2_ r3 ∧ Kd.R Kd.bool 4 w' w.heap.size (fun _ => True) v3_ r4 ∧ Below w.heap.size w w' := by
 have hu116 := Try.underlying116
 have HB := Aside0.mk (Below.refl w.heap.size w)
 have H : (if 6 ≤ 35184372088832 then (if 16 ≤ 35184372088832 then (if 16 ≤ 281474976710656 then (some (0, (List.replicate 6 0), (List.replicate 16 0), (List.replicate 16 false))) else (none)) else (none)) else (none)) = some (r1, r2, r3, r4) := h
 clear h
 by_cases c1 : 6 ≤ 35184372088832
 ·rw [if_pos c1] at H
  have c1b0 := eq_true c1
  have c1b1 : decide (6 ≤ 35184372088832) = true := decide_eq_true c1
  clear c1
  obtain ⟨y238, hy238⟩ : ∃ y_ : List Int, y_ = (List.replicate 6 0) := ⟨_, rfl⟩
  replace H : (if 16 ≤ 35184372088832 then (if 16 ≤ 281474976710656 then (some (0, y238, (List.replicate 16 0), (List.replicate 16 false))) else (none)) else (none)) = some (r1, r2, r3, r4) := by first | (rw [hy238]; with_reducible exact H) | (have H2_ := (Option.bind_some _ _).symm.trans H; rw [hy238]; with_reducible exact H2_) | (have H2_ := (Option.bind_some _ _).symm.trans H; with_reducible exact H2_) | with_reducible exact H | (rw [hy238]; exact H) | exact H
  have Ny238 := Aside0.mk hy238
  clear hy238
  by_cases c2 : 16 ≤ 35184372088832
  ·rw [if_pos c2] at H
   have c2b0 := eq_true c2
   have c2b1 : decide (16 ≤ 35184372088832) = true := decide_eq_true c2
   clear c2
   obtain ⟨y241, hy241⟩ : ∃ y_ : List Int, y_ = (List.replicate 16 0) := ⟨_, rfl⟩
   replace H : (if 16 ≤ 281474976710656 then (some (0, y238, y241, (List.replicate 16 false))) else (none)) = some (r1, r2, r3, r4) := by first | (rw [hy241]; with_reducible exact H) | (have H2_ := (Option.bind_some _ _).symm.trans H; rw [hy241]; with_reducible exact H2_) | (have H2_ := (Option.bind_some _ _).symm.trans H; with_reducible exact H2_) | with_reducible exact H | (rw [hy241]; exact H) | exact H
   have Ny241 := Aside0.mk hy241
   clear hy241
   by_cases c3 : 16 ≤ 281474976710656
   ·rw [if_pos c3] at H
    have c3b0 := eq_true c3
    have c3b1 : decide (16 ≤ 281474976710656) = true := decide_eq_true c3
    clear c3
    obtain ⟨y244, hy244⟩ : ∃ y_ : List Bool, y_ = (List.replicate 16 false) := ⟨_, rfl⟩
    replace H : (some (0, y238, y241, y244)) = some (r1, r2, r3, r4) := by first | (rw [hy244]; with_reducible exact H) | (have H2_ := (Option.bind_some _ _).symm.trans H; rw [hy244]; with_reducible exact H2_) | (have H2_ := (Option.bind_some _ _).symm.trans H; with_reducible exact H2_) | with_reducible exact H | (rw [hy244]; exact H) | exact H
    have Ny244 := Aside0.mk hy244
    clear hy244
    simp only [Option.some.injEq, Prod.mk.injEq] at H
    obtain ⟨rfl, rfl, rfl, rfl⟩ := H
    go_enter Try.func95, Try.ntmps95
    try go_wp2_with (first | ((with_reducible refine gate_dst (N := 0) rfl ?_); refine box_event ?hg (N := 0) ?hd (cs := #[.int .i64 0, .slice none 0 0, .slice none 0 0, .slice none 0 0]) (t := 116) ?hr ?_; (case hd => rfl); (case hg => rfl); (case hr => first | (go_simp; done) | (go_simp; rfl)); intro gb237 hg w4 hbox hb; have n0_ := Aside0.mk (below_step (zb_ HB.out) hb); have n1_ := Aside0.mk (hbox); have n2_ := Aside0.mk ((by rw [hg]; exact (below_size (zb_ HB.out)) : w.heap.size ≤ gb237)); have n3_ := Aside0.mk ((by rw [hg]; exact (below_size (zb_ HB.out)) : w.heap.size ≤ gb237)); clear HB; have HB := n0_; have BK237 := n1_; have GW237 := n2_; have GE237 := n3_; clear n0_ n1_ n2_ n3_; clear hb hbox hg))
    have n0_ := Aside0.mk (blk_drew BK237.out)
    have n1_ := Aside0.mk (below_drew1 HB.out)
    clear BK237
    clear HB
    have BK237 := n0_
    have HB := n1_
    clear n0_ n1_
    refine start_ (n := 5) (S := fun w' => True) (ds := []) #[false, false, false, false, false] (by kernel_rfl) rfl rfl trivial (fun hHeld => ?_)
    generalize w4.drew = w5 at BK237 HB hHeld ⊢
    refine join_ (σ := Value × Value × Value) 2 #[true, true, true, false, false] (fun s_ => [(1, s_.1), (2, s_.2.1), (3, s_.2.2)]) (fun s_ w' => (Kd.R (Kd.int .i64) 3 w' w.heap.size (fun k_ => some k_ ≠ (s_.2.1 : Value).ownBlock) s_.1 y238) ∧ (Kd.R (Kd.int .i64) 3 w' w.heap.size (fun k_ => some k_ ≠ (s_.1 : Value).ownBlock) s_.2.1 y241) ∧ (Kd.R Kd.bool 4 w' w.heap.size (fun _ => True) s_.2.2 y244) ∧ (w'.heap[gb237]? = some (.cells #[.int .i64 0, .slice none 0 0, .slice none 0 0, .slice none 0 0] 116 (0, 0))) ∧ (Below w.heap.size w w')) ?_ ?_
    rotate_left
    ·intro hJ0_1_2
     refine join_ (σ := Value × Value) 3 #[true, true, false, false, false] (fun s_ => [(1, s_.1), (2, s_.2)]) (fun s_ w' => (Kd.R (Kd.int .i64) 3 w' w.heap.size (fun k_ => some k_ ≠ (s_.2 : Value).ownBlock) s_.1 y238) ∧ (Kd.R (Kd.int .i64) 3 w' w.heap.size (fun k_ => some k_ ≠ (s_.1 : Value).ownBlock) s_.2 y241) ∧ (w'.heap[gb237]? = some (.cells #[.int .i64 0, .slice none 0 0, .slice none 0 0, .slice none 0 0] 116 (0, 0))) ∧ (Below w.heap.size w w')) ?_ ?_
     rotate_left
     ·intro hJ0_1
      refine join_ (σ := Value × Value) 3 #[true, false, true, false, false] (fun s_ => [(1, s_.1), (3, s_.2)]) (fun s_ w' => (Kd.R (Kd.int .i64) 3 w' w.heap.size (fun _ => True) s_.1 y238) ∧ (Kd.R Kd.bool 4 w' w.heap.size (fun _ => True) s_.2 y244) ∧ (w'.heap[gb237]? = some (.cells #[.int .i64 0, .slice none 0 0, .slice none 0 0, .slice none 0 0] 116 (0, 0))) ∧ (Below w.heap.size w w')) ?_ ?_
      rotate_left
      ·intro hJ0_2
       refine join_ (σ := Value × Value) 3 #[false, true, true, false, false] (fun s_ => [(2, s_.1), (3, s_.2)]) (fun s_ w' => (Kd.R (Kd.int .i64) 3 w' w.heap.size (fun _ => True) s_.1 y241) ∧ (Kd.R Kd.bool 4 w' w.heap.size (fun _ => True) s_.2 y244) ∧ (w'.heap[gb237]? = some (.cells #[.int .i64 0, .slice none 0 0, .slice none 0 0, .slice none 0 0] 116 (0, 0))) ∧ (Below w.heap.size w w')) ?_ ?_
       rotate_left
       ·intro hJ1_2
        refine join_ (σ := Value) 4 #[true, false, false, false, false] (fun s_ => [(1, s_)]) (fun s_ w' => (Kd.R (Kd.int .i64) 3 w' w.heap.size (fun _ => True) s_ y238) ∧ (w'.heap[gb237]? = some (.cells #[.int .i64 0, .slice none 0 0, .slice none 0 0, .slice none 0 0] 116 (0, 0))) ∧ (Below w.heap.size w w')) ?_ ?_
        rotate_left
        ·intro hJ0
         refine join_ (σ := Value) 4 #[false, true, false, false, false] (fun s_ => [(2, s_)]) (fun s_ w' => (Kd.R (Kd.int .i64) 3 w' w.heap.size (fun _ => True) s_ y241) ∧ (w'.heap[gb237]? = some (.cells #[.int .i64 0, .slice none 0 0, .slice none 0 0, .slice none 0 0] 116 (0, 0))) ∧ (Below w.heap.size w w')) ?_ ?_
         rotate_left
         ·intro hJ1
          refine join_ (σ := Value) 4 #[false, false, true, false, false] (fun s_ => [(3, s_)]) (fun s_ w' => (Kd.R Kd.bool 4 w' w.heap.size (fun _ => True) s_ y244) ∧ (w'.heap[gb237]? = some (.cells #[.int .i64 0, .slice none 0 0, .slice none 0 0, .slice none 0 0] 116 (0, 0))) ∧ (Below w.heap.size w w')) ?_ ?_
          rotate_left
          ·intro hJ2
           refine three_ (i := 0) (j := 1) (k := 2) (Ni := some 1) (Nj := some 2) (Nk := some 3) #[true, false, false, false, false] #[false, true, false, false, false] #[false, false, true, false, false] rfl rfl rfl rfl rfl rfl (by kernel_rfl) (by decide) (by decide) (by decide) (fun K hK => ?_) (fun K hK => ?_) (fun K hK => ?_)
           ·skip
            refine Kd.R_make_step (Kd.int .i64) _ 3 (by rfl) (N := 1) rfl 37 _ _ rfl 6 rfl rfl Try.underlying37 (.int .i64 0) 8 info3 rfl (by decide) (by omega) 0 (ok := fun _ => True) (okp := fun _ => True) rfl (fun _ hk => hk) trivial (by omega) (by omega) (Below.refl _ _) (Nat.le_refl _) ?_
            intro v239 w6 ho7 hb hg_ hnew_
            clear hg_ hnew_
            (first | rw [← Ny238.out] at ho7 | (simp only [Int.reduceToNat] at ho7; rw [← Ny238.out] at ho7))
            have n0_ := Aside0.mk (Kd.R_lower ho7 (below_size (by repeat (first | (with_reducible first | exact HB.out | apply ba_ | apply bn_ | apply bd_ | refine bs_ ?_ GE237.out) | exact HB.out))))
            have n1_ := Aside0.mk (blk_below (g := gb237) (o := .cells #[.int .i64 0, .slice none 0 0, .slice none 0 0, .slice none 0 0] 116 (0, 0)) (zO_ BK237.out) hb)
            have n2_ := Aside0.mk (below_step (by repeat (first | (with_reducible first | exact HB.out | apply ba_ | apply bn_ | apply bd_ | refine bs_ ?_ GE237.out) | exact HB.out)) hb)
            clear BK237
            clear HB
            have HO240 := n0_
            have BK237 := n1_
            have HB := n2_
            clear n0_ n1_ n2_
            clear hb ho7
            refine hK.out _ _ trivial (fun hHeld => ?_)
            clear hK K
            refine norm_ (a' := ?_) ?_ ?_
            rotate_left
            ·show Act.put _ (some 1) _ = _
             simp only [Act.put, yy_]
             rfl
            exact norm_ (by first | (simp only [putAll, Act.put, yy_]; done) | (simp only [putAll, Act.put, yy_]; rfl)) (hJ0 (v239) _ ⟨(zR_ HO240.out), (zO_ BK237.out), (by repeat (first | (with_reducible first | exact HB.out | apply ba_ | apply bn_ | apply bd_ | refine bs_ ?_ GE237.out) | exact HB.out))⟩)
           ·skip
            refine Kd.R_make_step (Kd.int .i64) _ 3 (by rfl) (N := 2) rfl 37 _ _ rfl 16 rfl rfl Try.underlying37 (.int .i64 0) 8 info3 rfl (by decide) (by omega) 0 (ok := fun _ => True) (okp := fun _ => True) rfl (fun _ hk => hk) trivial (by omega) (by omega) (Below.refl _ _) (Nat.le_refl _) ?_
            intro v242 w6 ho7 hb hg_ hnew_
            clear hg_ hnew_
            (first | rw [← Ny241.out] at ho7 | (simp only [Int.reduceToNat] at ho7; rw [← Ny241.out] at ho7))
            have n0_ := Aside0.mk (Kd.R_lower ho7 (below_size (by repeat (first | (with_reducible first | exact HB.out | apply ba_ | apply bn_ | apply bd_ | refine bs_ ?_ GE237.out) | exact HB.out))))
            have n1_ := Aside0.mk (blk_below (g := gb237) (o := .cells #[.int .i64 0, .slice none 0 0, .slice none 0 0, .slice none 0 0] 116 (0, 0)) (zO_ BK237.out) hb)
            have n2_ := Aside0.mk (below_step (by repeat (first | (with_reducible first | exact HB.out | apply ba_ | apply bn_ | apply bd_ | refine bs_ ?_ GE237.out) | exact HB.out)) hb)
            clear BK237
            clear HB
            have HO243 := n0_
            have BK237 := n1_
            have HB := n2_
            clear n0_ n1_ n2_
            clear hb ho7
            refine hK.out _ _ trivial (fun hHeld => ?_)
            clear hK K
            refine norm_ (a' := ?_) ?_ ?_
            rotate_left
            ·show Act.put _ (some 2) _ = _
             simp only [Act.put, yy_]
             rfl
            exact norm_ (by first | (simp only [putAll, Act.put, yy_]; done) | (simp only [putAll, Act.put, yy_]; rfl)) (hJ1 (v242) _ ⟨(zR_ HO243.out), (zO_ BK237.out), (by repeat (first | (with_reducible first | exact HB.out | apply ba_ | apply bn_ | apply bd_ | refine bs_ ?_ GE237.out) | exact HB.out))⟩)
           ·skip
            refine Kd.R_make_step Kd.bool _ 4 (by rfl) (N := 3) rfl 48 _ _ rfl 16 rfl rfl Try.underlying48 (.bool false) 1 info4 rfl (by decide) (by omega) false (ok := fun _ => True) (okp := fun _ => True) rfl (fun _ hk => hk) trivial (by omega) (by omega) (Below.refl _ _) (Nat.le_refl _) ?_
            intro v245 w6 ho7 hb hg_ hnew_
            clear hg_ hnew_
            (first | rw [← Ny244.out] at ho7 | (simp only [Int.reduceToNat] at ho7; rw [← Ny244.out] at ho7))
            have n0_ := Aside0.mk (Kd.R_lower ho7 (below_size (by repeat (first | (with_reducible first | exact HB.out | apply ba_ | apply bn_ | apply bd_ | refine bs_ ?_ GE237.out) | exact HB.out))))
            have n1_ := Aside0.mk (blk_below (g := gb237) (o := .cells #[.int .i64 0, .slice none 0 0, .slice none 0 0, .slice none 0 0] 116 (0, 0)) (zO_ BK237.out) hb)
            have n2_ := Aside0.mk (below_step (by repeat (first | (with_reducible first | exact HB.out | apply ba_ | apply bn_ | apply bd_ | refine bs_ ?_ GE237.out) | exact HB.out)) hb)
            clear BK237
            clear HB
            have HO246 := n0_
            have BK237 := n1_
            have HB := n2_
            clear n0_ n1_ n2_
            clear hb ho7
            refine hK.out _ _ trivial (fun hHeld => ?_)
            clear hK K
            refine norm_ (a' := ?_) ?_ ?_
            rotate_left
            ·show Act.put _ (some 3) _ = _
             simp only [Act.put, yy_]
             rfl
            exact norm_ (by first | (simp only [putAll, Act.put, yy_]; done) | (simp only [putAll, Act.put, yy_]; rfl)) (hJ2 (v245) _ ⟨(zR_ HO246.out), (zO_ BK237.out), (by repeat (first | (with_reducible first | exact HB.out | apply ba_ | apply bn_ | apply bd_ | refine bs_ ?_ GE237.out) | exact HB.out))⟩)
          ·skip
           rintro v245 w8 ⟨h0_, h1_, h2_⟩
           have n0_ : Aside0 (Kd.R Kd.bool 4 w8 w.heap.size (fun _ => True) v245 y244) := ⟨h0_⟩
           have n1_ : Aside0 (w8.heap[gb237]? = some (.cells #[.int .i64 0, .slice none 0 0, .slice none 0 0, .slice none 0 0] 116 (0, 0))) := ⟨h1_⟩
           have n2_ : Aside0 (Below w.heap.size w w8) := ⟨h2_⟩
           clear BK237
           clear HB
           clear h0_ h1_ h2_
           have HO246 := n0_
           have BK237 := n1_
           have HB := n2_
           clear n0_ n1_ n2_
           have hHeld := trivial
           refine norm_ (a' := ?_) ?_ ?_
           rotate_left
           ·simp only [putAll, Act.put, yy_]
            rfl
           refine two_ (i := 0) (j := 1) (Ni := some 1) (Nj := some 2) #[true, false, true, false, false] #[false, true, true, false, false] rfl rfl rfl rfl (by kernel_rfl) (by decide) (by decide) (fun K hK => ?_) (fun K hK => ?_)
           ·skip
            refine Kd.R_make_step (Kd.int .i64) _ 3 (by rfl) (N := 1) rfl 37 _ _ rfl 6 rfl rfl Try.underlying37 (.int .i64 0) 8 info3 rfl (by decide) (by omega) 0 (ok := fun _ => True) (okp := fun _ => True) rfl (fun _ hk => hk) trivial (by omega) (by omega) (Below.refl _ _) (Nat.le_refl _) ?_
            intro v239 w9 ho10 hb hg_ hnew_
            clear hg_ hnew_
            (first | rw [← Ny238.out] at ho10 | (simp only [Int.reduceToNat] at ho10; rw [← Ny238.out] at ho10))
            have n0_ := Aside0.mk (Kd.R_below (zR_ HO246.out) hb)
            have n1_ := Aside0.mk (Kd.R_lower ho10 (below_size (by repeat (first | (with_reducible first | exact HB.out | apply ba_ | apply bn_ | apply bd_ | refine bs_ ?_ GE237.out) | exact HB.out))))
            have n2_ := Aside0.mk (blk_below (g := gb237) (o := .cells #[.int .i64 0, .slice none 0 0, .slice none 0 0, .slice none 0 0] 116 (0, 0)) (zO_ BK237.out) hb)
            have n3_ := Aside0.mk (below_step (by repeat (first | (with_reducible first | exact HB.out | apply ba_ | apply bn_ | apply bd_ | refine bs_ ?_ GE237.out) | exact HB.out)) hb)
            clear HO246
            clear BK237
            clear HB
            have HO246 := n0_
            have HO240 := n1_
            have BK237 := n2_
            have HB := n3_
            clear n0_ n1_ n2_ n3_
            clear hb ho10
            refine hK.out _ _ trivial (fun hHeld => ?_)
            clear hK K
            refine norm_ (a' := ?_) ?_ ?_
            rotate_left
            ·show Act.put _ (some 1) _ = _
             simp only [Act.put, yy_]
             rfl
            exact norm_ (by first | (simp only [putAll, Act.put, yy_]; done) | (simp only [putAll, Act.put, yy_]; rfl)) (hJ0_2 (v239, v245) _ ⟨(zR_ HO240.out), (zR_ HO246.out), (zO_ BK237.out), (by repeat (first | (with_reducible first | exact HB.out | apply ba_ | apply bn_ | apply bd_ | refine bs_ ?_ GE237.out) | exact HB.out))⟩)
           ·skip
            refine Kd.R_make_step (Kd.int .i64) _ 3 (by rfl) (N := 2) rfl 37 _ _ rfl 16 rfl rfl Try.underlying37 (.int .i64 0) 8 info3 rfl (by decide) (by omega) 0 (ok := fun _ => True) (okp := fun _ => True) rfl (fun _ hk => hk) trivial (by omega) (by omega) (Below.refl _ _) (Nat.le_refl _) ?_
            intro v242 w9 ho10 hb hg_ hnew_
            clear hg_ hnew_
            (first | rw [← Ny241.out] at ho10 | (simp only [Int.reduceToNat] at ho10; rw [← Ny241.out] at ho10))
            have n0_ := Aside0.mk (Kd.R_below (zR_ HO246.out) hb)
            have n1_ := Aside0.mk (Kd.R_lower ho10 (below_size (by repeat (first | (with_reducible first | exact HB.out | apply ba_ | apply bn_ | apply bd_ | refine bs_ ?_ GE237.out) | exact HB.out))))
            have n2_ := Aside0.mk (blk_below (g := gb237) (o := .cells #[.int .i64 0, .slice none 0 0, .slice none 0 0, .slice none 0 0] 116 (0, 0)) (zO_ BK237.out) hb)
            have n3_ := Aside0.mk (below_step (by repeat (first | (with_reducible first | exact HB.out | apply ba_ | apply bn_ | apply bd_ | refine bs_ ?_ GE237.out) | exact HB.out)) hb)
            clear HO246
            clear BK237
            clear HB
            have HO246 := n0_
            have HO243 := n1_
            have BK237 := n2_
            have HB := n3_
            clear n0_ n1_ n2_ n3_
            clear hb ho10
            refine hK.out _ _ trivial (fun hHeld => ?_)
            clear hK K
            refine norm_ (a' := ?_) ?_ ?_
            rotate_left
            ·show Act.put _ (some 2) _ = _
             simp only [Act.put, yy_]
             rfl
            exact norm_ (by first | (simp only [putAll, Act.put, yy_]; done) | (simp only [putAll, Act.put, yy_]; rfl)) (hJ1_2 (v242, v245) _ ⟨(zR_ HO243.out), (zR_ HO246.out), (zO_ BK237.out), (by repeat (first | (with_reducible first | exact HB.out | apply ba_ | apply bn_ | apply bd_ | refine bs_ ?_ GE237.out) | exact HB.out))⟩)
         ·skip
          rintro v242 w8 ⟨h0_, h1_, h2_⟩
          have n0_ : Aside0 (Kd.R (Kd.int .i64) 3 w8 w.heap.size (fun _ => True) v242 y241) := ⟨h0_⟩
          have n1_ : Aside0 (w8.heap[gb237]? = some (.cells #[.int .i64 0, .slice none 0 0, .slice none 0 0, .slice none 0 0] 116 (0, 0))) := ⟨h1_⟩
          have n2_ : Aside0 (Below w.heap.size w w8) := ⟨h2_⟩
          clear BK237
          clear HB
          clear h0_ h1_ h2_
          have HO243 := n0_
          have BK237 := n1_
          have HB := n2_
          clear n0_ n1_ n2_
          have hHeld := trivial
          refine norm_ (a' := ?_) ?_ ?_
          rotate_left
          ·simp only [putAll, Act.put, yy_]
           rfl
          refine two_ (i := 0) (j := 2) (Ni := some 1) (Nj := some 3) #[true, true, false, false, false] #[false, true, true, false, false] rfl rfl rfl rfl (by kernel_rfl) (by decide) (by decide) (fun K hK => ?_) (fun K hK => ?_)
          ·skip
           refine Kd.R_make_step (Kd.int .i64) _ 3 (by rfl) (N := 1) rfl 37 _ _ rfl 6 rfl rfl Try.underlying37 (.int .i64 0) 8 info3 rfl (by decide) (by omega) 0 (ok := fun _ => True) (okp := fun _ => True) rfl (fun _ hk => hk) trivial (by omega) (by omega) (Below.refl _ _) (Nat.le_refl _) ?_
           intro v239 w9 ho10 hb hg_ hnew_
           clear hg_ hnew_
           (first | rw [← Ny238.out] at ho10 | (simp only [Int.reduceToNat] at ho10; rw [← Ny238.out] at ho10))
           have n0_ := Aside0.mk (Kd.R_elder' (zR_ HO243.out) (Kd.R_base ho10) hb)
           have n1_ := Aside0.mk (Kd.R_lower (Kd.R_new' ho10 (Kd.R_lt (zR_ HO243.out))) (below_size (by repeat (first | (with_reducible first | exact HB.out | apply ba_ | apply bn_ | apply bd_ | refine bs_ ?_ GE237.out) | exact HB.out))))
           have n2_ := Aside0.mk (blk_below (g := gb237) (o := .cells #[.int .i64 0, .slice none 0 0, .slice none 0 0, .slice none 0 0] 116 (0, 0)) (zO_ BK237.out) hb)
           have n3_ := Aside0.mk (below_step (by repeat (first | (with_reducible first | exact HB.out | apply ba_ | apply bn_ | apply bd_ | refine bs_ ?_ GE237.out) | exact HB.out)) hb)
           clear HO243
           clear BK237
           clear HB
           have HO243 := n0_
           have HO240 := n1_
           have BK237 := n2_
           have HB := n3_
           clear n0_ n1_ n2_ n3_
           clear hb ho10
           refine hK.out _ _ trivial (fun hHeld => ?_)
           clear hK K
           refine norm_ (a' := ?_) ?_ ?_
           rotate_left
           ·show Act.put _ (some 1) _ = _
            simp only [Act.put, yy_]
            rfl
           exact norm_ (by first | (simp only [putAll, Act.put, yy_]; done) | (simp only [putAll, Act.put, yy_]; rfl)) (hJ0_1 (v239, v242) _ ⟨(by (with_reducible repeat (first | apply Ra_ | apply Rn_ | apply Rd_)); exact Kd.R_mono HO240.out (fun _ hk => hk.2)), (by (with_reducible repeat (first | apply Ra_ | apply Rn_ | apply Rd_)); exact Kd.R_mono HO243.out (fun _ hk => hk.2)), (zO_ BK237.out), (by repeat (first | (with_reducible first | exact HB.out | apply ba_ | apply bn_ | apply bd_ | refine bs_ ?_ GE237.out) | exact HB.out))⟩)
          ·skip
           refine Kd.R_make_step Kd.bool _ 4 (by rfl) (N := 3) rfl 48 _ _ rfl 16 rfl rfl Try.underlying48 (.bool false) 1 info4 rfl (by decide) (by omega) false (ok := fun _ => True) (okp := fun _ => True) rfl (fun _ hk => hk) trivial (by omega) (by omega) (Below.refl _ _) (Nat.le_refl _) ?_
           intro v245 w9 ho10 hb hg_ hnew_
           clear hg_ hnew_
           (first | rw [← Ny244.out] at ho10 | (simp only [Int.reduceToNat] at ho10; rw [← Ny244.out] at ho10))
           have n0_ := Aside0.mk (Kd.R_below (zR_ HO243.out) hb)
           have n1_ := Aside0.mk (Kd.R_lower ho10 (below_size (by repeat (first | (with_reducible first | exact HB.out | apply ba_ | apply bn_ | apply bd_ | refine bs_ ?_ GE237.out) | exact HB.out))))
           have n2_ := Aside0.mk (blk_below (g := gb237) (o := .cells #[.int .i64 0, .slice none 0 0, .slice none 0 0, .slice none 0 0] 116 (0, 0)) (zO_ BK237.out) hb)
           have n3_ := Aside0.mk (below_step (by repeat (first | (with_reducible first | exact HB.out | apply ba_ | apply bn_ | apply bd_ | refine bs_ ?_ GE237.out) | exact HB.out)) hb)
           clear HO243
           clear BK237
           clear HB
           have HO243 := n0_
           have HO246 := n1_
           have BK237 := n2_
           have HB := n3_
           clear n0_ n1_ n2_ n3_
           clear hb ho10
           refine hK.out _ _ trivial (fun hHeld => ?_)
           clear hK K
           refine norm_ (a' := ?_) ?_ ?_
           rotate_left
           ·show Act.put _ (some 3) _ = _
            simp only [Act.put, yy_]
            rfl
           exact norm_ (by first | (simp only [putAll, Act.put, yy_]; done) | (simp only [putAll, Act.put, yy_]; rfl)) (hJ1_2 (v242, v245) _ ⟨(zR_ HO243.out), (zR_ HO246.out), (zO_ BK237.out), (by repeat (first | (with_reducible first | exact HB.out | apply ba_ | apply bn_ | apply bd_ | refine bs_ ?_ GE237.out) | exact HB.out))⟩)
        ·skip
         rintro v239 w8 ⟨h0_, h1_, h2_⟩
         have n0_ : Aside0 (Kd.R (Kd.int .i64) 3 w8 w.heap.size (fun _ => True) v239 y238) := ⟨h0_⟩
         have n1_ : Aside0 (w8.heap[gb237]? = some (.cells #[.int .i64 0, .slice none 0 0, .slice none 0 0, .slice none 0 0] 116 (0, 0))) := ⟨h1_⟩
         have n2_ : Aside0 (Below w.heap.size w w8) := ⟨h2_⟩
         clear BK237
         clear HB
         clear h0_ h1_ h2_
         have HO240 := n0_
         have BK237 := n1_
         have HB := n2_
         clear n0_ n1_ n2_
         have hHeld := trivial
         refine norm_ (a' := ?_) ?_ ?_
         rotate_left
         ·simp only [putAll, Act.put, yy_]
          rfl
         refine two_ (i := 1) (j := 2) (Ni := some 2) (Nj := some 3) #[true, true, false, false, false] #[true, false, true, false, false] rfl rfl rfl rfl (by kernel_rfl) (by decide) (by decide) (fun K hK => ?_) (fun K hK => ?_)
         ·skip
          refine Kd.R_make_step (Kd.int .i64) _ 3 (by rfl) (N := 2) rfl 37 _ _ rfl 16 rfl rfl Try.underlying37 (.int .i64 0) 8 info3 rfl (by decide) (by omega) 0 (ok := fun _ => True) (okp := fun _ => True) rfl (fun _ hk => hk) trivial (by omega) (by omega) (Below.refl _ _) (Nat.le_refl _) ?_
          intro v242 w9 ho10 hb hg_ hnew_
          clear hg_ hnew_
          (first | rw [← Ny241.out] at ho10 | (simp only [Int.reduceToNat] at ho10; rw [← Ny241.out] at ho10))
          have n0_ := Aside0.mk (Kd.R_elder' (zR_ HO240.out) (Kd.R_base ho10) hb)
          have n1_ := Aside0.mk (Kd.R_lower (Kd.R_new' ho10 (Kd.R_lt (zR_ HO240.out))) (below_size (by repeat (first | (with_reducible first | exact HB.out | apply ba_ | apply bn_ | apply bd_ | refine bs_ ?_ GE237.out) | exact HB.out))))
          have n2_ := Aside0.mk (blk_below (g := gb237) (o := .cells #[.int .i64 0, .slice none 0 0, .slice none 0 0, .slice none 0 0] 116 (0, 0)) (zO_ BK237.out) hb)
          have n3_ := Aside0.mk (below_step (by repeat (first | (with_reducible first | exact HB.out | apply ba_ | apply bn_ | apply bd_ | refine bs_ ?_ GE237.out) | exact HB.out)) hb)
          clear HO240
          clear BK237
          clear HB
          have HO240 := n0_
          have HO243 := n1_
          have BK237 := n2_
          have HB := n3_
          clear n0_ n1_ n2_ n3_
          clear hb ho10
          refine hK.out _ _ trivial (fun hHeld => ?_)
          clear hK K
          refine norm_ (a' := ?_) ?_ ?_
          rotate_left
          ·show Act.put _ (some 2) _ = _
           simp only [Act.put, yy_]
           rfl
          exact norm_ (by first | (simp only [putAll, Act.put, yy_]; done) | (simp only [putAll, Act.put, yy_]; rfl)) (hJ0_1 (v239, v242) _ ⟨(by (with_reducible repeat (first | apply Ra_ | apply Rn_ | apply Rd_)); exact Kd.R_mono HO240.out (fun _ hk => hk.2)), (by (with_reducible repeat (first | apply Ra_ | apply Rn_ | apply Rd_)); exact Kd.R_mono HO243.out (fun _ hk => hk.2)), (zO_ BK237.out), (by repeat (first | (with_reducible first | exact HB.out | apply ba_ | apply bn_ | apply bd_ | refine bs_ ?_ GE237.out) | exact HB.out))⟩)
         ·skip
          refine Kd.R_make_step Kd.bool _ 4 (by rfl) (N := 3) rfl 48 _ _ rfl 16 rfl rfl Try.underlying48 (.bool false) 1 info4 rfl (by decide) (by omega) false (ok := fun _ => True) (okp := fun _ => True) rfl (fun _ hk => hk) trivial (by omega) (by omega) (Below.refl _ _) (Nat.le_refl _) ?_
          intro v245 w9 ho10 hb hg_ hnew_
          clear hg_ hnew_
          (first | rw [← Ny244.out] at ho10 | (simp only [Int.reduceToNat] at ho10; rw [← Ny244.out] at ho10))
          have n0_ := Aside0.mk (Kd.R_below (zR_ HO240.out) hb)
          have n1_ := Aside0.mk (Kd.R_lower ho10 (below_size (by repeat (first | (with_reducible first | exact HB.out | apply ba_ | apply bn_ | apply bd_ | refine bs_ ?_ GE237.out) | exact HB.out))))
          have n2_ := Aside0.mk (blk_below (g := gb237) (o := .cells #[.int .i64 0, .slice none 0 0, .slice none 0 0, .slice none 0 0] 116 (0, 0)) (zO_ BK237.out) hb)
          have n3_ := Aside0.mk (below_step (by repeat (first | (with_reducible first | exact HB.out | apply ba_ | apply bn_ | apply bd_ | refine bs_ ?_ GE237.out) | exact HB.out)) hb)
          clear HO240
          clear BK237
          clear HB
          have HO240 := n0_
          have HO246 := n1_
          have BK237 := n2_
          have HB := n3_
          clear n0_ n1_ n2_ n3_
          clear hb ho10
          refine hK.out _ _ trivial (fun hHeld => ?_)
          clear hK K
          refine norm_ (a' := ?_) ?_ ?_
          rotate_left
          ·show Act.put _ (some 3) _ = _
           simp only [Act.put, yy_]
           rfl
          exact norm_ (by first | (simp only [putAll, Act.put, yy_]; done) | (simp only [putAll, Act.put, yy_]; rfl)) (hJ0_2 (v239, v245) _ ⟨(zR_ HO240.out), (zR_ HO246.out), (zO_ BK237.out), (by repeat (first | (with_reducible first | exact HB.out | apply ba_ | apply bn_ | apply bd_ | refine bs_ ?_ GE237.out) | exact HB.out))⟩)
       ·skip
        rintro ⟨v242, v245⟩ w10 ⟨h0_, h1_, h2_, h3_⟩
        have n0_ : Aside0 (Kd.R (Kd.int .i64) 3 w10 w.heap.size (fun _ => True) v242 y241) := ⟨h0_⟩
        have n1_ : Aside0 (Kd.R Kd.bool 4 w10 w.heap.size (fun _ => True) v245 y244) := ⟨h1_⟩
        have n2_ : Aside0 (w10.heap[gb237]? = some (.cells #[.int .i64 0, .slice none 0 0, .slice none 0 0, .slice none 0 0] 116 (0, 0))) := ⟨h2_⟩
        have n3_ : Aside0 (Below w.heap.size w w10) := ⟨h3_⟩
        clear BK237
        clear HB
        clear h0_ h1_ h2_ h3_
        have HO243 := n0_
        have HO246 := n1_
        have BK237 := n2_
        have HB := n3_
        clear n0_ n1_ n2_ n3_
        have hHeld := trivial
        refine norm_ (a' := ?_) ?_ ?_
        rotate_left
        ·simp only [putAll, Act.put, yy_]
         rfl
        refine one_ (i := 0) (N := some 1) #[true, true, true, false, false] rfl rfl (by kernel_rfl) (by decide) (fun K hK => ?_)
        refine Kd.R_make_step (Kd.int .i64) _ 3 (by rfl) (N := 1) rfl 37 _ _ rfl 6 rfl rfl Try.underlying37 (.int .i64 0) 8 info3 rfl (by decide) (by omega) 0 (ok := fun _ => True) (okp := fun _ => True) rfl (fun _ hk => hk) trivial (by omega) (by omega) (Below.refl _ _) (Nat.le_refl _) ?_
        intro v239 w11 ho12 hb hg_ hnew_
        clear hg_ hnew_
        (first | rw [← Ny238.out] at ho12 | (simp only [Int.reduceToNat] at ho12; rw [← Ny238.out] at ho12))
        have n0_ := Aside0.mk (Kd.R_elder' (zR_ HO243.out) (Kd.R_base ho12) hb)
        have n1_ := Aside0.mk (Kd.R_below (zR_ HO246.out) hb)
        have n2_ := Aside0.mk (Kd.R_lower (Kd.R_new' ho12 (Kd.R_lt (zR_ HO243.out))) (below_size (by repeat (first | (with_reducible first | exact HB.out | apply ba_ | apply bn_ | apply bd_ | refine bs_ ?_ GE237.out) | exact HB.out))))
        have n3_ := Aside0.mk (blk_below (g := gb237) (o := .cells #[.int .i64 0, .slice none 0 0, .slice none 0 0, .slice none 0 0] 116 (0, 0)) (zO_ BK237.out) hb)
        have n4_ := Aside0.mk (below_step (by repeat (first | (with_reducible first | exact HB.out | apply ba_ | apply bn_ | apply bd_ | refine bs_ ?_ GE237.out) | exact HB.out)) hb)
        clear HO243
        clear HO246
        clear BK237
        clear HB
        have HO243 := n0_
        have HO246 := n1_
        have HO240 := n2_
        have BK237 := n3_
        have HB := n4_
        clear n0_ n1_ n2_ n3_ n4_
        clear hb ho12
        obtain ⟨Ao13, co13, eo13⟩ := Kd.R_slice HO246.out
        (first | subst eo13 | (injection eo13 with f1_ f2_ f3_; have f4_ := f1_.symm; have f5_ := f3_.symm; clear f1_ f2_ f3_; subst f4_; subst f5_))
        obtain ⟨Ao14, co14, eo14⟩ := Kd.R_slice HO243.out
        (first | subst eo14 | (injection eo14 with f1_ f2_ f3_; have f4_ := f1_.symm; have f5_ := f3_.symm; clear f1_ f2_ f3_; subst f4_; subst f5_))
        obtain ⟨Ao15, co15, eo15⟩ := Kd.R_slice HO240.out
        (first | subst eo15 | (injection eo15 with f1_ f2_ f3_; have f4_ := f1_.symm; have f5_ := f3_.symm; clear f1_ f2_ f3_; subst f4_; subst f5_))
        refine hK.out _ _ trivial (fun hHeld => ?_)
        clear hK K
        refine norm_ (a' := ?_) ?_ ?_
        rotate_left
        ·show Act.put _ (some 1) _ = _
         simp only [Act.put, yy_]
         rfl
        exact norm_ (by first | (simp only [putAll, Act.put, yy_]; done) | (simp only [putAll, Act.put, yy_]; rfl)) (hJ0_1_2 (.slice Ao15 y238.length co15, .slice Ao14 y241.length co14, .slice Ao13 y244.length co13) _ ⟨(by (with_reducible repeat (first | apply Ra_ | apply Rn_ | apply Rd_)); exact Kd.R_mono HO240.out (fun _ hk => hk.2)), (by (with_reducible repeat (first | apply Ra_ | apply Rn_ | apply Rd_)); exact Kd.R_mono HO243.out (fun _ hk => hk.2)), (zR_ HO246.out), (zO_ BK237.out), (by repeat (first | (with_reducible first | exact HB.out | apply ba_ | apply bn_ | apply bd_ | refine bs_ ?_ GE237.out) | exact HB.out))⟩)
      ·skip
       rintro ⟨v239, v245⟩ w10 ⟨h0_, h1_, h2_, h3_⟩
       have n0_ : Aside0 (Kd.R (Kd.int .i64) 3 w10 w.heap.size (fun _ => True) v239 y238) := ⟨h0_⟩
       have n1_ : Aside0 (Kd.R Kd.bool 4 w10 w.heap.size (fun _ => True) v245 y244) := ⟨h1_⟩
       have n2_ : Aside0 (w10.heap[gb237]? = some (.cells #[.int .i64 0, .slice none 0 0, .slice none 0 0, .slice none 0 0] 116 (0, 0))) := ⟨h2_⟩
       have n3_ : Aside0 (Below w.heap.size w w10) := ⟨h3_⟩
       clear BK237
       clear HB
       clear h0_ h1_ h2_ h3_
       have HO240 := n0_
       have HO246 := n1_
       have BK237 := n2_
       have HB := n3_
       clear n0_ n1_ n2_ n3_
       have hHeld := trivial
       refine norm_ (a' := ?_) ?_ ?_
       rotate_left
       ·simp only [putAll, Act.put, yy_]
        rfl
       refine one_ (i := 1) (N := some 2) #[true, true, true, false, false] rfl rfl (by kernel_rfl) (by decide) (fun K hK => ?_)
       refine Kd.R_make_step (Kd.int .i64) _ 3 (by rfl) (N := 2) rfl 37 _ _ rfl 16 rfl rfl Try.underlying37 (.int .i64 0) 8 info3 rfl (by decide) (by omega) 0 (ok := fun _ => True) (okp := fun _ => True) rfl (fun _ hk => hk) trivial (by omega) (by omega) (Below.refl _ _) (Nat.le_refl _) ?_
       intro v242 w11 ho12 hb hg_ hnew_
       clear hg_ hnew_
       (first | rw [← Ny241.out] at ho12 | (simp only [Int.reduceToNat] at ho12; rw [← Ny241.out] at ho12))
       have n0_ := Aside0.mk (Kd.R_elder' (zR_ HO240.out) (Kd.R_base ho12) hb)
       have n1_ := Aside0.mk (Kd.R_below (zR_ HO246.out) hb)
       have n2_ := Aside0.mk (Kd.R_lower (Kd.R_new' ho12 (Kd.R_lt (zR_ HO240.out))) (below_size (by repeat (first | (with_reducible first | exact HB.out | apply ba_ | apply bn_ | apply bd_ | refine bs_ ?_ GE237.out) | exact HB.out))))
       have n3_ := Aside0.mk (blk_below (g := gb237) (o := .cells #[.int .i64 0, .slice none 0 0, .slice none 0 0, .slice none 0 0] 116 (0, 0)) (zO_ BK237.out) hb)
       have n4_ := Aside0.mk (below_step (by repeat (first | (with_reducible first | exact HB.out | apply ba_ | apply bn_ | apply bd_ | refine bs_ ?_ GE237.out) | exact HB.out)) hb)
       clear HO240
       clear HO246
       clear BK237
       clear HB
       have HO240 := n0_
       have HO246 := n1_
       have HO243 := n2_
       have BK237 := n3_
       have HB := n4_
       clear n0_ n1_ n2_ n3_ n4_
       clear hb ho12
       obtain ⟨Ao13, co13, eo13⟩ := Kd.R_slice HO246.out
       (first | subst eo13 | (injection eo13 with f1_ f2_ f3_; have f4_ := f1_.symm; have f5_ := f3_.symm; clear f1_ f2_ f3_; subst f4_; subst f5_))
       obtain ⟨Ao14, co14, eo14⟩ := Kd.R_slice HO243.out
       (first | subst eo14 | (injection eo14 with f1_ f2_ f3_; have f4_ := f1_.symm; have f5_ := f3_.symm; clear f1_ f2_ f3_; subst f4_; subst f5_))
       obtain ⟨Ao15, co15, eo15⟩ := Kd.R_slice HO240.out
       (first | subst eo15 | (injection eo15 with f1_ f2_ f3_; have f4_ := f1_.symm; have f5_ := f3_.symm; clear f1_ f2_ f3_; subst f4_; subst f5_))
       refine hK.out _ _ trivial (fun hHeld => ?_)
       clear hK K
       refine norm_ (a' := ?_) ?_ ?_
       rotate_left
       ·show Act.put _ (some 2) _ = _
        simp only [Act.put, yy_]
        rfl
       exact norm_ (by first | (simp only [putAll, Act.put, yy_]; done) | (simp only [putAll, Act.put, yy_]; rfl)) (hJ0_1_2 (.slice Ao15 y238.length co15, .slice Ao14 y241.length co14, .slice Ao13 y244.length co13) _ ⟨(by (with_reducible repeat (first | apply Ra_ | apply Rn_ | apply Rd_)); exact Kd.R_mono HO240.out (fun _ hk => hk.2)), (by (with_reducible repeat (first | apply Ra_ | apply Rn_ | apply Rd_)); exact Kd.R_mono HO243.out (fun _ hk => hk.2)), (zR_ HO246.out), (zO_ BK237.out), (by repeat (first | (with_reducible first | exact HB.out | apply ba_ | apply bn_ | apply bd_ | refine bs_ ?_ GE237.out) | exact HB.out))⟩)
     ·skip
      rintro ⟨v239, v242⟩ w10 ⟨h0_, h1_, h2_, h3_⟩
      have n0_ : Aside0 (Kd.R (Kd.int .i64) 3 w10 w.heap.size (fun k_ => some k_ ≠ (v242 : Value).ownBlock) v239 y238) := ⟨h0_⟩
      have n1_ : Aside0 (Kd.R (Kd.int .i64) 3 w10 w.heap.size (fun k_ => some k_ ≠ (v239 : Value).ownBlock) v242 y241) := ⟨h1_⟩
      have n2_ : Aside0 (w10.heap[gb237]? = some (.cells #[.int .i64 0, .slice none 0 0, .slice none 0 0, .slice none 0 0] 116 (0, 0))) := ⟨h2_⟩
      have n3_ : Aside0 (Below w.heap.size w w10) := ⟨h3_⟩
      clear BK237
      clear HB
      clear h0_ h1_ h2_ h3_
      have HO240 := n0_
      have HO243 := n1_
      have BK237 := n2_
      have HB := n3_
      clear n0_ n1_ n2_ n3_
      have hHeld := trivial
      refine norm_ (a' := ?_) ?_ ?_
      rotate_left
      ·simp only [putAll, Act.put, yy_]
       rfl
      refine one_ (i := 2) (N := some 3) #[true, true, true, false, false] rfl rfl (by kernel_rfl) (by decide) (fun K hK => ?_)
      refine Kd.R_make_step Kd.bool _ 4 (by rfl) (N := 3) rfl 48 _ _ rfl 16 rfl rfl Try.underlying48 (.bool false) 1 info4 rfl (by decide) (by omega) false (ok := fun _ => True) (okp := fun _ => True) rfl (fun _ hk => hk) trivial (by omega) (by omega) (Below.refl _ _) (Nat.le_refl _) ?_
      intro v245 w11 ho12 hb hg_ hnew_
      clear hg_ hnew_
      (first | rw [← Ny244.out] at ho12 | (simp only [Int.reduceToNat] at ho12; rw [← Ny244.out] at ho12))
      have n0_ := Aside0.mk (Kd.R_below (zR_ HO240.out) hb)
      have n1_ := Aside0.mk (Kd.R_below (zR_ HO243.out) hb)
      have n2_ := Aside0.mk (Kd.R_lower ho12 (below_size (by repeat (first | (with_reducible first | exact HB.out | apply ba_ | apply bn_ | apply bd_ | refine bs_ ?_ GE237.out) | exact HB.out))))
      have n3_ := Aside0.mk (blk_below (g := gb237) (o := .cells #[.int .i64 0, .slice none 0 0, .slice none 0 0, .slice none 0 0] 116 (0, 0)) (zO_ BK237.out) hb)
      have n4_ := Aside0.mk (below_step (by repeat (first | (with_reducible first | exact HB.out | apply ba_ | apply bn_ | apply bd_ | refine bs_ ?_ GE237.out) | exact HB.out)) hb)
      clear HO240
      clear HO243
      clear BK237
      clear HB
      have HO240 := n0_
      have HO243 := n1_
      have HO246 := n2_
      have BK237 := n3_
      have HB := n4_
      clear n0_ n1_ n2_ n3_ n4_
      clear hb ho12
      obtain ⟨Ao13, co13, eo13⟩ := Kd.R_slice HO246.out
      (first | subst eo13 | (injection eo13 with f1_ f2_ f3_; have f4_ := f1_.symm; have f5_ := f3_.symm; clear f1_ f2_ f3_; subst f4_; subst f5_))
      obtain ⟨Ao14, co14, eo14⟩ := Kd.R_slice HO243.out
      (first | subst eo14 | (injection eo14 with f1_ f2_ f3_; have f4_ := f1_.symm; have f5_ := f3_.symm; clear f1_ f2_ f3_; subst f4_; subst f5_))
      obtain ⟨Ao15, co15, eo15⟩ := Kd.R_slice HO240.out
      (first | subst eo15 | (injection eo15 with f1_ f2_ f3_; have f4_ := f1_.symm; have f5_ := f3_.symm; clear f1_ f2_ f3_; subst f4_; subst f5_))
      refine hK.out _ _ trivial (fun hHeld => ?_)
      clear hK K
      refine norm_ (a' := ?_) ?_ ?_
      rotate_left
      ·show Act.put _ (some 3) _ = _
       simp only [Act.put, yy_]
       rfl
      exact norm_ (by first | (simp only [putAll, Act.put, yy_]; done) | (simp only [putAll, Act.put, yy_]; rfl)) (hJ0_1_2 (.slice Ao15 y238.length co15, .slice Ao14 y241.length co14, .slice Ao13 y244.length co13) _ ⟨(zR_ HO240.out), (zR_ HO243.out), (zR_ HO246.out), (zO_ BK237.out), (by repeat (first | (with_reducible first | exact HB.out | apply ba_ | apply bn_ | apply bd_ | refine bs_ ?_ GE237.out) | exact HB.out))⟩)
    rintro ⟨v239, v242, v245⟩ w15 ⟨h0_, h1_, h2_, h3_, h4_⟩
    have n0_ : Aside0 (Kd.R (Kd.int .i64) 3 w15 w.heap.size (fun k_ => some k_ ≠ (v242 : Value).ownBlock) v239 y238) := ⟨h0_⟩
    have n1_ : Aside0 (Kd.R (Kd.int .i64) 3 w15 w.heap.size (fun k_ => some k_ ≠ (v239 : Value).ownBlock) v242 y241) := ⟨h1_⟩
    have n2_ : Aside0 (Kd.R Kd.bool 4 w15 w.heap.size (fun _ => True) v245 y244) := ⟨h2_⟩
    have n3_ : Aside0 (w15.heap[gb237]? = some (.cells #[.int .i64 0, .slice none 0 0, .slice none 0 0, .slice none 0 0] 116 (0, 0))) := ⟨h3_⟩
    have n4_ : Aside0 (Below w.heap.size w w15) := ⟨h4_⟩
    clear BK237
    clear HB
    clear h0_ h1_ h2_ h3_ h4_
    have HO240 := n0_
    have HO243 := n1_
    have HO246 := n2_
    have BK237 := n3_
    have HB := n4_
    clear n0_ n1_ n2_ n3_ n4_
    have hHeld := trivial
    obtain ⟨Ao16, co16, eo16⟩ := Kd.R_slice HO246.out
    (first | subst eo16 | (injection eo16 with f1_ f2_ f3_; have f4_ := f1_.symm; have f5_ := f3_.symm; clear f1_ f2_ f3_; subst f4_; subst f5_))
    obtain ⟨Ao17, co17, eo17⟩ := Kd.R_slice HO243.out
    (first | subst eo17 | (injection eo17 with f1_ f2_ f3_; have f4_ := f1_.symm; have f5_ := f3_.symm; clear f1_ f2_ f3_; subst f4_; subst f5_))
    obtain ⟨Ao18, co18, eo18⟩ := Kd.R_slice HO240.out
    (first | subst eo18 | (injection eo18 with f1_ f2_ f3_; have f4_ := f1_.symm; have f5_ := f3_.symm; clear f1_ f2_ f3_; subst f4_; subst f5_))
    refine norm_ (a' := ?_) ?_ ?_
    rotate_left
    ·simp only [putAll, Act.put, yy_]
     rfl
    refine pure_ (i := 3) (N := some 4) (v := ?_) (a' := ?_) #[true, true, true, true, false] rfl rfl (by kernel_rfl) (fun _ _ _ h => h) (Or.inl ⟨by rfl, ?_⟩) ?_ ?_
    rotate_left
    ·intro w'
     go_simp
     with_reducible rfl
    rotate_left
    ·simp only [Act.put, yy_]
     rfl
    refine one_ (i := 4) (N := none) #[true, true, true, true, true] rfl rfl (by kernel_rfl) (by decide) (fun K hK => ?_)
    have hs19 : w15.cell? ⟨gb237, 0, none⟩ = some (.int .i64 0) := (blk_cell BK237.out 0).trans rfl
    have hfs19 := blk_frozen BK237.out 0
    have hs20 : w15.cell? ⟨gb237, 1, none⟩ = some (.slice none 0 0) := (blk_cell BK237.out 1).trans rfl
    have hfs20 := blk_frozen BK237.out 1
    have hs21 : w15.cell? ⟨gb237, 2, none⟩ = some (.slice none 0 0) := (blk_cell BK237.out 2).trans rfl
    have hfs21 := blk_frozen BK237.out 2
    have hs22 : w15.cell? ⟨gb237, 3, none⟩ = some (.slice none 0 0) := (blk_cell BK237.out 3).trans rfl
    have hfs22 := blk_frozen BK237.out 3
    refine skip_ (w1 := ?_) (by rfl) rfl ?_ ?_
    rotate_left
    ·go_simp
     rfl
    refine hK.out _ _ trivial (fun hHeld => ?_)
    clear hK K
    refine done_ (by kernel_rfl) ?_
    try go_wp2
    refine bodyPost_ret (results_cell_row rfl _ _ gb237 116 #[.int .i64 0, .slice Ao18 y238.length co18, .slice Ao17 y241.length co17, .slice Ao16 y244.length co16] (0, 0) _ rfl (by (with_reducible repeat (first | refine on_ ?_ _ | refine od_ ?_ | refine oa_ ?_ _)); refine blk_put (cs := #[.int .i64 0, .slice Ao18 y238.length co18, .slice Ao17 y241.length co17, .slice none 0 0]) ?_ 3 _ rfl; refine blk_put (cs := #[.int .i64 0, .slice Ao18 y238.length co18, .slice none 0 0, .slice none 0 0]) ?_ 2 _ rfl; refine blk_put (cs := #[.int .i64 0, .slice none 0 0, .slice none 0 0, .slice none 0 0]) ?_ 1 _ rfl; refine blk_put (cs := #[.int .i64 0, .slice none 0 0, .slice none 0 0, .slice none 0 0]) ?_ 0 _ rfl; (with_reducible repeat (first | refine on_ ?_ _ | refine od_ ?_ | refine oa_ ?_ _)); exact BK237.out) Try.underlying116 rfl (by kernel_rfl)) rfl ?_
    exact ⟨_, _, _, by first | rfl | (simp <;> rfl) | (simp [*] <;> rfl), by (with_reducible repeat (first | apply Ra_ | apply Rn_ | apply Rd_)); exact Kd.R_mono (Kd.R_far (p := ⟨gb237, 3, none⟩) (Kd.R_far (p := ⟨gb237, 2, none⟩) (Kd.R_far (p := ⟨gb237, 1, none⟩) (Kd.R_far (p := ⟨gb237, 0, none⟩) (Kd.R_types HO240.out BK237.out (by decide)) (fun _ hk => hk.2) (.int .i64 0)) (fun _ hk => hk.2) (.slice Ao18 y238.length co18)) (fun _ hk => hk.2) (.slice Ao17 y241.length co17)) (fun _ hk => hk.2) (.slice Ao16 y244.length co16)) (fun _ hk => hk.1), by (with_reducible repeat (first | apply Ra_ | apply Rn_ | apply Rd_)); exact Kd.R_mono (Kd.R_far (p := ⟨gb237, 3, none⟩) (Kd.R_far (p := ⟨gb237, 2, none⟩) (Kd.R_far (p := ⟨gb237, 1, none⟩) (Kd.R_far (p := ⟨gb237, 0, none⟩) (Kd.R_types HO243.out BK237.out (by decide)) (fun _ hk => hk.2) (.int .i64 0)) (fun _ hk => hk.2) (.slice Ao18 y238.length co18)) (fun _ hk => hk.2) (.slice Ao17 y241.length co17)) (fun _ hk => hk.2) (.slice Ao16 y244.length co16)) (fun _ hk => hk.1), by (with_reducible repeat (first | apply Ra_ | apply Rn_ | apply Rd_)); exact Kd.R_mono (Kd.R_far (p := ⟨gb237, 3, none⟩) (Kd.R_far (p := ⟨gb237, 2, none⟩) (Kd.R_far (p := ⟨gb237, 1, none⟩) (Kd.R_far (p := ⟨gb237, 0, none⟩) (Kd.R_types HO246.out BK237.out (by decide)) (fun _ hk => hk.2) (.int .i64 0)) (fun _ hk => hk.2) (.slice Ao18 y238.length co18)) (fun _ hk => hk.2) (.slice Ao17 y241.length co17)) (fun _ hk => hk.2) (.slice Ao16 y244.length co16)) (fun _ hk => trivial), by repeat (first | (with_reducible first | exact HB.out | apply ba_ | apply bn_ | apply bd_ | refine bs_ ?_ GE237.out) | exact HB.out)⟩
   rw [if_neg c3] at H
   exact absurd H (by simp)
  rw [if_neg c2] at H
  exact absurd H (by simp)
 rw [if_neg c1] at H
 exact absurd H (by simp)
def impl_WordOf.f (a0 : Int) : Option (Int) := some (Go.bits .and .i64 a0 65535)
set_option maxHeartbeats 8000000 in
set_option maxRecDepth 100000 in
theorem impl_WordOf.calls (a0 : Int) (r : Int) (w : World) (h : impl_WordOf.f a0 = some r) :
  Calls Try.prog 105 #[.int .i64 a0] w fun e w' => e = .returned (.int .i64 r) ∧ Drawn0 w w' := by
 have H : (some (Go.bits .and .i64 a0 65535)) = some r := h
 clear h
 obtain rfl := Option.some.inj H
 go_enter Try.func105, Try.ntmps105
 go_wp2
 go_ret
 exact ⟨by first | rfl | (simp; done) | (simp [*]; done), by repeat (first | exact Drawn0.refl _ | apply Drawn0.step)⟩
end Go.Proofs.Ytjopmdogdmdanaa.PFnExactTraceOf
-- squeezed
