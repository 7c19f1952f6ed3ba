-- Made by a program of this session (wip/tools), which leans on the kit's print: checked by Lean alone.
import Derived.Test.YtpkbjgmeejlchabPFnFollowsx0
import Derived.Test.YtpkbjgmeejlchabPFnFollowsx5
namespace Go.Proofs.Ytpkbjgmeejlchab.PFnFollows
open Go.RowKit Go.Proofs.YtpkbjgmeejlchabW.PrintWords Go.Proofs.YtpkbjgmeejlchabW.PrintLast Go.Proofs.YtpkbjgmeejlchabW.PrintMore
attribute [local go_sem] max2_int min2_int max_two min_two max_three min_three max_four min_four   -- for this text's walks alone
set_option linter.unusedVariables false
set_option linter.unusedSimpArgs false
def pidx (p : Int → Bool) (l : List Int) : Int := if l.any p = true then (l.findIdx p : Int) else -1
theorem pidx_hit (p : Int → Bool) (l : List Int) (i : Int) (h0 : 0 ≤ i) (h1 : i < (l.length : Int)) (hb : ∀ j : Nat, (j : Int) < i → p (rd l j) = false) (hp : p (rd l i) = true) : pidx p l = i := by
 have hl : i.toNat < l.length := by omega
 have e : rd l i = l[i.toNat] := by unfold rd; rw [List.getD_eq_getElem?_getD, List.getElem?_eq_getElem hl]; rfl
 have hany : l.any p = true := List.any_eq_true.2 ⟨_, List.getElem_mem hl, by rw [← e]; exact hp⟩
 have hf : l.findIdx p = i.toNat := by
  rw [List.findIdx_eq hl]
  refine ⟨by rw [← e]; exact hp, fun j hj => ?_⟩
  have := hb j (by omega)
  unfold rd at this
  rw [List.getD_eq_getElem?_getD, show ((j : Int).toNat) = j by omega, List.getElem?_eq_getElem (by omega)] at this
  simpa using this
 unfold pidx
 rw [if_pos hany, hf]
 omega
theorem pidx_miss (p : Int → Bool) (l : List Int) (h : ∀ j : Nat, j < l.length → p (rd l j) = false) : pidx p l = -1 := by
 have : ¬ l.any p = true := by
  intro hany
  obtain ⟨x, hx, hp⟩ := List.any_eq_true.1 hany
  obtain ⟨j, hj, rfl⟩ := List.mem_iff_getElem.1 hx
  have := h j hj
  unfold rd at this
  rw [List.getD_eq_getElem?_getD, show ((j : Int).toNat) = j by omega, List.getElem?_eq_getElem hj] at this
  simp [hp] at this
 unfold pidx
 rw [if_neg this]
theorem pidx_nonneg (p : Int → Bool) (l : List Int) : decide (0 ≤ pidx p l) = l.any p := by
 unfold pidx
 cases h : l.any p
 ·simp
 ·simp
set_option maxHeartbeats 8000000 in
set_option maxRecDepth 100000 in
theorem slices_IndexFunc_int_calls (p : Int → Bool) (g : Nat) (lb : Array Value) (eg : ∀ args w, (callFunc g args).run Try.prog w = .ok (.enter g args) w) (A0 : Option Addr) (c0 : Nat) (l0 : List Int) (w : World) (hr0 : Kd.C (Kd.int .i64) w A0 l0.length l0)
  (hp : ∀ (x : Int) (q : Nat), x ∈ l0 → Calls Try.prog g (#[.int .i64 x] ++ lb) (w.drewN q) fun e w' => e = .returned (.bool (p x)) ∧ ∃ q', w' = (w.drewN q).drewN q') :
  Calls Try.prog 116 #[.slice A0 l0.length c0, .func (.func g) #[] lb] w fun e w' => e = .returned (.int .i64 (pidx p l0)) ∧ Drawn0 w w' := by
 have HR0 := Aside0.mk hr0
 have HP := Aside0.mk hp
 clear hr0 hp
 go_enter Try.func116, Try.ntmps116
 go_wp2
 go_loopg [5, 8] l0.length (fun kq _ v8 w' => ∃ (x : Int), v8 = .int .i64 x ∧ Aside0 (0 ≤ x ∧ x ≤ (l0.length : Int) ∧ (l0.length : Int) - x ≤ kq ∧ ∀ j : Nat, (j : Int) < x → p (rd l0 j) = false) ∧ Drawn0 w w')
 case atStart => exact ⟨0, rfl, ⟨by omega, by omega, by omega, fun j hj => absurd hj (by omega)⟩, by repeat (first | exact Drawn0.refl _ | apply Drawn0.step)⟩
 case round =>
  obtain ⟨x, rfl, HA, ⟨m1, rfl⟩⟩ := hrel
  by_cases c3 : x < (l0.length : Int)
  ·have c3b0 : decide (x < (l0.length : Int)) = true := decide_eq_true c3
   have p101 : 0 ≤ x := HA.out.1
   have q101 := c3
   obtain ⟨ad101, e101, hx101_0⟩ := Kd.at_int HR0.out x p101 q101
   cases e101
   have hmem : rd l0 x ∈ l0 := by
    unfold rd
    rw [List.getD_eq_getElem?_getD, List.getElem?_eq_getElem (show x.toNat < l0.length by omega)]
    exact List.getElem_mem _
   have hcall := HP.out (rd l0 x)
   have hw1 : wrap64 (x + 1) = x + 1 := by
    have := HR0.out.2.1
    unfold wrap64
    omega
   have HW := Aside0.mk hw1
   have HM := Aside0.mk hmem
   clear hw1 hmem c3
   replace p101 := eq_true p101
   replace q101 := eq_true q101
   cases hq : p (rd l0 x) with
   | true =>
    rw [hq] at hcall
    have HQ := Aside0.mk hq
    clear hq
    go_wp2_with (go_at_fn g; refine (hcall _ HM.out).mono ?_; rintro e w' ⟨rfl, q', rfl⟩)
    go_ret
    refine ⟨?_, by repeat (first | exact Drawn0.refl _ | apply Drawn0.step)⟩
    rw [pidx_hit p l0 x HA.out.1 (of_eq_true q101) HA.out.2.2.2 HQ.out]
    rfl
   | false =>
    rw [hq] at hcall
    have HQ := Aside0.mk hq
    clear hq
    go_wp2_with (go_at_fn g; refine (hcall _ HM.out).mono ?_; rintro e w' ⟨rfl, q', rfl⟩)
    go_roundg (gk - 1)
    case measure => have := HA.out.2.2.1; have := of_eq_true q101; omega
    case rel =>
     refine ⟨x + 1, by first | rfl | (rw [← HW.out]; done) | (rw [HW.out]; done) | simp [HW.out], ⟨by have := HA.out.1; omega, by have := of_eq_true q101; omega, by have := HA.out.2.2.1; have := of_eq_true q101; omega, fun j hj => ?_⟩, by repeat (first | exact Drawn0.refl _ | apply Drawn0.step)⟩
     by_cases e : (j : Int) = x
     ·rw [e]; exact HQ.out
     ·exact HA.out.2.2.2 j (by omega)
  ·have c3b0 : decide (x < (l0.length : Int)) = false := decide_eq_false c3
   have hx : x = (l0.length : Int) := by have := HA.out.2.1; omega
   have HX := Aside0.mk hx
   clear hx c3
   go_wp2
   go_ret
   refine ⟨?_, by repeat (first | exact Drawn0.refl _ | apply Drawn0.step)⟩
   rw [pidx_miss p l0 (fun j hj => HA.out.2.2.2 j (by rw [HX.out]; omega))]
   rfl
set_option maxHeartbeats 8000000 in
set_option maxRecDepth 100000 in
theorem slices_ContainsFunc_int_calls (p : Int → Bool) (g : Nat) (lb : Array Value) (eg : ∀ args w, (callFunc g args).run Try.prog w = .ok (.enter g args) w) (A0 : Option Addr) (c0 : Nat) (l0 : List Int) (w : World) (hr0 : Kd.C (Kd.int .i64) w A0 l0.length l0)
  (hp : ∀ (x : Int) (q : Nat), x ∈ l0 → Calls Try.prog g (#[.int .i64 x] ++ lb) (w.drewN q) fun e w' => e = .returned (.bool (p x)) ∧ ∃ q', w' = (w.drewN q).drewN q') :
  Calls Try.prog 91 #[.slice A0 l0.length c0, .func (.func g) #[] lb] w fun e w' => e = .returned (.bool (l0.any p)) ∧ Drawn0 w w' := by
 have HN := Aside0.mk (pidx_nonneg p l0)
 generalize hv : l0.any p = v at HN
 have HR0 := Aside0.mk hr0
 clear hr0 hv
 go_enter Try.func91, Try.ntmps91
 have hn := HN.out
 go_wp2_with (go_at_call 116; (with_reducible refine (slices_IndexFunc_int_calls p g lb eg A0 c0 l0 _ HR0.out hp).mono ?_); rintro e w' ⟨rfl, ⟨nd, rfl⟩⟩)
 go_ret
 exact ⟨by first | rfl | simp, by repeat (first | exact Drawn0.refl _ | apply Drawn0.step)⟩
def impl_isLiteral.f (a0 : Int) (a1 : Int) : Option (Bool) := if a0 = 0 then (some false) else ((impl_in.f a0 (wrap64 (-a1)) a1).bind fun t250 => (some t250))
set_option maxHeartbeats 8000000 in
set_option maxRecDepth 100000 in
theorem impl_isLiteral.calls (a0 : Int) (a1 : Int) (r : Bool) (w : World) (h : impl_isLiteral.f a0 a1 = some r) :
  Calls Try.prog 93 #[.int .i64 a0, .int .i64 a1] w fun e w' => e = .returned (.bool r) ∧ Drawn0 w w' := by
 have H : (if a0 = 0 then (some false) else ((impl_in.f a0 (wrap64 (-a1)) a1).bind fun t250 => (some t250))) = some r := h
 clear h
 by_cases c3 : a0 = 0
 ·rw [if_pos c3] at H
  have c3b0 : (a0 == 0) = true := beq_iff_eq.mpr c3
  have c3b1 : (a0 != 0) = false := bne_eq_false_iff_eq.mpr c3
  clear c3
  obtain rfl := Option.some.inj H
  go_enter Try.func93, Try.ntmps93
  go_wp2
  go_ret
  exact ⟨by first | rfl | (simp; done) | (simp [*]; done), by repeat (first | exact Drawn0.refl _ | apply Drawn0.step)⟩
 ·rw [if_neg c3] at H
  have c3b0 : (a0 == 0) = false := beq_eq_false_iff_ne.mpr c3
  have c3b1 : (a0 != 0) = true := bne_iff_ne.mpr c3
  replace H := Option.bind_eq_some_iff.mp H
  obtain ⟨t250, A40, H⟩ := H
  (try dsimp only at H)
  have A4 := Aside0.mk A40
  clear A40
  obtain rfl := Option.some.inj H
  go_enter Try.func93, Try.ntmps93
  go_wp2_with (first | (go_at_call 79; (with_reducible refine (impl_in.calls a0 (wrap64 (-a1)) a1 t250 _ A4.out).mono ?_); rintro e w' ⟨rfl, ⟨nd, rfl⟩⟩))
  go_ret
  exact ⟨by first | rfl | (simp; done) | (simp [*]; done), by repeat (first | exact Drawn0.refl _ | apply Drawn0.step)⟩
def vab (n : Int) : Int := if n < wrap64 (-n) then wrap64 (-n) else n
def impl_variable.f (a0 : Int) : Option (Int) := some (vab a0)
theorem impl_variable_val (n : Int) : impl_variable.f n = some (vab n) := rfl
set_option maxHeartbeats 8000000 in
set_option maxRecDepth 100000 in
theorem impl_variable.calls (a0 : Int) (r : Int) (w : World) (h : impl_variable.f a0 = some r) :
  Calls Try.prog 99 #[.int .i64 a0] w fun e w' => e = .returned (.int .i64 r) ∧ Drawn0 w w' := by
 have H : (some (vab a0)) = some r := h
 clear h
 obtain ⟨ji2, hji2⟩ : ∃ j_ : Int, (vab a0) = j_ := ⟨_, rfl⟩
 replace H : (some ji2) = some r := by rw [hji2] at H; exact H
 have hji2_ : (if a0 < (wrap64 (-a0)) then (wrap64 (-a0)) else a0) = ji2 := hji2
 obtain rfl := Option.some.inj H
 clear hji2
 go_enter Try.func99, Try.ntmps99
 go_wp2
 go_ret
 exact ⟨by first | rfl | simp, by repeat (first | exact Drawn0.refl _ | apply Drawn0.step)⟩
theorem given_quiet {P : Program} {f : FuncId} {args : Array Value} {w : World} {n : Nat} {v : Value} (h : Calls P f args (w.drewN n) fun e w' => e = .returned v ∧ Drawn0 (w.drewN n) w') :
  Calls P f args (w.drewN n) fun e w'' => e = .returned v ∧ ∃ m, w'' = w.drewN m := by
 refine h.mono ?_
 rintro e w' ⟨he, ⟨m, rfl⟩⟩
 exact ⟨he, n + m, by rw [World.drewN_drewN]⟩
set_option maxHeartbeats 8000000 in
set_option maxRecDepth 100000 in
theorem impl_isClause_1_calls (n k : Int) (B : Nat) (w : World) (hc : w.cell? ⟨B, 0, none⟩ = some (.int .i64 n)) :
  Calls Try.prog 98 #[.int .i64 k, .pointer (some ⟨B, 0, none⟩)] w fun e w' => e = .returned (.bool (vab k == vab n)) ∧ ∃ q, w' = w.drewN q := by
 go_enter Try.func98, Try.ntmps98
 go_wp2
 go_quiet ((go_at_call 99; first | exact given_quiet (impl_variable.calls k (vab k) _ (impl_variable_val k)) | exact given_quiet (impl_variable.calls n (vab n) _ (impl_variable_val n))))
 go_wp2
 go_ret
 exact ⟨by first | rfl | simp, _, rfl⟩
def litB (n v : Int) : Bool := decide (n ≠ 0) && (decide (wrap64 (-v) ≤ n) && decide (n ≤ v))
def clauseFrom (v : Int) : List Int → List Int → Bool
 | _, [] => true
 | seen, n :: r => litB n v && (!(seen.any fun k => vab k == vab n) && clauseFrom v (seen ++ [n]) r)
def isClauseB (l : List Int) (v : Int) : Bool := clauseFrom v [] l && decide (l.length ≤ 12)
def impl_isClause.f (l0 : List Int) (a1 : Int) : Option (Bool) := some (isClauseB l0 a1)
theorem impl_isLiteral_val (n v : Int) : impl_isLiteral.f n v = some (litB n v) := by
 unfold impl_isLiteral.f impl_in.f litB
 by_cases h : n = 0
 ·simp [h]
 ·rw [if_neg h]
  by_cases h2 : n ≥ wrap64 (-v)
  ·rw [if_pos h2]
   simp [h, h2]
  ·rw [if_neg h2]
   simp [h, h2]
theorem clauseFrom_at (v : Int) (l : List Int) (x : Int) (h0 : 0 ≤ x) (h1 : x < (l.length : Int)) :
  clauseFrom v (l.take x.toNat) (l.drop x.toNat) = (litB (rd l x) v && (!((l.take x.toNat).any fun k => vab k == vab (rd l x)) && clauseFrom v (l.take (x + 1).toNat) (l.drop (x + 1).toNat))) := by
 have hl : x.toNat < l.length := by omega
 have e : rd l x = l[x.toNat] := by unfold rd; rw [List.getD_eq_getElem?_getD, List.getElem?_eq_getElem hl]; rfl
 have e1 : (x + 1).toNat = x.toNat + 1 := by omega
 rw [List.drop_eq_getElem_cons hl, e1, List.take_succ_eq_append_getElem hl, e]
 rfl
set_option maxHeartbeats 8000000 in
set_option maxRecDepth 100000 in
theorem impl_isClause.calls (A0 : Option Addr) (c0 : Nat) (l0 : List Int) (a1 : Int) (r : Bool) (w : World) (hr0 : Kd.C (Kd.int .i64) w A0 l0.length l0) (hc0 : l0.length ≤ c0) (h : impl_isClause.f l0 a1 = some r) :
  Calls Try.prog 58 #[.slice A0 l0.length c0, .int .i64 a1] w fun e w' => e = .returned (.bool r) ∧ Below w.heap.size w w' := by
 have HR0 := Aside0.mk hr0
 have HC0 := Aside0.mk hc0
 have HR := Aside0.mk (Option.some.inj h)
 have HL := Aside0.mk hr0.2.1
 clear hr0 hc0 h
 have HB := Aside0.mk (Below.refl w.heap.size w)
 have eg := enters_of Try.func98 (by kernel_rfl) rfl
 go_enter Try.func58, Try.ntmps58
 go_wp2
 go_loopg [9] l0.length (fun kq v9 w' => ∃ (x : Int), v9 = .int .i64 x ∧ Aside0 (0 ≤ x ∧ x ≤ (l0.length : Int) ∧ (l0.length : Int) - x ≤ kq ∧ (clauseFrom a1 (l0.take x.toNat) (l0.drop x.toNat) && decide (l0.length ≤ 12)) = r) ∧ Aside0 (Below w.heap.size w w'))
 case atStart => exact ⟨0, rfl, ⟨by omega, by omega, by omega, HR.out⟩, HB⟩
 case round =>
  clear HB HR
  obtain ⟨x, rfl, HA, HB⟩ := hrel
  by_cases c3 : x < (l0.length : Int)
  ·have c3b0 : decide (x < (l0.length : Int)) = true := decide_eq_true c3
   have p101 : 0 ≤ x := HA.out.1
   have q101 := c3
   obtain ⟨ad101, e101, hx101_0⟩ := Kd.at_int HR0.out x p101 q101
   cases e101
   replace hx101_0 := (HB.out.cell (World.block_lt_of_cell? w _ hx101_0)).trans hx101_0
   have HW := Aside0.mk (show wrap64 (x + 1) = x + 1 by have := HL.out; unfold wrap64; omega)
   have HS := Aside0.mk (clauseFrom_at a1 l0 x p101 q101)
   have q101' : x ≤ (l0.length : Int) := by omega
   have q101b : decide (x ≤ (l0.length : Int)) = true := decide_eq_true q101'
   clear c3
   have HP := Aside0.mk p101
   have HQ := Aside0.mk q101
   replace p101 := eq_true p101
   replace q101 := eq_true q101
   replace q101' := eq_true q101'
   generalize hn : rd l0 x = n at HS hx101_0
   clear hn
   obtain ⟨i0, hi0, _, hsz0, _⟩ := info_parts info3
   obtain ⟨hcut, hAt, hCt⟩ := print_take_of (P := Try.prog) (Value.int .i64) 0 24 3 .i64 Try.underlying24 hi0 hsz0 (some ad101) c0 l0 x HP.out (by have := HQ.out; omega) HC0.out
   have HRT := Aside0.mk (Kd.C_of_reads (d := (0 : Int)) (h1 := fun _ => rfl) (hAt _ (Kd.reads_of_C HR0.out)))
   clear hcut hAt hCt hi0 hsz0
   have qc := eq_true (show x ≤ (c0 : Int) by have := HC0.out; have := HQ.out; omega)
   have qcb : decide (x ≤ (c0 : Int)) = true := decide_eq_true (of_eq_true qc)
   cases hlit : litB n a1 with
   | false =>
    have HLit := Aside0.mk (show impl_isLiteral.f n a1 = some false by rw [impl_isLiteral_val, hlit])
    have HF := Aside0.mk (show r = false by rw [← HA.out.2.2.2, HS.out, hlit]; rfl)
    clear hlit HA HS
    obtain rfl := HF.out
    go_wp2_with (go_at_call 93; (with_reducible refine (impl_isLiteral.calls n a1 false _ HLit.out).mono ?_); rintro e w' ⟨rfl, ⟨nd, rfl⟩⟩)
    go_ret
    exact ⟨rfl, zb_ HB.out⟩
   | true =>
    have HLit := Aside0.mk (show impl_isLiteral.f n a1 = some true by rw [impl_isLiteral_val, hlit])
    cases hany : ((l0.take x.toNat).any fun k => vab k == vab n) with
    | true =>
     have HF := Aside0.mk (show r = false by rw [← HA.out.2.2.2, HS.out, hlit, hany]; rfl)
     have HY := Aside0.mk hany
     clear hlit hany HA HS
     obtain rfl := HF.out
     go_wp2_with (first | (go_at_call 93; (with_reducible refine (impl_isLiteral.calls n a1 true _ HLit.out).mono ?_); rintro e w' ⟨rfl, ⟨nd, rfl⟩⟩) | (go_at_call 91; refine (recast_ (slices_ContainsFunc_int_calls (fun k => vab k == vab n) 98 #[.pointer (some ⟨wr.heap.size, 0, none⟩)] eg _ _ (l0.take x.toNat) _ ?s1 ?s2) (by rw [take_len_ l0 x HP.out (by have := HQ.out; omega)])).mono ?_; (case s1 => exact Kd.C_below HRT.out (zb_ HB.out)); (case s2 => exact fun z q _ => impl_isClause_1_calls n z _ _ (by simp)); rintro e w' ⟨he, ⟨nd2, rfl⟩⟩; rw [HY.out] at he; subst he))
     go_ret
     exact ⟨rfl, zb_ HB.out⟩
    | false =>
     have HF := Aside0.mk (show (clauseFrom a1 (l0.take (x + 1).toNat) (l0.drop (x + 1).toNat) && decide (l0.length ≤ 12)) = r by rw [← HA.out.2.2.2, HS.out, hlit, hany]; rfl)
     have HY := Aside0.mk hany
     clear hlit hany HS
     go_wp2_with (first | (go_at_call 93; (with_reducible refine (impl_isLiteral.calls n a1 true _ HLit.out).mono ?_); rintro e w' ⟨rfl, ⟨nd, rfl⟩⟩) | (go_at_call 91; refine (recast_ (slices_ContainsFunc_int_calls (fun k => vab k == vab n) 98 #[.pointer (some ⟨wr.heap.size, 0, none⟩)] eg _ _ (l0.take x.toNat) _ ?s1 ?s2) (by rw [take_len_ l0 x HP.out (by have := HQ.out; omega)])).mono ?_; (case s1 => exact Kd.C_below HRT.out (zb_ HB.out)); (case s2 => exact fun z q _ => impl_isClause_1_calls n z _ _ (by simp)); rintro e w' ⟨he, ⟨nd2, rfl⟩⟩; rw [HY.out] at he; subst he))
     go_roundg (gk - 1)
     case measure => have := HA.out.2.2.1; have := HQ.out; omega
     case rel => exact ⟨x + 1, by first | rfl | (rw [← HW.out]; done) | (rw [HW.out]; done) | simp [HW.out], ⟨by have := HP.out; omega, by have := HQ.out; omega, by have := HA.out.2.2.1; have := HQ.out; omega, HF.out⟩, ⟨zb_ HB.out⟩⟩
  ·have c3b0 : decide (x < (l0.length : Int)) = false := decide_eq_false c3
   have hx : x = (l0.length : Int) := by have := HA.out.2.1; omega
   have HX := Aside0.mk hx
   clear hx c3
   go_wp2
   go_ret
   refine ⟨?_, zb_ HB.out⟩
   have := HA.out.2.2.2
   rw [HX.out] at this
   simp [clauseFrom] at this
   rw [← this]
   first | rfl | (simp; omega) | simp
def rowAt_ (l : List (List Int)) (i : Int) : List Int := l.getD i.toNat []
def pidxR (p : List Int → Bool) (l : List (List Int)) : Int := if l.any p = true then (l.findIdx p : Int) else -1
theorem pidxR_hit (p : List Int → Bool) (l : List (List Int)) (i : Int) (h0 : 0 ≤ i) (h1 : i < (l.length : Int)) (hb : ∀ j : Nat, (j : Int) < i → p (rowAt_ l j) = false) (hp : p (rowAt_ l i) = true) : pidxR p l = i := by
 have hl : i.toNat < l.length := by omega
 have e : rowAt_ l i = l[i.toNat] := by unfold rowAt_; rw [List.getD_eq_getElem?_getD, List.getElem?_eq_getElem hl]; rfl
 have hany : l.any p = true := List.any_eq_true.2 ⟨_, List.getElem_mem hl, by rw [← e]; exact hp⟩
 have hf : l.findIdx p = i.toNat := by
  rw [List.findIdx_eq hl]
  refine ⟨by rw [← e]; exact hp, fun j hj => ?_⟩
  have := hb j (by omega)
  unfold rowAt_ at this
  rw [List.getD_eq_getElem?_getD, show ((j : Int).toNat) = j by omega, List.getElem?_eq_getElem (by omega)] at this
  simpa using this
 unfold pidxR
 rw [if_pos hany, hf]
 omega
theorem pidxR_miss (p : List Int → Bool) (l : List (List Int)) (h : ∀ j : Nat, j < l.length → p (rowAt_ l j) = false) : pidxR p l = -1 := by
 have : ¬ l.any p = true := by
  intro hany
  obtain ⟨x, hx, hp⟩ := List.any_eq_true.1 hany
  obtain ⟨j, hj, rfl⟩ := List.mem_iff_getElem.1 hx
  have := h j hj
  unfold rowAt_ at this
  rw [List.getD_eq_getElem?_getD, show ((j : Int).toNat) = j by omega, List.getElem?_eq_getElem hj] at this
  simp [hp] at this
 unfold pidxR
 rw [if_neg this]
theorem pidxR_nonneg (p : List Int → Bool) (l : List (List Int)) : decide (0 ≤ pidxR p l) = l.any p := by
 unfold pidxR
 cases h : l.any p
 ·simp
 ·simp
theorem given_at_row {w : World} {A : Option Addr} {n : Nat} {xs : List (List Int)} (h : Kd.C (Kd.slice 3 (Kd.int .i64)) w A n xs) (i : Int) (h0 : 0 ≤ i) (h1 : i < n) :
  ∃ ad A0 c0, A = some ad ∧ w.cell? (ad.add i.toNat) = some (.slice A0 (rowAt_ xs i).length c0) ∧ (rowAt_ xs i).length ≤ c0 ∧ (Kd.int .i64).C w A0 (rowAt_ xs i).length (rowAt_ xs i) := by
 obtain ⟨ad, c, e, _, hK, hc0⟩ := Kd.C_get h ([] : List Int) i h0 h1
 have hc : ∀ j u, c[j]? = some u → w.cell? (ad.add (i.toNat * 1 + j)) = some u := hc0
 obtain ⟨A0, c0, rfl, l0, g0⟩ := hK
 unfold rowAt_
 exact ⟨ad, A0, c0, e, by have hq := hc 0 _ rfl; rwa [Nat.mul_one, Nat.add_zero] at hq, l0, g0⟩
set_option maxHeartbeats 8000000 in
set_option maxRecDepth 100000 in
theorem slices_IndexFunc_rows_calls (p : List Int → Bool) (g : Nat) (lb : Array Value) (eg : ∀ args w, (callFunc g args).run Try.prog w = .ok (.enter g args) w) (A0 : Option Addr) (c0 : Nat) (l0 : List (List Int)) (w : World) (hr0 : Kd.C (Kd.slice 3 (Kd.int .i64)) w A0 l0.length l0)
  (hp : ∀ (x : List Int) (A : Option Addr) (c : Nat) (W : World), x ∈ l0 → Kd.C (Kd.int .i64) W A x.length x → x.length ≤ c → Below w.heap.size w W → Calls Try.prog g (#[.slice A x.length c] ++ lb) W fun e w' => e = .returned (.bool (p x)) ∧ Below W.heap.size W w') :
  Calls Try.prog 120 #[.slice A0 l0.length c0, .func (.func g) #[] lb] w fun e w' => e = .returned (.int .i64 (pidxR p l0)) ∧ Below w.heap.size w w' := by
 have HR0 := Aside0.mk hr0
 have HP := Aside0.mk hp
 clear hr0 hp
 have HB := Aside0.mk (Below.refl w.heap.size w)
 go_enter Try.func120, Try.ntmps120
 go_wp2
 go_loopg [5, 8] l0.length (fun kq _ v8 w' => ∃ (x : Int), v8 = .int .i64 x ∧ Aside0 (0 ≤ x ∧ x ≤ (l0.length : Int) ∧ (l0.length : Int) - x ≤ kq ∧ ∀ j : Nat, (j : Int) < x → p (rowAt_ l0 j) = false) ∧ Aside0 (Below w.heap.size w w'))
 case atStart => exact ⟨0, rfl, ⟨by omega, by omega, by omega, fun j hj => absurd hj (by omega)⟩, HB⟩
 case round =>
  clear HB
  obtain ⟨x, rfl, HA, HB⟩ := hrel
  by_cases c3 : x < (l0.length : Int)
  ·have c3b0 : decide (x < (l0.length : Int)) = true := decide_eq_true c3
   have p101 : 0 ≤ x := HA.out.1
   have q101 := c3
   obtain ⟨ad101, A9, c9, e101, hx101_0, hl9, hr9⟩ := given_at_row HR0.out x p101 q101
   cases e101
   replace hx101_0 := (HB.out.cell (World.block_lt_of_cell? w _ hx101_0)).trans hx101_0
   have hmem : rowAt_ l0 x ∈ l0 := by
    unfold rowAt_
    rw [List.getD_eq_getElem?_getD, List.getElem?_eq_getElem (show x.toNat < l0.length by omega)]
    exact List.getElem_mem _
   have hcall := fun W hW hB => HP.out (rowAt_ l0 x) A9 c9 W hmem hW hl9 hB
   have hw1 : wrap64 (x + 1) = x + 1 := by
    have := HR0.out.2.1
    unfold wrap64
    omega
   have HW := Aside0.mk hw1
   have HR9 := Aside0.mk hr9
   clear hw1 hmem c3 hr9 hl9
   replace p101 := eq_true p101
   replace q101 := eq_true q101
   cases hq : p (rowAt_ l0 x) with
   | true =>
    rw [hq] at hcall
    have HQ := Aside0.mk hq
    have HC := Aside0.mk hcall
    clear hq hcall
    go_wp2_with (go_at_fn g; refine (HC.out _ ?s1 ?s2).mono ?_; (case s1 => exact Kd.C_below HR9.out (zb_ HB.out)); (case s2 => exact zb_ HB.out); rintro e w5 ⟨rfl, hb⟩; have n1_ := Aside0.mk (below_step (zb_ HB.out) hb); clear HB; have HB := n1_; clear n1_ hb)
    go_ret
    refine ⟨?_, zb_ HB.out⟩
    rw [pidxR_hit p l0 x HA.out.1 (of_eq_true q101) HA.out.2.2.2 HQ.out]
    rfl
   | false =>
    rw [hq] at hcall
    have HQ := Aside0.mk hq
    have HC := Aside0.mk hcall
    clear hq hcall
    go_wp2_with (go_at_fn g; refine (HC.out _ ?s1 ?s2).mono ?_; (case s1 => exact Kd.C_below HR9.out (zb_ HB.out)); (case s2 => exact zb_ HB.out); rintro e w5 ⟨rfl, hb⟩; have n1_ := Aside0.mk (below_step (zb_ HB.out) hb); clear HB; have HB := n1_; clear n1_ hb)
    go_roundg (gk - 1)
    case measure => have := HA.out.2.2.1; have := of_eq_true q101; omega
    case rel =>
     refine ⟨x + 1, by first | rfl | (rw [← HW.out]; done) | (rw [HW.out]; done) | simp [HW.out], ⟨by have := HA.out.1; omega, by have := of_eq_true q101; omega, by have := HA.out.2.2.1; have := of_eq_true q101; omega, fun j hj => ?_⟩, ⟨zb_ HB.out⟩⟩
     by_cases e : (j : Int) = x
     ·rw [e]
      exact HQ.out
     ·exact HA.out.2.2.2 j (by omega)
  ·have c3b0 : decide (x < (l0.length : Int)) = false := decide_eq_false c3
   have hx : x = (l0.length : Int) := by have := HA.out.2.1; omega
   have HX := Aside0.mk hx
   clear hx c3
   go_wp2
   go_ret
   refine ⟨?_, zb_ HB.out⟩
   rw [pidxR_miss p l0 (fun j hj => HA.out.2.2.2 j (by rw [HX.out]; omega))]
   rfl
set_option maxHeartbeats 8000000 in
set_option maxRecDepth 100000 in
theorem slices_ContainsFunc_rows_calls (p : List Int → Bool) (g : Nat) (lb : Array Value) (eg : ∀ args w, (callFunc g args).run Try.prog w = .ok (.enter g args) w) (A0 : Option Addr) (c0 : Nat) (l0 : List (List Int)) (w : World) (hr0 : Kd.C (Kd.slice 3 (Kd.int .i64)) w A0 l0.length l0)
  (hp : ∀ (x : List Int) (A : Option Addr) (c : Nat) (W : World), x ∈ l0 → Kd.C (Kd.int .i64) W A x.length x → x.length ≤ c → Below w.heap.size w W → Calls Try.prog g (#[.slice A x.length c] ++ lb) W fun e w' => e = .returned (.bool (p x)) ∧ Below W.heap.size W w') :
  Calls Try.prog 110 #[.slice A0 l0.length c0, .func (.func g) #[] lb] w fun e w' => e = .returned (.bool (l0.any p)) ∧ Below w.heap.size w w' := by
 have HN := Aside0.mk (pidxR_nonneg p l0)
 generalize hv : l0.any p = v at HN
 have HR0 := Aside0.mk hr0
 have HP := Aside0.mk hp
 clear hr0 hv hp
 have HB := Aside0.mk (Below.refl w.heap.size w)
 go_enter Try.func110, Try.ntmps110
 have hn := HN.out
 go_wp2_with (go_at_call 120; (with_reducible refine (slices_IndexFunc_rows_calls p g lb eg A0 c0 l0 _ HR0.out HP.out).mono ?_); rintro e w5 ⟨rfl, hb⟩; have n1_ := Aside0.mk (below_step (zb_ HB.out) hb); clear HB; have HB := n1_; clear n1_ hb)
 go_ret
 exact ⟨by first | rfl | simp, zb_ HB.out⟩
set_option maxHeartbeats 8000000 in
set_option maxRecDepth 100000 in
theorem impl_areClauses_1_calls (v : Int) (B : Nat) (A : Option Addr) (c : Nat) (x : List Int) (w : World) (hr : Kd.C (Kd.int .i64) w A x.length x) (hl : x.length ≤ c) (hc : w.cell? ⟨B, 0, none⟩ = some (.int .i64 v)) :
  Calls Try.prog 111 (#[.slice A x.length c] ++ #[.pointer (some ⟨B, 0, none⟩)]) w fun e w' => e = .returned (.bool (!isClauseB x v)) ∧ Below w.heap.size w w' := by
 have HR := Aside0.mk hr
 have HL := Aside0.mk hl
 clear hr hl
 have HB := Aside0.mk (Below.refl w.heap.size w)
 obtain ⟨b, hb⟩ : ∃ b, isClauseB x v = b := ⟨_, rfl⟩
 have HV := Aside0.mk (show impl_isClause.f x v = some b by unfold impl_isClause.f; rw [hb])
 rw [hb]
 clear hb
 show Calls Try.prog 111 #[.slice A x.length c, .pointer (some ⟨B, 0, none⟩)] w _
 go_enter Try.func111, Try.ntmps111
 go_wp2_with (go_at_call 58; (with_reducible refine (impl_isClause.calls A c x v b _ ?s1 HL.out HV.out).mono ?_); (case s1 => exact zC_ HR.out); rintro e w5 ⟨rfl, hb⟩; have n1_ := Aside0.mk (below_step (zb_ HB.out) hb); clear HB; have HB := n1_; clear n1_ hb)
 go_ret
 exact ⟨by first | rfl | simp, zb_ HB.out⟩
def impl_areClauses.f (l0 : List (List Int)) (a1 : Int) : Option (Bool) := some (!(l0.any fun x => !isClauseB x a1))
set_option maxHeartbeats 8000000 in
set_option maxRecDepth 100000 in
theorem impl_areClauses.calls (A0 : Option Addr) (c0 : Nat) (l0 : List (List Int)) (a1 : Int) (r : Bool) (w : World) (hr0 : Kd.C (Kd.slice 3 (Kd.int .i64)) w A0 l0.length l0) (hc0 : l0.length ≤ c0) (h : impl_areClauses.f l0 a1 = some r) :
  Calls Try.prog 80 #[.slice A0 l0.length c0, .int .i64 a1] w fun e w' => e = .returned (.bool r) ∧ Below w.heap.size w w' := by
 have HR0 := Aside0.mk hr0
 have HR := Aside0.mk (Option.some.inj h)
 clear hr0 hc0 h
 have HB := Aside0.mk (Below.refl w.heap.size w)
 have eg := enters_of Try.func111 (by kernel_rfl) rfl
 obtain ⟨b, hb⟩ : ∃ b, (l0.any fun x => !isClauseB x a1) = b := ⟨_, rfl⟩
 have HY := Aside0.mk hb
 have HF := Aside0.mk (show r = !b by rw [← HR.out, hb])
 clear hb HR
 obtain rfl := HF.out
 go_enter Try.func80, Try.ntmps80
 go_wp2_with (go_at_call 110; refine (slices_ContainsFunc_rows_calls (fun x => !isClauseB x a1) 111 #[.pointer (some ⟨w.heap.size, 0, none⟩)] eg _ _ l0 _ ?s1 ?s2).mono ?_; (case s1 => exact zC_ HR0.out); (case s2 => exact fun x A c W _ hx hl hW => impl_areClauses_1_calls a1 _ A c x W hx hl ((hW.cell (p := ⟨w.heap.size, 0, none⟩) (by simp)).trans (by simp))); rintro e w5 ⟨he, hb⟩; rw [HY.out] at he; subst he; have n1_ := Aside0.mk (below_step (zb_ HB.out) hb); clear HB; have HB := n1_; clear n1_ hb)
 go_ret
 exact ⟨by first | rfl | simp, zb_ HB.out⟩
def impl_GoodClauses.f (a0 : Int) (l1 : List (List Int)) : Option (Bool) := (impl_in.f a0 0 12).bind fun t251 => (if t251 = true then (if (l1.length : Int) ≤ 60 then ((impl_areClauses.f l1 a0).bind fun t252 => (some t252)) else (some false)) else (some false))
set_option maxHeartbeats 8000000 in
set_option maxRecDepth 100000 in
theorem impl_GoodClauses.calls (a0 : Int) (A1 : Option Addr) (c1 : Nat) (l1 : List (List Int)) (r : Bool) (w : World) (hr1 : Kd.C (Kd.slice 3 (Kd.int .i64)) w A1 l1.length l1) (hc1 : l1.length ≤ c1) (h : impl_GoodClauses.f a0 l1 = some r) :
  Calls Try.prog 26 #[.int .i64 a0, .slice A1 l1.length c1] w fun e w' => e = .returned (.bool r) ∧ Below w.heap.size w w' := by
 have HR1 := Aside0.mk hr1
 have HC1 := Aside0.mk hc1
 clear hr1 hc1
 have HB := Aside0.mk (Below.refl w.heap.size w)
 have H : ((impl_in.f a0 0 12).bind fun t251 => (if t251 = true then (if (l1.length : Int) ≤ 60 then ((impl_areClauses.f l1 a0).bind fun t252 => (some t252)) else (some false)) else (some false))) = some r := h
 clear h
 replace H := Option.bind_eq_some_iff.mp H
 obtain ⟨t251, A30, H⟩ := H
 (try dsimp only at H)
 have A3 := Aside0.mk A30
 clear A30
 by_cases c4 : t251 = true
 ·subst c4
  have H1 : (if (l1.length : Int) ≤ 60 then ((impl_areClauses.f l1 a0).bind fun t252 => (some t252)) else (some false)) = some r := by rw [if_pos rfl] at H; exact H
  clear H
  have H := H1
  clear H1
  by_cases c5 : (l1.length : Int) ≤ 60
  ·rw [if_pos c5] at H
   have c5b0 : decide ((l1.length : Int) ≤ 60) = true := decide_eq_true c5
   have c5b1 : decide (l1.length ≤ 60) = true := decide_eq_true (by omega)
   clear c5
   replace H := Option.bind_eq_some_iff.mp H
   obtain ⟨t252, A60, H⟩ := H
   (try dsimp only at H)
   have A6 := Aside0.mk A60
   clear A60
   obtain rfl := Option.some.inj H
   go_enter Try.func26, Try.ntmps26
   go_wp2_with (first | ((with_reducible refine gate_callee (f := 79) rfl ?_); refine goesL_ (some 6) rfl rfl Try.func79 (by kernel_rfl) rfl #[.int .i64 a0, .int .i64 0, .int .i64 12] rfl (by simp only [zA_, zB_, zD_] <;> rfl) ?_; (with_reducible refine (impl_in.calls a0 0 12 true _ A3.out).mono ?_); rintro e w' ⟨rfl, ⟨nd, rfl⟩⟩; refine ⟨_, rfl, ?_⟩) | (go_at_call 80; (with_reducible refine (impl_areClauses.calls _ _ l1 a0 t252 _ ?side1 ?side2 A6.out).mono ?_); (case side1 => exact zC_ HR1.out); (case side2 => exact HC1.out); rintro e w7 ⟨rfl, hb⟩; have n0_ := Aside0.mk (below_step (zb_ HB.out) hb); clear HB; have HB := n0_; clear n0_; (try clear hb); (try clear hb2); (try clear hk); (try clear hi)))
   go_ret
   exact ⟨by first | rfl | (simp [errW_none, errW_some] <;> rfl) | (simp [*, errW_none, errW_some] <;> rfl), zb_ HB.out⟩
  ·rw [if_neg c5] at H
   have c5b0 : decide ((l1.length : Int) ≤ 60) = false := decide_eq_false c5
   have c5b1 : decide (l1.length ≤ 60) = false := decide_eq_false (by omega)
   clear c5
   obtain rfl := Option.some.inj H
   go_enter Try.func26, Try.ntmps26
   go_wp2_with (first | ((with_reducible refine gate_callee (f := 79) rfl ?_); refine goesL_ (some 6) rfl rfl Try.func79 (by kernel_rfl) rfl #[.int .i64 a0, .int .i64 0, .int .i64 12] rfl (by simp only [zA_, zB_, zD_] <;> rfl) ?_; (with_reducible refine (impl_in.calls a0 0 12 true _ A3.out).mono ?_); rintro e w' ⟨rfl, ⟨nd, rfl⟩⟩; refine ⟨_, rfl, ?_⟩))
   go_ret
   exact ⟨by first | rfl | (simp [errW_none, errW_some] <;> rfl) | (simp [*, errW_none, errW_some] <;> rfl), zb_ HB.out⟩
 ·replace c4 := Bool.eq_false_iff.mpr c4
  subst c4
  have H1 : (some false) = some r := by rw [if_neg (show ¬ (false = true) by decide)] at H; exact H
  clear H
  have H := H1
  clear H1
  obtain rfl := Option.some.inj H
  go_enter Try.func26, Try.ntmps26
  go_wp2_with (first | ((with_reducible refine gate_callee (f := 79) rfl ?_); refine goesL_ (some 6) rfl rfl Try.func79 (by kernel_rfl) rfl #[.int .i64 a0, .int .i64 0, .int .i64 12] rfl (by simp only [zA_, zB_, zD_] <;> rfl) ?_; (with_reducible refine (impl_in.calls a0 0 12 false _ A3.out).mono ?_); rintro e w' ⟨rfl, ⟨nd, rfl⟩⟩; refine ⟨_, rfl, ?_⟩))
  go_ret
  exact ⟨by first | rfl | (simp [errW_none, errW_some] <;> rfl) | (simp [*, errW_none, errW_some] <;> rfl), zb_ HB.out⟩
set_option maxHeartbeats 1000000 in
set_option maxRecDepth 100000 in
theorem slices_Grow_rows_calls (m : Nat) (hm : m < 4398046511104) (w : World) :
  Calls Try.prog 104 #[.slice none 0 0, .int .i64 (m : Int)] w fun e w' => ∃ v0_ : Value, e = .returned v0_ ∧ w'.ownsRow w.heap.size 24 1 v0_ 0 [] ∧ Below w.heap.size w w' := by
 have HM := Aside0.mk hm
 have HB := Aside0.mk (Below.refl w.heap.size w)
 rcases Nat.eq_zero_or_pos m with rfl | hp
 ·clear hm
  go_enter Try.func104, Try.ntmps104
  go_wp2
  go_ret
  exact ⟨_, rfl, own_nil _ _ _ _, zb_ HB.out⟩
 ·have HP := Aside0.mk hp
  obtain ⟨i0, hi, hz0, hz1, hz2⟩ := info_parts info24
  have hrun := fun (W : World) (ty : TypeId) => Lib.run_append_nil_zeros (P := Try.prog) W 23 3 ty 24 i0 (.slice none 0 0) .i64 .i64 Try.underlying23 Try.underlying3 hi hz0 m hp (by rw [hz1]; decide) (by omega) (by rw [hz2]; omega)
  have HRUN := Aside0.mk hrun
  have HO := Aside0.mk (own_grown_ (w := w) (e := 24) (z := .slice none 0 0) (n := m) rfl (grownCap w m 0 24) (grownCap_ge w m 0 24) (grownCap_le_maxLen w m 0 24 (by simp only [maxLen]; omega)) w.heap.size (Nat.le_refl _))
  have hq : decide ((m : Int) < 0) = false := decide_eq_false (by omega)
  have hq2 : decide ((0 : Int) < (m : Int)) = true := decide_eq_true (by omega)
  have hq3 : decide (0 < m) = true := decide_eq_true hp
  have hb : (m : Int) ≤ 4398046511104 := by omega
  have hb0 : (0 : Int) ≤ (m : Int) := by omega
  clear hm hp hi hz0 hz1 hz2 hrun
  go_enter Try.func104, Try.ntmps104
  go_wp2_with ((with_reducible refine gate_builtin (b := .append) (xs := #[.tmp 20, .tmp 21]) rfl ?_); at_builtin; refine Lib.wpList_append_run _ rfl _ _ _ _ rfl _ _ rfl rfl _ _ (HRUN.out _ _) ?_)
  go_ret
  exact ⟨_, rfl, HO.out, zb_ HB.out⟩
def slices_Concat_rows (l0 : List (List (List Int))) : Option (List (List Int)) := if l0.flatten.length < 4398046511104 then some l0.flatten else none
set_option maxHeartbeats 1000000 in
set_option maxRecDepth 100000 in
theorem slices_Concat_rows_calls (A0 : Option Addr) (c0 : Nat) (l0 : List (List (List Int))) (r : List (List Int)) (w : World) (hr0 : Kd.C (Kd.slice 24 (Kd.slice 3 (Kd.int .i64))) w A0 l0.length l0) (hc0 : l0.length ≤ c0) (h : slices_Concat_rows l0 = some r) :
  Calls Try.prog 71 #[.slice A0 l0.length c0] w fun e w' => ∃ v0_ : Value, e = .returned (v0_) ∧ Kd.R (Kd.fixed (Kd.slice 3 (Kd.int .i64)) w) 24 w' w.heap.size (fun _ => True) v0_ r ∧ Below w.heap.size w w' := by
 have HR0 := Aside0.mk hr0
 have HL := Aside0.mk hr0.2.1
 unfold slices_Concat_rows at h
 by_cases c3 : l0.flatten.length < 4398046511104
 ·rw [if_pos c3] at h
  have HF := Aside0.mk (Option.some.inj h)
  have LM := Aside0.mk c3
  clear hr0 hc0 h c3
  have HB := Aside0.mk (Below.refl w.heap.size w)
  go_enter Try.func71, Try.ntmps71
  go_wp2
  go_loopg [3, 11] l0.length (fun kq v3 v11 w' => ∃ (x s : Int), v3 = .int .i64 s ∧ v11 = .int .i64 x ∧ Aside0 (0 ≤ x ∧ x ≤ (l0.length : Int) ∧ (l0.length : Int) - x ≤ kq ∧ s = ((l0.take x.toNat).flatten.length : Nat)) ∧ Aside0 (Below w.heap.size w w'))
  case atStart => exact ⟨0, 0, rfl, rfl, ⟨by omega, by omega, by omega, rfl⟩, HB⟩
  case round =>
   clear HB
   obtain ⟨x, s, rfl, rfl, HA, HB⟩ := hrel
   by_cases c3 : x < (l0.length : Int)
   ·have c3b0 : decide (x < (l0.length : Int)) = true := decide_eq_true c3
    have p101 : 0 ≤ x := HA.out.1
    have q101 := c3
    obtain ⟨ad101, A9, c9, e101, hx101_0, hl9, hr9⟩ := rowIn_at HR0.out x p101 q101
    cases e101
    replace hx101_0 := (HB.out.cell (World.block_lt_of_cell? w _ hx101_0)).trans hx101_0
    have HW := Aside0.mk (show wrap64 (x + 1) = x + 1 by have := HL.out; unfold wrap64; omega)
    have HS := Aside0.mk (flat_step_ l0 x p101 q101)
    obtain ⟨m9, hm9⟩ : ∃ m, (rowIn_ l0 x).length = m := ⟨_, rfl⟩
    have hsm : 0 ≤ s ∧ s + (m9 : Int) < 4398046511104 := by
     have h1 := flat_le_ l0 (x + 1).toNat
     rw [HS.out, List.length_append] at h1
     have h2 := LM.out
     have h3 := HA.out.2.2.2
     omega
    have HSM := Aside0.mk hsm
    have HM9 := Aside0.mk hm9
    have s0 : 0 ≤ s := hsm.1
    have s1 : s ≤ 4398046511104 := by omega
    have s2 : (m9 : Int) ≤ 4398046511104 := by omega
    have s3 : (0 : Int) ≤ (m9 : Int) := by omega
    have s4 : decide (s + (m9 : Int) < 0) = false := decide_eq_false (by omega)
    have HWS := Aside0.mk (show wrap64 (s + (m9 : Int)) = s + (m9 : Int) by unfold wrap64; omega)
    rw [hm9] at hx101_0
    clear c3 hsm hl9 hr9 hm9
    have HP := Aside0.mk p101
    have HQ := Aside0.mk q101
    replace p101 := eq_true p101
    replace q101 := eq_true q101
    go_wp2
    go_roundg (gk - 1)
    case measure => have := HA.out.2.2.1; have := HQ.out; omega
    case rel => exact ⟨x + 1, s + (m9 : Int), by first | rfl | (rw [← HWS.out]; done) | (rw [HWS.out]; done) | simp [HWS.out], by first | rfl | (rw [← HW.out]; done) | (rw [HW.out]; done) | simp [HW.out], ⟨by have := HP.out; omega, by have := HQ.out; omega, by have := HA.out.2.2.1; have := HQ.out; omega, by rw [HS.out, List.length_append]; have := HA.out.2.2.2; have := HM9.out; omega⟩, ⟨zb_ HB.out⟩⟩
   ·have c3b0 : decide (x < (l0.length : Int)) = false := decide_eq_false c3
    have hx : x = (l0.length : Int) := by have := HA.out.2.1; omega
    have hs : s = (l0.flatten.length : Nat) := by
     have := HA.out.2.2.2
     rw [hx] at this
     simpa using this
    obtain ⟨ms, hms⟩ : ∃ ms, ms = l0.flatten.length := ⟨_, rfl⟩
    rw [← hms] at hs
    have HMS := Aside0.mk (show ms < 4398046511104 by rw [hms]; exact LM.out)
    subst hs
    clear hx c3 hms HA
    go_wp2_with (go_at_call 104; (with_reducible refine (slices_Grow_rows_calls ms HMS.out _).mono ?_); rintro e w5 ⟨v5, rfl, ho, hb⟩; have n0_ := Aside0.mk (Kd.R_lower (R_of_own_ (d := (Kd.fixed (Kd.slice 3 (Kd.int .i64)) w)) ho) (below_size (zb_ HB.out))); have n1_ := Aside0.mk (below_step (zb_ HB.out) hb); clear HB; have HO5 := n0_; have HB := n1_; clear n0_ n1_; clear hb ho)
    go_loopg [6, 27] l0.length (fun kq v6 v27 w' => ∃ (x : Int) (y : List (List Int)), v27 = .int .i64 x ∧ Aside0 (0 ≤ x ∧ x ≤ (l0.length : Int) ∧ (l0.length : Int) - x ≤ kq ∧ y = (l0.take x.toNat).flatten) ∧ Aside0 (Kd.R (Kd.fixed (Kd.slice 3 (Kd.int .i64)) w) 24 w' w.heap.size (fun _ => True) v6 y) ∧ Aside0 (Below w.heap.size w w'))
    case atStart => exact ⟨0, [], rfl, ⟨by omega, by omega, by omega, rfl⟩, HO5, HB⟩
    case round =>
     clear HB HO5
     obtain ⟨x2, y, rfl, HA, HO, HB⟩ := hrel
     obtain ⟨Ay, cy, ey⟩ := Kd.R_slice HO.out
     subst ey
     by_cases c3 : x2 < (l0.length : Int)
     ·have c3b0' : decide (x2 < (l0.length : Int)) = true := decide_eq_true c3
      have p101 : 0 ≤ x2 := HA.out.1
      have q101 := c3
      obtain ⟨ad101, A9, c9, e101, hx101_0, hl9, hr9⟩ := rowIn_at HR0.out x2 p101 q101
      cases e101
      replace hx101_0 := (HB.out.cell (World.block_lt_of_cell? w _ hx101_0)).trans hx101_0
      have HR9 := Aside0.mk hr9
      have HW := Aside0.mk (show wrap64 (x2 + 1) = x2 + 1 by have := HL.out; unfold wrap64; omega)
      have HS := Aside0.mk (flat_step_ l0 x2 p101 q101)
      obtain ⟨z, hz⟩ : ∃ z, rowIn_ l0 x2 = z := ⟨_, rfl⟩
      rw [hz] at hx101_0
      have HZ := Aside0.mk hz
      have LA := Aside0.mk (show y.length + z.length < 4398046511104 by
       have h1 := flat_le_ l0 (x2 + 1).toNat
       rw [HS.out, hz, ← HA.out.2.2.2, List.length_append] at h1
       have h2 := LM.out
       omega)
      have HR9 := Aside0.mk (show Kd.C (Kd.slice 3 (Kd.int .i64)) w A9 z.length z from hz ▸ HR9.out)
      clear c3 hl9 hr9 hz
      have HP := Aside0.mk p101
      have HQ := Aside0.mk q101
      replace p101 := eq_true p101
      replace q101 := eq_true q101
      obtain ⟨y2, hy2⟩ : ∃ y_, y_ = y ++ z := ⟨_, rfl⟩
      have NY2 := Aside0.mk hy2
      clear hy2
      go_wp2_with ((with_reducible refine gate_builtin (b := .append) (xs := #[.tmp 31, .tmp 32]) rfl ?_); at_builtin; refine Kd.R_append_rows (Kd.fixed (Kd.slice 3 (Kd.int .i64)) w) (w0 := w) w.heap.size rfl (.tmp 31) (.tmp 32) 23 24 (.slice none 0 0) 24 rfl Try.underlying23 info24 rfl Nat.zero_lt_one (by omega) (.slice Ay y.length cy) y z _ _ _ (fun _ => True) (fun _ => False) rfl rfl ?aO ?aR (fun _ _ h => h) (fun _ h => h.elim) ?aF ?aB ?aS ?aL ?_; (case aR => exact ReadsRow.imp_ HR9.out (zb_ HB.out) (fun _ _ hp => hp)); (case aB => exact (zb_ HB.out)); (case aF => exact (fun _ _ => trivial)); (case aO => exact (zR_ HO.out)); (case aS => exact (below_size (zb_ HB.out))); (case aL => have := LA.out; omega); intro v9 w9 ho hb hg hat; rw [← NY2.out] at ho; have n0_ := Aside0.mk hb; have n1_ := Aside0.mk ho; clear HB; clear HO; have HB := n0_; have HO := n1_; clear n0_ n1_; clear ho hb hg hat)
      go_roundg (gk - 1)
      case measure => have := HA.out.2.2.1; have := HQ.out; omega
      case rel => exact ⟨x2 + 1, y2, by first | rfl | (rw [← HW.out]; done) | (rw [HW.out]; done) | simp [HW.out], ⟨by have := HP.out; omega, by have := HQ.out; omega, by have := HA.out.2.2.1; have := HQ.out; omega, by rw [HS.out, HZ.out, ← HA.out.2.2.2, NY2.out]⟩, ⟨zR_ HO.out⟩, ⟨zb_ HB.out⟩⟩
     ·have c3b0' : decide (x2 < (l0.length : Int)) = false := decide_eq_false c3
      have hx : x2 = (l0.length : Int) := by have := HA.out.2.1; omega
      have HY := Aside0.mk (show y = r by rw [HA.out.2.2.2, ← HF.out, hx]; simp)
      clear hx c3
      go_wp2
      go_ret
      exact ⟨_, rfl, by rw [← HY.out]; (with_reducible repeat (first | apply Kd.R_alloc | apply Kd.R_drewN | apply Kd.R_drew)); exact HO.out, zb_ HB.out⟩
 ·rw [if_neg c3] at h
  exact absurd h (by simp)
theorem slices_Concat_two_calls (A0 : Option Addr) (c0 : Nat) (l1 l2 : List (List Int)) (r : List (List Int)) (w : World) (hr0 : Kd.C (Kd.slice 24 (Kd.slice 3 (Kd.int .i64))) w A0 [l1, l2].length [l1, l2]) (hc0 : 2 ≤ c0) (h : slices_Concat_rows [l1, l2] = some r) :
  Calls Try.prog 71 #[.slice A0 2 c0] w fun e w' => ∃ v0_ : Value, e = .returned (v0_) ∧ Kd.R (Kd.fixed (Kd.slice 3 (Kd.int .i64)) w) 24 w' w.heap.size (fun _ => True) v0_ r ∧ Below w.heap.size w w' := slices_Concat_rows_calls A0 c0 [l1, l2] r w hr0 hc0 h
def impl_learn.l0 : Nat → List Int → List Int → Int → Int → Option (List Int)
 | 0, _, _, _, _ => none
 | k + 1, x3, x6, x7, x8 => if x8 < x7 then (if 0 ≤ x8 then (if x8 < (x6.length : Int) then (if x3.length < 17592186044416 then (impl_learn.l0 k (x3 ++ [wrap64 (-(rd x6 x8))]) x6 x7 (wrap64 (x8 + 1))) else (none)) else (none)) else (none)) else (some x3)
def impl_learn.f (k : Nat) (l0 : List Int) : Option (List Int) := impl_learn.l0 k ([] : List Int) l0 (l0.length : Int) 0
theorem impl_learn.mono_l : ∀ k, (∀ y0 y1 y2 y3, LeO (impl_learn.l0 k y0 y1 y2 y3) (impl_learn.l0 (k + 1) y0 y1 y2 y3))
 | 0 => fun _ _ _ _ r h => by simp [impl_learn.l0] at h
 | k + 1 => by
  have ih0 := impl_learn.mono_l k
  ·intro y0 y1 y2 y3
   unfold impl_learn.l0
   repeat' first
   | (with_reducible exact ih0 _ _ _ _)
   | (with_reducible exact LeO.refl _)
   | (with_reducible exact LeO.none _)
   | (with_reducible refine LeO.ite ?_ ?_)
   | (with_reducible refine LeO.bind ?_ (fun _ => ?_))
   | exact ih0 _ _ _ _
   | exact LeO.none _
   | refine LeO.ite ?_ ?_
   | refine LeO.bind ?_ (fun _ => ?_)
theorem impl_learn.mono : ∀ a0 k, LeO (impl_learn.f k a0) (impl_learn.f (k + 1) a0) := by
 intro a0 k
 have ih0 := impl_learn.mono_l k
 unfold impl_learn.f
 repeat' first
   | (with_reducible exact ih0 _ _ _ _)
   | (with_reducible exact LeO.refl _)
   | (with_reducible exact LeO.none _)
   | (with_reducible refine LeO.ite ?_ ?_)
   | (with_reducible refine LeO.bind ?_ (fun _ => ?_))
   | exact ih0 _ _ _ _
   | exact LeO.none _
   | refine LeO.ite ?_ ?_
   | refine LeO.bind ?_ (fun _ => ?_)
set_option maxHeartbeats 8000000 in
set_option maxRecDepth 100000 in
theorem impl_learn.calls (k : Nat) (A0 : Option Addr) (c0 : Nat) (l0 : List Int) (r : List Int) (w : World) (hr0 : Kd.C (Kd.int .i64) w A0 l0.length l0) (hc0 : l0.length ≤ c0) (h : impl_learn.f k l0 = some r) :
  Calls Try.prog 59 #[.slice A0 l0.length c0] w fun e w' => ∃ v0_ : Value, e = .returned (v0_) ∧ Kd.R (Kd.int .i64) 3 w' w.heap.size (fun _ => True) v0_ r ∧ Below w.heap.size w w' := by
 have HR0 := Aside0.mk hr0
 have HC0 := Aside0.mk hc0
 clear hr0 hc0
 have HB := Aside0.mk (Below.refl w.heap.size w)
 have H : (impl_learn.l0 k ([] : List Int) l0 (l0.length : Int) 0) = some r := h
 clear h
 have H' := Aside0.mk H
 clear H
 go_enter Try.func59, Try.ntmps59
 go_wp2
 go_loopg [3, 8] k (fun kq v3 v8 w' => ∃ (x3_1 : List Int) (x8_1 : Int), v8 = .int .i64 x8_1 ∧ Aside0 (impl_learn.l0 kq x3_1 l0 (l0.length : Int) x8_1 = some r) ∧ Aside0 (kq ≤ k) ∧ Aside0 (Kd.R (Kd.int .i64) 3 w' w.heap.size (fun _ => True) v3 x3_1) ∧ Aside0 (Below w.heap.size w w'))
 case atStart => exact ⟨(([] : List Int)), (0), (by first | rfl | (simp; done) | (simp [*]; done)), H', ⟨Nat.le_refl _⟩, ⟨by first | exact Kd.R_nil _ _ _ _ _ | exact Kd.N_nil _ _ _ _ _ | exact Kd.V_nil _ _ _ _ _ | exact Kd.Q_nil _ _ _ _ _ | exact Kd.S_nil _ _ _ _ _⟩, ⟨zb_ HB.out⟩⟩
 case round =>
  clear H'
  obtain ⟨x3_1, x8_1, rfl, HA, HK1, HO_3, HB⟩ := hrel
  cases gk with
  | zero => exact absurd HA.out (by simp [impl_learn.l0])
  | succ k1 =>
   have H := HA.out
   clear HA
   simp only [impl_learn.l0] at H
   by_cases c2 : x8_1 < (l0.length : Int)
   ·rw [if_pos c2] at H
    have c2b0 : decide (x8_1 < (l0.length : Int)) = true := decide_eq_true c2
    clear c2
    by_cases c3 : 0 ≤ x8_1
    ·rw [if_pos c3] at H
     have c3b0 : decide (0 ≤ x8_1) = true := decide_eq_true c3
     clear c3
     by_cases c4 : x8_1 < (l0.length : Int)
     ·rw [if_pos c4] at H
      have c4b0 : decide (x8_1 < (l0.length : Int)) = true := decide_eq_true c4
      clear c4
      by_cases c5 : x3_1.length < 17592186044416
      ·rw [if_pos c5] at H
       have LMc5 := Aside0.mk c5
       clear c5
       obtain ⟨y254, hy254⟩ : ∃ y_ : List Int, y_ = (x3_1 ++ [wrap64 (-(rd l0 x8_1))]) := ⟨_, rfl⟩
       replace H : (impl_learn.l0 k1 y254 l0 (l0.length : Int) (wrap64 (x8_1 + 1))) = some r := by first | (rw [hy254]; with_reducible exact H) | (have H2_ := (Option.bind_some _ _).symm.trans H; rw [hy254]; with_reducible exact H2_) | (have H2_ := (Option.bind_some _ _).symm.trans H; with_reducible exact H2_) | with_reducible exact H | (rw [hy254]; exact H) | exact H
       have Ny254 := Aside0.mk hy254
       clear hy254
       have H' := Aside0.mk H
       clear H
       have p253 : 0 ≤ (x8_1 : Int) := of_decide_eq_true (by assumption)
       have q253 : x8_1 < (l0.length : Int) := of_decide_eq_true (by assumption)
       obtain ⟨ad253, e253, hx253_0⟩ := Kd.at_int HR0.out x8_1 p253 q253
       cases e253
       (try replace hx253_0 := (HB.out.cell (World.block_lt_of_cell? w _ hx253_0)).trans hx253_0)
       replace p253 := eq_true p253
       replace q253 := eq_true q253
       go_wp2_with (first | ((with_reducible refine gate_builtin (b := .append) (xs := #[.tmp 12, .tmp 15]) rfl ?_); at_builtin; refine Kd.R_append (Kd.int .i64) (w0 := w) w.heap.size rfl (.tmp 12) (.tmp 15) 24 3 (.int .i64 0) 8 rfl Try.underlying24 info3 rfl (by decide) (by omega) u3 x3_1 (wrap64 (-(rd l0 x8_1))) [.int .i64 (wrap64 (-(rd l0 x8_1)))] (fun _ => True) (fun _ => False) rfl rfl ?aP (fun _ hk => hk.elim) ?aF ?aO ?aB ?aS ?aL ?_; (case aP => exact rfl); (case aB => exact (zb_ HB.out)); (case aF => exact (fun _ _ => trivial)); (case aO => exact (zR_ HO_3.out)); (case aS => exact (below_size (zb_ HB.out))); (case aL => have := LMc5.out; omega); intro v255 w6 ho hb hg hat; rw [← Ny254.out] at ho; have n0_ := Aside0.mk (hb); have n1_ := Aside0.mk (ho); clear HB; clear HO_3; have HB := n0_; have HO256 := n1_; clear n0_ n1_; clear ho hb hg hat))
       go_roundg k1
       case measure => have := HK1.out; omega
       case rel => exact ⟨(y254), (wrap64 (x8_1 + 1)), (by first | rfl | (simp; done) | (simp [*]; done)), H', ⟨by have := HK1.out; omega⟩, ⟨zR_ HO256.out⟩, ⟨zb_ HB.out⟩⟩
      ·rw [if_neg c5] at H
       exact absurd H (by simp)
     ·rw [if_neg c4] at H
      exact absurd H (by simp)
    ·rw [if_neg c3] at H
     exact absurd H (by simp)
   ·rw [if_neg c2] at H
    have c2b0 : decide (x8_1 < (l0.length : Int)) = false := decide_eq_false c2
    clear c2
    obtain rfl := Option.some.inj H
    go_wp2
    go_ret
    exact ⟨_, by first | rfl | (simp [errW_none, errW_some] <;> rfl) | (simp [*, errW_none, errW_some] <;> rfl), zR_ HO_3.out, zb_ HB.out⟩
def slices_Index_int_int.f (l0 : List Int) (a1 : Int) : Option (Int) := some (pidx (fun y => a1 == y) l0)
set_option maxHeartbeats 8000000 in
set_option maxRecDepth 100000 in
theorem slices_Index_int_int.calls (A0 : Option Addr) (c0 : Nat) (l0 : List Int) (a1 : Int) (r : Int) (w : World) (hr0 : Kd.C (Kd.int .i64) w A0 l0.length l0) (hc0 : l0.length ≤ c0) (h : slices_Index_int_int.f l0 a1 = some r) :
  Calls Try.prog 102 #[.slice A0 l0.length c0, .int .i64 a1] w fun e w' => e = .returned (.int .i64 r) ∧ Drawn0 w w' := by
 have HR0 := Aside0.mk hr0
 have HR := Aside0.mk (Option.some.inj h)
 clear hr0 hc0 h
 go_enter Try.func102, Try.ntmps102
 go_wp2
 go_loopg [5, 8] l0.length (fun kq _ v8 w' => ∃ (x : Int), v8 = .int .i64 x ∧ Aside0 (0 ≤ x ∧ x ≤ (l0.length : Int) ∧ (l0.length : Int) - x ≤ kq ∧ ∀ j : Nat, (j : Int) < x → (a1 == rd l0 j) = false) ∧ Drawn0 w w')
 case atStart => exact ⟨0, rfl, ⟨by omega, by omega, by omega, fun j hj => absurd hj (by omega)⟩, by repeat (first | exact Drawn0.refl _ | apply Drawn0.step)⟩
 case round =>
  obtain ⟨x, rfl, HA, ⟨m1, rfl⟩⟩ := hrel
  by_cases c3 : x < (l0.length : Int)
  ·have c3b0 : decide (x < (l0.length : Int)) = true := decide_eq_true c3
   have p101 : 0 ≤ x := HA.out.1
   have q101 := c3
   obtain ⟨ad101, e101, hx101_0⟩ := Kd.at_int HR0.out x p101 q101
   cases e101
   have hw1 : wrap64 (x + 1) = x + 1 := by
    have := HR0.out.2.1
    unfold wrap64
    omega
   have HW := Aside0.mk hw1
   clear hw1 c3
   replace p101 := eq_true p101
   replace q101 := eq_true q101
   by_cases hq : a1 = rd l0 x
   ·have hq1 : (a1 == rd l0 x) = true := by simpa using hq
    have hq2 : (a1 != rd l0 x) = false := by simpa using hq
    have HX := Aside0.mk (show r = x by rw [← HR.out]; exact pidx_hit (fun y => a1 == y) l0 x HA.out.1 (of_eq_true q101) HA.out.2.2.2 hq1)
    clear hq HR
    obtain rfl := HX.out
    go_wp2
    go_ret
    exact ⟨rfl, by repeat (first | exact Drawn0.refl _ | apply Drawn0.step)⟩
   ·have hq1 : (a1 == rd l0 x) = false := by simpa using hq
    have hq2 : (a1 != rd l0 x) = true := by simpa using hq
    have HQ := Aside0.mk hq1
    clear hq
    go_wp2
    go_roundg (gk - 1)
    case measure => have := HA.out.2.2.1; have := of_eq_true q101; omega
    case rel =>
     refine ⟨x + 1, by first | rfl | (rw [← HW.out]; done) | (rw [HW.out]; done) | simp [HW.out], ⟨by have := HA.out.1; omega, by have := of_eq_true q101; omega, by have := HA.out.2.2.1; have := of_eq_true q101; omega, fun j hj => ?_⟩, by repeat (first | exact Drawn0.refl _ | apply Drawn0.step)⟩
     by_cases e : (j : Int) = x
     ·rw [e]; exact HQ.out
     ·exact HA.out.2.2.2 j (by omega)
  ·have c3b0 : decide (x < (l0.length : Int)) = false := decide_eq_false c3
   have hx : x = (l0.length : Int) := by have := HA.out.2.1; omega
   have HX := Aside0.mk (show r = -1 by rw [← HR.out]; exact pidx_miss (fun y => a1 == y) l0 (fun j hj => HA.out.2.2.2 j (by rw [hx]; omega)))
   clear hx c3 HR
   obtain rfl := HX.out
   go_wp2
   go_ret
   exact ⟨rfl, by repeat (first | exact Drawn0.refl _ | apply Drawn0.step)⟩
def slices_Contains_int_int.f (l0 : List Int) (a1 : Int) : Option (Bool) := some (l0.any fun y => a1 == y)
set_option maxHeartbeats 8000000 in
set_option maxRecDepth 100000 in
theorem slices_Contains_int_int.calls (A0 : Option Addr) (c0 : Nat) (l0 : List Int) (a1 : Int) (r : Bool) (w : World) (hr0 : Kd.C (Kd.int .i64) w A0 l0.length l0) (hc0 : l0.length ≤ c0) (h : slices_Contains_int_int.f l0 a1 = some r) :
  Calls Try.prog 67 #[.slice A0 l0.length c0, .int .i64 a1] w fun e w' => e = .returned (.bool r) ∧ Drawn0 w w' := by
 have HN := Aside0.mk ((pidx_nonneg (fun y => a1 == y) l0).trans (Option.some.inj h))
 have HR0 := Aside0.mk hr0
 have HC0 := Aside0.mk hc0
 have HV := Aside0.mk (show slices_Index_int_int.f l0 a1 = some (pidx (fun y => a1 == y) l0) from rfl)
 clear hr0 hc0 h
 generalize pidx (fun y => a1 == y) l0 = v at HN HV
 go_enter Try.func67, Try.ntmps67
 have hn := HN.out
 go_wp2_with (go_at_call 102; (with_reducible refine (slices_Index_int_int.calls A0 c0 l0 a1 v _ HR0.out HC0.out HV.out).mono ?_); rintro e w' ⟨rfl, ⟨nd, rfl⟩⟩)
 go_ret
 exact ⟨by first | rfl | simp, by repeat (first | exact Drawn0.refl _ | apply Drawn0.step)⟩
end Go.Proofs.Ytpkbjgmeejlchab.PFnFollows
-- squeezed
