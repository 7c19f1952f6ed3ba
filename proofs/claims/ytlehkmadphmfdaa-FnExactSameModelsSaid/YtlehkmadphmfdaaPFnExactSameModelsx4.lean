-- Made by a program of this session (wip/tools), which leans on the kit's print: checked by Lean alone.
import Derived.Test.YtlehkmadphmfdaaPFnExactSameModelsx0
import Derived.Test.YtlehkmadphmfdaaPFnExactSameModelsx3
namespace Go.Proofs.Ytlehkmadphmfdaa.PFnExactSameModels
open Go.RowKit Go.Proofs.YtlehkmadphmfdaaW.PrintWords Go.Proofs.YtlehkmadphmfdaaW.PrintLast Go.Proofs.YtlehkmadphmfdaaW.PrintMore
attribute [local go_sem] max2_int min2_int max_two min_two max_three min_three max_four min_four   -- for this text's walks alone
set_option linter.unusedVariables false
set_option linter.unusedSimpArgs false

/-! ### slices_ContainsFunc_int_int_52: function 52 -/
set_option maxHeartbeats 8000000 in
set_option maxRecDepth 100000 in
theorem slices_ContainsFunc_int_calls (p : Int → Bool) (g : Nat) (lb : Array Value) (eg : ∀ args w, (callFunc g args).run Try.prog w = .ok (.enter g args) w) (A0 : Option Addr) (c0 : Nat) (l0 : List Int) (w : World) (hr0 : Kd.C (Kd.int .i64) w A0 l0.length l0)
    (hp : ∀ (x : Int) (q : Nat), x ∈ l0 → Calls Try.prog g (#[.int .i64 x] ++ lb) (w.drewN q) fun e w' => e = .returned (.bool (p x)) ∧ ∃ q', w' = (w.drewN q).drewN q') :
    Calls Try.prog 52 #[.slice A0 l0.length c0, .func (.func g) #[] lb] w fun e w' => e = .returned (.bool (l0.any p)) ∧ Drawn0 w w' := by
  have HN := Aside0.mk (pidx_nonneg p l0)
  generalize hv : l0.any p = v at HN
  have HR0 := Aside0.mk hr0
  clear hr0 hv
  go_enter Try.func52, Try.ntmps52
  have hn := HN.out
  go_wp2_with (go_at_call 58; (with_reducible refine (slices_IndexFunc_int_calls p g lb eg A0 c0 l0 _ HR0.out hp).mono ?_); rintro e w' ⟨rfl, ⟨nd, rfl⟩⟩)
  go_ret
  exact ⟨by first | rfl | simp, by repeat (first | exact Drawn0.refl _ | apply Drawn0.step)⟩


/-! ### impl_variable: function 54 -/
def vab (n : Int) : Int := if n < wrap64 (-n) then wrap64 (-n) else n
def impl_variable.f (a0 : Int) : Option (Int) := some (vab a0)
theorem impl_variable_val (n : Int) : impl_variable.f n = some (vab n) := rfl
set_option maxHeartbeats 8000000 in
set_option maxRecDepth 100000 in
theorem impl_variable.calls (a0 : Int) (r : Int) (w : World) (h : impl_variable.f a0 = some r) :
    Calls Try.prog 54 #[.int .i64 a0] w fun e w' => e = .returned (.int .i64 r) ∧ Drawn0 w w' := by
  have H : (some (vab a0)) = some r := h
  clear h
  obtain ⟨ji2, hji2⟩ : ∃ j_ : Int, (vab a0) = j_ := ⟨_, rfl⟩
  replace H : (some ji2) = some r := by rw [hji2] at H; exact H
  have hji2_ : (if a0 < (wrap64 (-a0)) then (wrap64 (-a0)) else a0) = ji2 := hji2
  obtain rfl := Option.some.inj H
  clear hji2
  go_enter Try.func54, Try.ntmps54
  go_wp2
  go_ret
  exact ⟨by first | rfl | simp, by repeat (first | exact Drawn0.refl _ | apply Drawn0.step)⟩


/-! ### impl_isLiteral: function 56 -/
def impl_isLiteral.f (a0 : Int) (a1 : Int) : Option (Bool) := if a0 = 0 then (some false) else ((impl_in.f a0 (wrap64 (-a1)) a1).bind fun t156 => (some t156))
set_option maxHeartbeats 8000000 in
set_option maxRecDepth 100000 in
theorem impl_isLiteral.calls (a0 : Int) (a1 : Int) (r : Bool) (w : World) (h : impl_isLiteral.f a0 a1 = some r) :
    Calls Try.prog 56 #[.int .i64 a0, .int .i64 a1] w fun e w' => e = .returned (.bool r) ∧ Drawn0 w w' := by
  have H : (if a0 = 0 then (some false) else ((impl_in.f a0 (wrap64 (-a1)) a1).bind fun t156 => (some t156))) = some r := h
  clear h
  by_cases c3 : a0 = 0
  · rw [if_pos c3] at H
    have c3b0 : (a0 == 0) = true := beq_iff_eq.mpr c3
    have c3b1 : (a0 != 0) = false := bne_eq_false_iff_eq.mpr c3
    clear c3
    obtain rfl := Option.some.inj H
    go_enter Try.func56, Try.ntmps56
    go_wp2
    go_ret
    exact ⟨by first | rfl | (simp; done) | (simp [*]; done), by repeat (first | exact Drawn0.refl _ | apply Drawn0.step)⟩
  · rw [if_neg c3] at H
    have c3b0 : (a0 == 0) = false := beq_eq_false_iff_ne.mpr c3
    have c3b1 : (a0 != 0) = true := bne_iff_ne.mpr c3
    replace H := Option.bind_eq_some_iff.mp H
    obtain ⟨t156, A40, H⟩ := H
    replace H : (some t156) = some r := H
    have A4 := Aside0.mk A40
    clear A40
    obtain rfl := Option.some.inj H
    go_enter Try.func56, Try.ntmps56
    go_wp2_with (first | (go_at_call 35; (with_reducible refine (impl_in.calls a0 (wrap64 (-a1)) a1 t156 _ A4.out).mono ?_); rintro e w' ⟨rfl, ⟨nd, rfl⟩⟩))
    go_ret
    exact ⟨by first | rfl | (simp; done) | (simp [*]; done), by repeat (first | exact Drawn0.refl _ | apply Drawn0.step)⟩

/-! ### impl_isClause_1: function 57 -/
theorem given_quiet {P : Program} {f : FuncId} {args : Array Value} {w : World} {n : Nat} {v : Value} (h : Calls P f args (w.drewN n) fun e w' => e = .returned v ∧ Drawn0 (w.drewN n) w') :
    Calls P f args (w.drewN n) fun e w'' => e = .returned v ∧ ∃ m, w'' = w.drewN m := by
  refine h.mono ?_
  rintro e w' ⟨he, ⟨m, rfl⟩⟩
  exact ⟨he, n + m, by rw [World.drewN_drewN]⟩
set_option maxHeartbeats 8000000 in
set_option maxRecDepth 100000 in
theorem impl_isClause_1_calls (n k : Int) (B : Nat) (w : World) (hc : w.cell? ⟨B, 0, none⟩ = some (.int .i64 n)) :
    Calls Try.prog 57 #[.int .i64 k, .pointer (some ⟨B, 0, none⟩)] w fun e w' => e = .returned (.bool (vab k == vab n)) ∧ ∃ q, w' = w.drewN q := by
  go_enter Try.func57, Try.ntmps57
  go_wp2
  go_quiet ((go_at_call 54; first | exact given_quiet (impl_variable.calls k (vab k) _ (impl_variable_val k)) | exact given_quiet (impl_variable.calls n (vab n) _ (impl_variable_val n))))
  go_wp2
  go_ret
  exact ⟨by first | rfl | simp, _, rfl⟩


/-! ### impl_isClause: function 50 -/
def litB (n v : Int) : Bool := decide (n ≠ 0) && (decide (wrap64 (-v) ≤ n) && decide (n ≤ v))
def clauseFrom (v : Int) : List Int → List Int → Bool
  | _, [] => true
  | seen, n :: r => litB n v && (!(seen.any fun k => vab k == vab n) && clauseFrom v (seen ++ [n]) r)
def isClauseB (l : List Int) (v : Int) : Bool := clauseFrom v [] l && decide (l.length ≤ 12)
def impl_isClause.f (l0 : List Int) (a1 : Int) : Option (Bool) := some (isClauseB l0 a1)
theorem impl_isLiteral_val (n v : Int) : impl_isLiteral.f n v = some (litB n v) := by
  unfold impl_isLiteral.f impl_in.f litB
  by_cases h : n = 0
  · simp [h]
  · rw [if_neg h]
    by_cases h2 : n ≥ wrap64 (-v)
    · rw [if_pos h2]
      simp [h, h2]
    · rw [if_neg h2]
      simp [h, h2]
theorem clauseFrom_at (v : Int) (l : List Int) (x : Int) (h0 : 0 ≤ x) (h1 : x < (l.length : Int)) :
    clauseFrom v (l.take x.toNat) (l.drop x.toNat) = (litB (rd l x) v && (!((l.take x.toNat).any fun k => vab k == vab (rd l x)) && clauseFrom v (l.take (x + 1).toNat) (l.drop (x + 1).toNat))) := by
  have hl : x.toNat < l.length := by omega
  have e : rd l x = l[x.toNat] := by unfold rd; rw [List.getD_eq_getElem?_getD, List.getElem?_eq_getElem hl]; rfl
  have e1 : (x + 1).toNat = x.toNat + 1 := by omega
  rw [List.drop_eq_getElem_cons hl, e1, List.take_succ_eq_append_getElem hl, e]
  rfl
set_option maxHeartbeats 8000000 in
set_option maxRecDepth 100000 in
theorem impl_isClause.calls (A0 : Option Addr) (c0 : Nat) (l0 : List Int) (a1 : Int) (r : Bool) (w : World) (hr0 : Kd.C (Kd.int .i64) w A0 l0.length l0) (hc0 : l0.length ≤ c0) (h : impl_isClause.f l0 a1 = some r) :
    Calls Try.prog 50 #[.slice A0 l0.length c0, .int .i64 a1] w fun e w' => e = .returned (.bool r) ∧ Below w.heap.size w w' := by
  have HR0 := Aside0.mk hr0
  have HC0 := Aside0.mk hc0
  have HR := Aside0.mk (Option.some.inj h)
  have HL := Aside0.mk hr0.2.1
  clear hr0 hc0 h
  have HB := Aside0.mk (Below.refl w.heap.size w)
  have eg := enters_of Try.func57 (by kernel_rfl) rfl
  go_enter Try.func50, Try.ntmps50
  go_wp2
  go_loopg [9] l0.length (fun kq v9 w' => ∃ (x : Int), v9 = .int .i64 x ∧ Aside0 (0 ≤ x ∧ x ≤ (l0.length : Int) ∧ (l0.length : Int) - x ≤ kq ∧ (clauseFrom a1 (l0.take x.toNat) (l0.drop x.toNat) && decide (l0.length ≤ 12)) = r) ∧ Aside0 (Below w.heap.size w w'))
  case atStart => exact ⟨0, rfl, ⟨by omega, by omega, by omega, HR.out⟩, HB⟩
  case round =>
    clear HB HR
    obtain ⟨x, rfl, HA, HB⟩ := hrel
    by_cases c3 : x < (l0.length : Int)
    · have c3b0 : decide (x < (l0.length : Int)) = true := decide_eq_true c3
      have p101 : 0 ≤ x := HA.out.1
      have q101 := c3
      obtain ⟨ad101, e101, hx101_0⟩ := Kd.at_int HR0.out x p101 q101
      cases e101
      replace hx101_0 := (HB.out.cell (World.block_lt_of_cell? w _ hx101_0)).trans hx101_0
      have HW := Aside0.mk (show wrap64 (x + 1) = x + 1 by have := HL.out; unfold wrap64; omega)
      have HS := Aside0.mk (clauseFrom_at a1 l0 x p101 q101)
      have q101' : x ≤ (l0.length : Int) := by omega
      have q101b : decide (x ≤ (l0.length : Int)) = true := decide_eq_true q101'
      clear c3
      have HP := Aside0.mk p101
      have HQ := Aside0.mk q101
      replace p101 := eq_true p101
      replace q101 := eq_true q101
      replace q101' := eq_true q101'
      generalize hn : rd l0 x = n at HS hx101_0
      clear hn
      obtain ⟨i0, hi0, _, hsz0, _⟩ := info_parts info3
      obtain ⟨hcut, hAt, hCt⟩ := print_take_of (P := Try.prog) (Value.int .i64) 0 27 3 .i64 Try.underlying27 hi0 hsz0 (some ad101) c0 l0 x HP.out (by have := HQ.out; omega) HC0.out
      have HRT := Aside0.mk (Kd.C_of_reads (d := (0 : Int)) (h1 := fun _ => rfl) (hAt _ (Kd.reads_of_C HR0.out)))
      clear hcut hAt hCt hi0 hsz0
      have qc := eq_true (show x ≤ (c0 : Int) by have := HC0.out; have := HQ.out; omega)
      have qcb : decide (x ≤ (c0 : Int)) = true := decide_eq_true (of_eq_true qc)
      cases hlit : litB n a1 with
      | false =>
        have HLit := Aside0.mk (show impl_isLiteral.f n a1 = some false by rw [impl_isLiteral_val, hlit])
        have HF := Aside0.mk (show r = false by rw [← HA.out.2.2.2, HS.out, hlit]; rfl)
        clear hlit HA HS
        obtain rfl := HF.out
        go_wp2_with (go_at_call 56; (with_reducible refine (impl_isLiteral.calls n a1 false _ HLit.out).mono ?_); rintro e w' ⟨rfl, ⟨nd, rfl⟩⟩)
        go_ret
        exact ⟨rfl, by repeat (first | (with_reducible first | exact HB.out | apply below_alloc | apply pw_below_drewN | apply below_drew1) | exact HB.out)⟩
      | true =>
        have HLit := Aside0.mk (show impl_isLiteral.f n a1 = some true by rw [impl_isLiteral_val, hlit])
        cases hany : ((l0.take x.toNat).any fun k => vab k == vab n) with
        | true =>
          have HF := Aside0.mk (show r = false by rw [← HA.out.2.2.2, HS.out, hlit, hany]; rfl)
          have HY := Aside0.mk hany
          clear hlit hany HA HS
          obtain rfl := HF.out
          go_wp2_with (first | (go_at_call 56; (with_reducible refine (impl_isLiteral.calls n a1 true _ HLit.out).mono ?_); rintro e w' ⟨rfl, ⟨nd, rfl⟩⟩) | (go_at_call 52; refine (recast_ (slices_ContainsFunc_int_calls (fun k => vab k == vab n) 57 #[.pointer (some ⟨wr.heap.size, 0, none⟩)] eg _ _ (l0.take x.toNat) _ ?s1 ?s2) (by rw [take_len_ l0 x HP.out (by have := HQ.out; omega)])).mono ?_; (case s1 => exact Kd.C_below HRT.out (by repeat (first | (with_reducible first | exact HB.out | apply below_alloc | apply pw_below_drewN | apply below_drew1) | exact HB.out))); (case s2 => exact fun z q _ => impl_isClause_1_calls n z _ _ (by simp)); rintro e w' ⟨he, ⟨nd2, rfl⟩⟩; rw [HY.out] at he; subst he))
          go_ret
          exact ⟨rfl, by repeat (first | (with_reducible first | exact HB.out | apply below_alloc | apply pw_below_drewN | apply below_drew1) | exact HB.out)⟩
        | false =>
          have HF := Aside0.mk (show (clauseFrom a1 (l0.take (x + 1).toNat) (l0.drop (x + 1).toNat) && decide (l0.length ≤ 12)) = r by rw [← HA.out.2.2.2, HS.out, hlit, hany]; rfl)
          have HY := Aside0.mk hany
          clear hlit hany HS
          go_wp2_with (first | (go_at_call 56; (with_reducible refine (impl_isLiteral.calls n a1 true _ HLit.out).mono ?_); rintro e w' ⟨rfl, ⟨nd, rfl⟩⟩) | (go_at_call 52; refine (recast_ (slices_ContainsFunc_int_calls (fun k => vab k == vab n) 57 #[.pointer (some ⟨wr.heap.size, 0, none⟩)] eg _ _ (l0.take x.toNat) _ ?s1 ?s2) (by rw [take_len_ l0 x HP.out (by have := HQ.out; omega)])).mono ?_; (case s1 => exact Kd.C_below HRT.out (by repeat (first | (with_reducible first | exact HB.out | apply below_alloc | apply pw_below_drewN | apply below_drew1) | exact HB.out))); (case s2 => exact fun z q _ => impl_isClause_1_calls n z _ _ (by simp)); rintro e w' ⟨he, ⟨nd2, rfl⟩⟩; rw [HY.out] at he; subst he))
          go_roundg (gk - 1)
          case measure => have := HA.out.2.2.1; have := HQ.out; omega
          case rel => exact ⟨x + 1, by first | rfl | (rw [← HW.out]; done) | (rw [HW.out]; done) | simp [HW.out], ⟨by have := HP.out; omega, by have := HQ.out; omega, by have := HA.out.2.2.1; have := HQ.out; omega, HF.out⟩, ⟨by repeat (first | (with_reducible first | exact HB.out | apply below_alloc | apply pw_below_drewN | apply below_drew1) | exact HB.out)⟩⟩
    · have c3b0 : decide (x < (l0.length : Int)) = false := decide_eq_false c3
      have hx : x = (l0.length : Int) := by have := HA.out.2.1; omega
      have HX := Aside0.mk hx
      clear hx c3
      go_wp2
      go_ret
      refine ⟨?_, by repeat (first | (with_reducible first | exact HB.out | apply below_alloc | apply pw_below_drewN | apply below_drew1) | exact HB.out)⟩
      have := HA.out.2.2.2
      rw [HX.out] at this
      simp [clauseFrom] at this
      rw [← this]
      first | rfl | (simp; omega) | simp


/-! ### impl_areClauses_1: function 49 -/
set_option maxHeartbeats 8000000 in
set_option maxRecDepth 100000 in
theorem impl_areClauses_1_calls (v : Int) (B : Nat) (A : Option Addr) (c : Nat) (x : List Int) (w : World) (hr : Kd.C (Kd.int .i64) w A x.length x) (hl : x.length ≤ c) (hc : w.cell? ⟨B, 0, none⟩ = some (.int .i64 v)) :
    Calls Try.prog 49 (#[.slice A x.length c] ++ #[.pointer (some ⟨B, 0, none⟩)]) w fun e w' => e = .returned (.bool (!isClauseB x v)) ∧ Below w.heap.size w w' := by
  have HR := Aside0.mk hr
  have HL := Aside0.mk hl
  clear hr hl
  have HB := Aside0.mk (Below.refl w.heap.size w)
  obtain ⟨b, hb⟩ : ∃ b, isClauseB x v = b := ⟨_, rfl⟩
  have HV := Aside0.mk (show impl_isClause.f x v = some b by unfold impl_isClause.f; rw [hb])
  rw [hb]
  clear hb
  show Calls Try.prog 49 #[.slice A x.length c, .pointer (some ⟨B, 0, none⟩)] w _
  go_enter Try.func49, Try.ntmps49
  go_wp2_with (go_at_call 50; (with_reducible refine (impl_isClause.calls A c x v b _ ?s1 HL.out HV.out).mono ?_); (case s1 => repeat (first | exact HR.out | (with_reducible refine Kd.C_alloc ?_ _) | (with_reducible refine Kd.C_drewN ?_ _) | (with_reducible refine Kd.C_drew ?_))); rintro e w5 ⟨rfl, hb⟩; have n1_ := Aside0.mk (below_step (by repeat (first | (with_reducible first | exact HB.out | apply below_alloc | apply pw_below_drewN | apply below_drew1) | exact HB.out)) hb); clear HB; have HB := n1_; clear n1_ hb)
  go_ret
  exact ⟨by first | rfl | simp, by repeat (first | (with_reducible first | exact HB.out | apply below_alloc | apply pw_below_drewN | apply below_drew1) | exact HB.out)⟩


/-! ### impl_areClauses: function 39 -/
def impl_areClauses.f (l0 : List (List Int)) (a1 : Int) : Option (Bool) := some (!(l0.any fun x => !isClauseB x a1))
set_option maxHeartbeats 8000000 in
set_option maxRecDepth 100000 in
theorem impl_areClauses.calls (A0 : Option Addr) (c0 : Nat) (l0 : List (List Int)) (a1 : Int) (r : Bool) (w : World) (hr0 : Kd.C (Kd.slice 3 (Kd.int .i64)) w A0 l0.length l0) (hc0 : l0.length ≤ c0) (h : impl_areClauses.f l0 a1 = some r) :
    Calls Try.prog 39 #[.slice A0 l0.length c0, .int .i64 a1] w fun e w' => e = .returned (.bool r) ∧ Below w.heap.size w w' := by
  have HR0 := Aside0.mk hr0
  have HR := Aside0.mk (Option.some.inj h)
  clear hr0 hc0 h
  have HB := Aside0.mk (Below.refl w.heap.size w)
  have eg := enters_of Try.func49 (by kernel_rfl) rfl
  obtain ⟨b, hb⟩ : ∃ b, (l0.any fun x => !isClauseB x a1) = b := ⟨_, rfl⟩
  have HY := Aside0.mk hb
  have HF := Aside0.mk (show r = !b by rw [← HR.out, hb])
  clear hb HR
  obtain rfl := HF.out
  go_enter Try.func39, Try.ntmps39
  go_wp2_with (go_at_call 48; refine (slices_ContainsFunc_rows_calls (fun x => !isClauseB x a1) 49 #[.pointer (some ⟨w.heap.size, 0, none⟩)] eg _ _ l0 _ ?s1 ?s2).mono ?_; (case s1 => repeat (first | exact HR0.out | (with_reducible refine Kd.C_alloc ?_ _) | (with_reducible refine Kd.C_drewN ?_ _) | (with_reducible refine Kd.C_drew ?_))); (case s2 => exact fun x A c W _ hx hl hW => impl_areClauses_1_calls a1 _ A c x W hx hl ((hW.cell (p := ⟨w.heap.size, 0, none⟩) (by simp)).trans (by simp))); rintro e w5 ⟨he, hb⟩; rw [HY.out] at he; subst he; have n1_ := Aside0.mk (below_step (by repeat (first | (with_reducible first | exact HB.out | apply below_alloc | apply pw_below_drewN | apply below_drew1) | exact HB.out)) hb); clear HB; have HB := n1_; clear n1_ hb)
  go_ret
  exact ⟨by first | rfl | simp, by repeat (first | (with_reducible first | exact HB.out | apply below_alloc | apply pw_below_drewN | apply below_drew1) | exact HB.out)⟩


/-! ### impl_GoodClauses: function 27 -/
def impl_GoodClauses.f (a0 : Int) (l1 : List (List Int)) : Option (Bool) := (impl_in.f a0 0 12).bind fun t157 => (if t157 = true then (if (l1.length : Int) ≤ 60 then ((impl_areClauses.f l1 a0).bind fun t158 => (some t158)) else (some false)) else (some false))
set_option maxHeartbeats 8000000 in
set_option maxRecDepth 100000 in
theorem impl_GoodClauses.calls (a0 : Int) (A1 : Option Addr) (c1 : Nat) (l1 : List (List Int)) (r : Bool) (w : World) (hr1 : Kd.C (Kd.slice 3 (Kd.int .i64)) w A1 l1.length l1) (hc1 : l1.length ≤ c1) (h : impl_GoodClauses.f a0 l1 = some r) :
    Calls Try.prog 27 #[.int .i64 a0, .slice A1 l1.length c1] w fun e w' => e = .returned (.bool r) ∧ Below w.heap.size w w' := by
  have HR1 := Aside0.mk hr1
  have HC1 := Aside0.mk hc1
  clear hr1 hc1
  have HB := Aside0.mk (Below.refl w.heap.size w)
  have H : ((impl_in.f a0 0 12).bind fun t157 => (if t157 = true then (if (l1.length : Int) ≤ 60 then ((impl_areClauses.f l1 a0).bind fun t158 => (some t158)) else (some false)) else (some false))) = some r := h
  clear h
  replace H := Option.bind_eq_some_iff.mp H
  obtain ⟨t157, A30, H⟩ := H
  replace H : (if t157 = true then (if (l1.length : Int) ≤ 60 then ((impl_areClauses.f l1 a0).bind fun t158 => (some t158)) else (some false)) else (some false)) = some r := H
  have A3 := Aside0.mk A30
  clear A30
  by_cases c4 : t157 = true
  · subst c4
    have H1 : (if (l1.length : Int) ≤ 60 then ((impl_areClauses.f l1 a0).bind fun t158 => (some t158)) else (some false)) = some r := by rw [if_pos rfl] at H; exact H
    clear H
    have H := H1
    clear H1
    by_cases c5 : (l1.length : Int) ≤ 60
    · rw [if_pos c5] at H
      have c5b0 : decide ((l1.length : Int) ≤ 60) = true := decide_eq_true c5
      have c5b1 : decide (l1.length ≤ 60) = true := decide_eq_true (by omega)
      clear c5
      replace H := Option.bind_eq_some_iff.mp H
      obtain ⟨t158, A60, H⟩ := H
      replace H : (some t158) = some r := H
      have A6 := Aside0.mk A60
      clear A60
      obtain rfl := Option.some.inj H
      go_enter Try.func27, Try.ntmps27
      go_wp2_with (first | ((with_reducible refine gate_callee (f := 35) rfl ?_); refine goesL_ (some 6) rfl rfl Try.func35 (by kernel_rfl) rfl #[.int .i64 a0, .int .i64 0, .int .i64 12] rfl (by (try simp only [List.map_toArray, List.map_cons, List.map_nil]); first | done | rfl | (simp only [List.length_drop, List.length_take]; rfl)) ?_; (with_reducible refine (impl_in.calls a0 0 12 true _ A3.out).mono ?_); rintro e w' ⟨rfl, ⟨nd, rfl⟩⟩; refine ⟨_, rfl, ?_⟩) | (go_at_call 39; (with_reducible refine (impl_areClauses.calls _ _ l1 a0 t158 _ ?side1 ?side2 A6.out).mono ?_); (case side1 => repeat (first | exact HR1.out | (with_reducible refine Kd.C_alloc ?_ _) | (with_reducible refine Kd.C_drewN ?_ _) | (with_reducible refine Kd.C_drew ?_))); (case side2 => exact HC1.out); rintro e w7 ⟨rfl, hb⟩; have n0_ := Aside0.mk (below_step (by repeat (first | (with_reducible first | exact HB.out | apply below_alloc | apply pw_below_drewN | apply below_drew1) | exact HB.out)) hb); clear HB; have HB := n0_; clear n0_; (try clear hb); (try clear hb2); (try clear hk); (try clear hi)))
      go_ret
      exact ⟨by first | rfl | (simp [errW_none, errW_some] <;> rfl) | (simp [*, errW_none, errW_some] <;> rfl), by repeat (first | (with_reducible first | exact HB.out | apply below_alloc | apply pw_below_drewN | apply below_drew1) | exact HB.out)⟩
    · rw [if_neg c5] at H
      have c5b0 : decide ((l1.length : Int) ≤ 60) = false := decide_eq_false c5
      have c5b1 : decide (l1.length ≤ 60) = false := decide_eq_false (by omega)
      clear c5
      obtain rfl := Option.some.inj H
      go_enter Try.func27, Try.ntmps27
      go_wp2_with (first | ((with_reducible refine gate_callee (f := 35) rfl ?_); refine goesL_ (some 6) rfl rfl Try.func35 (by kernel_rfl) rfl #[.int .i64 a0, .int .i64 0, .int .i64 12] rfl (by (try simp only [List.map_toArray, List.map_cons, List.map_nil]); first | done | rfl | (simp only [List.length_drop, List.length_take]; rfl)) ?_; (with_reducible refine (impl_in.calls a0 0 12 true _ A3.out).mono ?_); rintro e w' ⟨rfl, ⟨nd, rfl⟩⟩; refine ⟨_, rfl, ?_⟩))
      go_ret
      exact ⟨by first | rfl | (simp [errW_none, errW_some] <;> rfl) | (simp [*, errW_none, errW_some] <;> rfl), by repeat (first | (with_reducible first | exact HB.out | apply below_alloc | apply pw_below_drewN | apply below_drew1) | exact HB.out)⟩
  · replace c4 := Bool.eq_false_iff.mpr c4
    subst c4
    have H1 : (some false) = some r := by rw [if_neg (show ¬ (false = true) by decide)] at H; exact H
    clear H
    have H := H1
    clear H1
    obtain rfl := Option.some.inj H
    go_enter Try.func27, Try.ntmps27
    go_wp2_with (first | ((with_reducible refine gate_callee (f := 35) rfl ?_); refine goesL_ (some 6) rfl rfl Try.func35 (by kernel_rfl) rfl #[.int .i64 a0, .int .i64 0, .int .i64 12] rfl (by (try simp only [List.map_toArray, List.map_cons, List.map_nil]); first | done | rfl | (simp only [List.length_drop, List.length_take]; rfl)) ?_; (with_reducible refine (impl_in.calls a0 0 12 false _ A3.out).mono ?_); rintro e w' ⟨rfl, ⟨nd, rfl⟩⟩; refine ⟨_, rfl, ?_⟩))
    go_ret
    exact ⟨by first | rfl | (simp [errW_none, errW_some] <;> rfl) | (simp [*, errW_none, errW_some] <;> rfl), by repeat (first | (with_reducible first | exact HB.out | apply below_alloc | apply pw_below_drewN | apply below_drew1) | exact HB.out)⟩

/-! ### slices_Grow_int_int: function 44 -/
-- IMPORT Derived.Lib.AppendZeros
set_option maxHeartbeats 1000000 in
set_option maxRecDepth 100000 in
theorem slices_Grow_rows_calls (m : Nat) (hm : m < 4398046511104) (w : World) :
    Calls Try.prog 44 #[.slice none 0 0, .int .i64 (m : Int)] w fun e w' => ∃ v0_ : Value, e = .returned v0_ ∧ w'.ownsRow w.heap.size 27 1 v0_ 0 [] ∧ Below w.heap.size w w' := by
  have HM := Aside0.mk hm
  have HB := Aside0.mk (Below.refl w.heap.size w)
  rcases Nat.eq_zero_or_pos m with rfl | hp
  · clear hm
    go_enter Try.func44, Try.ntmps44
    go_wp2
    go_ret
    exact ⟨_, rfl, own_nil _ _ _ _, by repeat (first | (with_reducible first | exact HB.out | apply below_alloc | apply pw_below_drewN | apply below_drew1) | exact HB.out)⟩
  · have HP := Aside0.mk hp
    obtain ⟨i0, hi, hz0, hz1, hz2⟩ := info_parts info27
    have hrun := fun (W : World) (ty : TypeId) => Lib.run_append_nil_zeros (P := Try.prog) W 25 3 ty 27 i0 (.slice none 0 0) .i64 .i64 Try.underlying25 Try.underlying3 hi hz0 m hp (by rw [hz1]; decide) (by omega) (by rw [hz2]; omega)
    have HRUN := Aside0.mk hrun
    have HO := Aside0.mk (own_grown_ (w := w) (e := 27) (z := .slice none 0 0) (n := m) rfl (grownCap w m 0 27) (grownCap_ge w m 0 27) (grownCap_le_maxLen w m 0 27 (by simp only [maxLen]; omega)) w.heap.size (Nat.le_refl _))
    have hq : decide ((m : Int) < 0) = false := decide_eq_false (by omega)
    have hq2 : decide ((0 : Int) < (m : Int)) = true := decide_eq_true (by omega)
    have hq3 : decide (0 < m) = true := decide_eq_true hp
    have hb : (m : Int) ≤ 4398046511104 := by omega
    have hb0 : (0 : Int) ≤ (m : Int) := by omega
    clear hm hp hi hz0 hz1 hz2 hrun
    go_enter Try.func44, Try.ntmps44
    go_wp2_with ((with_reducible refine gate_builtin (b := .append) (xs := #[.tmp 20, .tmp 21]) rfl ?_); at_builtin; refine Lib.wpList_append_run _ rfl _ _ _ _ rfl _ _ rfl rfl _ _ (HRUN.out _ _) ?_)
    go_ret
    exact ⟨_, rfl, HO.out, by repeat (first | (with_reducible first | exact HB.out | apply below_alloc | apply pw_below_drewN | apply below_drew1) | exact HB.out)⟩


/-! ### slices_Concat_int_int: function 32 -/
def slices_Concat_rows (l0 : List (List (List Int))) : Option (List (List Int)) := if l0.flatten.length < 4398046511104 then some l0.flatten else none
set_option maxHeartbeats 1000000 in
set_option maxRecDepth 100000 in
theorem slices_Concat_rows_calls (A0 : Option Addr) (c0 : Nat) (l0 : List (List (List Int))) (r : List (List Int)) (w : World) (hr0 : Kd.C (Kd.slice 27 (Kd.slice 3 (Kd.int .i64))) w A0 l0.length l0) (hc0 : l0.length ≤ c0) (h : slices_Concat_rows l0 = some r) :
    Calls Try.prog 32 #[.slice A0 l0.length c0] w fun e w' => ∃ v0_ : Value, e = .returned (v0_) ∧ Kd.R (Kd.fixed (Kd.slice 3 (Kd.int .i64)) w) 27 w' w.heap.size (fun _ => True) v0_ r ∧ Below w.heap.size w w' := by
  have HR0 := Aside0.mk hr0
  have HL := Aside0.mk hr0.2.1
  unfold slices_Concat_rows at h
  by_cases c3 : l0.flatten.length < 4398046511104
  · rw [if_pos c3] at h
    have HF := Aside0.mk (Option.some.inj h)
    have LM := Aside0.mk c3
    clear hr0 hc0 h c3
    have HB := Aside0.mk (Below.refl w.heap.size w)
    go_enter Try.func32, Try.ntmps32
    go_wp2
    go_loopg [3, 11] l0.length (fun kq v3 v11 w' => ∃ (x s : Int), v3 = .int .i64 s ∧ v11 = .int .i64 x ∧ Aside0 (0 ≤ x ∧ x ≤ (l0.length : Int) ∧ (l0.length : Int) - x ≤ kq ∧ s = ((l0.take x.toNat).flatten.length : Nat)) ∧ Aside0 (Below w.heap.size w w'))
    case atStart => exact ⟨0, 0, rfl, rfl, ⟨by omega, by omega, by omega, rfl⟩, HB⟩
    case round =>
      clear HB
      obtain ⟨x, s, rfl, rfl, HA, HB⟩ := hrel
      by_cases c3 : x < (l0.length : Int)
      · have c3b0 : decide (x < (l0.length : Int)) = true := decide_eq_true c3
        have p101 : 0 ≤ x := HA.out.1
        have q101 := c3
        obtain ⟨ad101, A9, c9, e101, hx101_0, hl9, hr9⟩ := rowIn_at HR0.out x p101 q101
        cases e101
        replace hx101_0 := (HB.out.cell (World.block_lt_of_cell? w _ hx101_0)).trans hx101_0
        have HW := Aside0.mk (show wrap64 (x + 1) = x + 1 by have := HL.out; unfold wrap64; omega)
        have HS := Aside0.mk (flat_step_ l0 x p101 q101)
        obtain ⟨m9, hm9⟩ : ∃ m, (rowIn_ l0 x).length = m := ⟨_, rfl⟩
        have hsm : 0 ≤ s ∧ s + (m9 : Int) < 4398046511104 := by
          have h1 := flat_le_ l0 (x + 1).toNat
          rw [HS.out, List.length_append] at h1
          have h2 := LM.out
          have h3 := HA.out.2.2.2
          omega
        have HSM := Aside0.mk hsm
        have HM9 := Aside0.mk hm9
        have s0 : 0 ≤ s := hsm.1
        have s1 : s ≤ 4398046511104 := by omega
        have s2 : (m9 : Int) ≤ 4398046511104 := by omega
        have s3 : (0 : Int) ≤ (m9 : Int) := by omega
        have s4 : decide (s + (m9 : Int) < 0) = false := decide_eq_false (by omega)
        have HWS := Aside0.mk (show wrap64 (s + (m9 : Int)) = s + (m9 : Int) by unfold wrap64; omega)
        rw [hm9] at hx101_0
        clear c3 hsm hl9 hr9 hm9
        have HP := Aside0.mk p101
        have HQ := Aside0.mk q101
        replace p101 := eq_true p101
        replace q101 := eq_true q101
        go_wp2
        go_roundg (gk - 1)
        case measure => have := HA.out.2.2.1; have := HQ.out; omega
        case rel => exact ⟨x + 1, s + (m9 : Int), by first | rfl | (rw [← HWS.out]; done) | (rw [HWS.out]; done) | simp [HWS.out], by first | rfl | (rw [← HW.out]; done) | (rw [HW.out]; done) | simp [HW.out], ⟨by have := HP.out; omega, by have := HQ.out; omega, by have := HA.out.2.2.1; have := HQ.out; omega, by rw [HS.out, List.length_append]; have := HA.out.2.2.2; have := HM9.out; omega⟩, ⟨by repeat (first | (with_reducible first | exact HB.out | apply below_alloc | apply pw_below_drewN | apply below_drew1) | exact HB.out)⟩⟩
      · have c3b0 : decide (x < (l0.length : Int)) = false := decide_eq_false c3
        have hx : x = (l0.length : Int) := by have := HA.out.2.1; omega
        have hs : s = (l0.flatten.length : Nat) := by
          have := HA.out.2.2.2
          rw [hx] at this
          simpa using this
        obtain ⟨ms, hms⟩ : ∃ ms, ms = l0.flatten.length := ⟨_, rfl⟩
        rw [← hms] at hs
        have HMS := Aside0.mk (show ms < 4398046511104 by rw [hms]; exact LM.out)
        subst hs
        clear hx c3 hms HA
        go_wp2_with (go_at_call 44; (with_reducible refine (slices_Grow_rows_calls ms HMS.out _).mono ?_); rintro e w5 ⟨v5, rfl, ho, hb⟩; have n0_ := Aside0.mk (Kd.R_lower (R_of_own_ (d := (Kd.fixed (Kd.slice 3 (Kd.int .i64)) w)) ho) (below_size (by repeat (first | (with_reducible first | exact HB.out | apply below_alloc | apply pw_below_drewN | apply below_drew1) | exact HB.out)))); have n1_ := Aside0.mk (below_step (by repeat (first | (with_reducible first | exact HB.out | apply below_alloc | apply pw_below_drewN | apply below_drew1) | exact HB.out)) hb); clear HB; have HO5 := n0_; have HB := n1_; clear n0_ n1_; clear hb ho)
        go_loopg [6, 27] l0.length (fun kq v6 v27 w' => ∃ (x : Int) (y : List (List Int)), v27 = .int .i64 x ∧ Aside0 (0 ≤ x ∧ x ≤ (l0.length : Int) ∧ (l0.length : Int) - x ≤ kq ∧ y = (l0.take x.toNat).flatten) ∧ Aside0 (Kd.R (Kd.fixed (Kd.slice 3 (Kd.int .i64)) w) 27 w' w.heap.size (fun _ => True) v6 y) ∧ Aside0 (Below w.heap.size w w'))
        case atStart => exact ⟨0, [], rfl, ⟨by omega, by omega, by omega, rfl⟩, HO5, HB⟩
        case round =>
          clear HB HO5
          obtain ⟨x2, y, rfl, HA, HO, HB⟩ := hrel
          obtain ⟨Ay, cy, ey⟩ := Kd.R_slice HO.out
          subst ey
          by_cases c3 : x2 < (l0.length : Int)
          · have c3b0' : decide (x2 < (l0.length : Int)) = true := decide_eq_true c3
            have p101 : 0 ≤ x2 := HA.out.1
            have q101 := c3
            obtain ⟨ad101, A9, c9, e101, hx101_0, hl9, hr9⟩ := rowIn_at HR0.out x2 p101 q101
            cases e101
            replace hx101_0 := (HB.out.cell (World.block_lt_of_cell? w _ hx101_0)).trans hx101_0
            have HR9 := Aside0.mk hr9
            have HW := Aside0.mk (show wrap64 (x2 + 1) = x2 + 1 by have := HL.out; unfold wrap64; omega)
            have HS := Aside0.mk (flat_step_ l0 x2 p101 q101)
            obtain ⟨z, hz⟩ : ∃ z, rowIn_ l0 x2 = z := ⟨_, rfl⟩
            rw [hz] at hx101_0
            have HZ := Aside0.mk hz
            have LA := Aside0.mk (show y.length + z.length < 4398046511104 by
              have h1 := flat_le_ l0 (x2 + 1).toNat
              rw [HS.out, hz, ← HA.out.2.2.2, List.length_append] at h1
              have h2 := LM.out
              omega)
            have HR9 := Aside0.mk (show Kd.C (Kd.slice 3 (Kd.int .i64)) w A9 z.length z from hz ▸ HR9.out)
            clear c3 hl9 hr9 hz
            have HP := Aside0.mk p101
            have HQ := Aside0.mk q101
            replace p101 := eq_true p101
            replace q101 := eq_true q101
            obtain ⟨y2, hy2⟩ : ∃ y_, y_ = y ++ z := ⟨_, rfl⟩
            have NY2 := Aside0.mk hy2
            clear hy2
            go_wp2_with ((with_reducible refine gate_builtin (b := .append) (xs := #[.tmp 31, .tmp 32]) rfl ?_); at_builtin; refine Kd.R_append_rows (Kd.fixed (Kd.slice 3 (Kd.int .i64)) w) (w0 := w) w.heap.size rfl (.tmp 31) (.tmp 32) 25 27 (.slice none 0 0) 24 rfl Try.underlying25 info27 rfl Nat.zero_lt_one (by omega) (.slice Ay y.length cy) y z _ _ _ (fun _ => True) (fun _ => False) rfl rfl ?aO ?aR (fun _ _ h => h) (fun _ h => h.elim) ?aF ?aB ?aS ?aL ?_; (case aR => exact ReadsRow.imp_ HR9.out (by repeat (first | (with_reducible first | exact HB.out | apply below_alloc | apply pw_below_drewN | apply below_drew1) | exact HB.out)) (fun _ _ hp => hp)); (case aB => exact (by repeat (first | (with_reducible first | exact HB.out | apply below_alloc | apply pw_below_drewN | apply below_drew1) | exact HB.out))); (case aF => exact (fun _ _ => trivial)); (case aO => exact (by (with_reducible repeat (first | apply Kd.R_alloc | apply Kd.R_drewN | apply Kd.R_drew)); exact HO.out)); (case aS => exact (below_size (by repeat (first | (with_reducible first | exact HB.out | apply below_alloc | apply pw_below_drewN | apply below_drew1) | exact HB.out)))); (case aL => have := LA.out; omega); intro v9 w9 ho hb hg hat; rw [← NY2.out] at ho; have n0_ := Aside0.mk hb; have n1_ := Aside0.mk ho; clear HB; clear HO; have HB := n0_; have HO := n1_; clear n0_ n1_; clear ho hb hg hat)
            go_roundg (gk - 1)
            case measure => have := HA.out.2.2.1; have := HQ.out; omega
            case rel => exact ⟨x2 + 1, y2, by first | rfl | (rw [← HW.out]; done) | (rw [HW.out]; done) | simp [HW.out], ⟨by have := HP.out; omega, by have := HQ.out; omega, by have := HA.out.2.2.1; have := HQ.out; omega, by rw [HS.out, HZ.out, ← HA.out.2.2.2, NY2.out]⟩, ⟨by (with_reducible repeat (first | apply Kd.R_alloc | apply Kd.R_drewN | apply Kd.R_drew)); exact HO.out⟩, ⟨by repeat (first | (with_reducible first | exact HB.out | apply below_alloc | apply pw_below_drewN | apply below_drew1) | exact HB.out)⟩⟩
          · have c3b0' : decide (x2 < (l0.length : Int)) = false := decide_eq_false c3
            have hx : x2 = (l0.length : Int) := by have := HA.out.2.1; omega
            have HY := Aside0.mk (show y = r by rw [HA.out.2.2.2, ← HF.out, hx]; simp)
            clear hx c3
            go_wp2
            go_ret
            exact ⟨_, rfl, by rw [← HY.out]; (with_reducible repeat (first | apply Kd.R_alloc | apply Kd.R_drewN | apply Kd.R_drew)); exact HO.out, by repeat (first | (with_reducible first | exact HB.out | apply below_alloc | apply pw_below_drewN | apply below_drew1) | exact HB.out)⟩
  · rw [if_neg c3] at h
    exact absurd h (by simp)
theorem slices_Concat_two_calls (A0 : Option Addr) (c0 : Nat) (l1 l2 : List (List Int)) (r : List (List Int)) (w : World) (hr0 : Kd.C (Kd.slice 27 (Kd.slice 3 (Kd.int .i64))) w A0 [l1, l2].length [l1, l2]) (hc0 : 2 ≤ c0) (h : slices_Concat_rows [l1, l2] = some r) :
    Calls Try.prog 32 #[.slice A0 2 c0] w fun e w' => ∃ v0_ : Value, e = .returned (v0_) ∧ Kd.R (Kd.fixed (Kd.slice 3 (Kd.int .i64)) w) 27 w' w.heap.size (fun _ => True) v0_ r ∧ Below w.heap.size w w' := slices_Concat_rows_calls A0 c0 [l1, l2] r w hr0 hc0 h


/-! ### impl_holds_1: function 53 -/
theorem given_quiet2 {P : Program} {f : FuncId} {args : Array Value} {w : World} {n : Nat} {v : Value} (h : Calls P f args (w.drewN n) fun e w' => e = .returned v ∧ Drawn0 (w.drewN n) w') :
    Calls P f args (w.drewN n) fun e w'' => e = .returned v ∧ ∃ m, w'' = w.drewN m := by
  refine h.mono ?_
  rintro e w' ⟨he, ⟨m, rfl⟩⟩
  exact ⟨he, n + m, by rw [World.drewN_drewN]⟩
def litAt (m : List Bool) (n : Int) : Bool := rdOf false m (vab n - 1) == decide (0 < n)
set_option maxHeartbeats 8000000 in
set_option maxRecDepth 100000 in
theorem impl_holds_1_calls (n : Int) (B : Nat) (A : Option Addr) (c : Nat) (m : List Bool) (w : World) (hr : Kd.C Kd.bool w A m.length m) (hc : w.cell? ⟨B, 0, none⟩ = some (.slice A m.length c)) (h0 : 1 ≤ vab n) (h1 : vab n ≤ (m.length : Int)) :
    Calls Try.prog 53 (#[.int .i64 n] ++ #[.pointer (some ⟨B, 0, none⟩)]) w fun e w' => e = .returned (.bool (litAt m n)) ∧ ∃ q, w' = w.drewN q := by
  obtain ⟨ad, e101, hx⟩ := Kd.at_bool hr (vab n - 1) (by omega) (by omega)
  cases e101
  have hlen := hr.2.1
  obtain ⟨b, hb⟩ : ∃ b, rdOf false m (vab n - 1) = b := ⟨_, rfl⟩
  have HG := Aside0.mk (show litAt m n = (b == decide (0 < n)) by unfold litAt; rw [hb])
  rw [hb] at hx
  obtain ⟨v, hv⟩ : ∃ v, vab n = v := ⟨_, rfl⟩
  have HV := Aside0.mk (show impl_variable.f n = some v by rw [impl_variable_val, hv])
  rw [hv] at hx h0 h1
  clear hb hr hv
  obtain ⟨j, hj⟩ : ∃ j, v - 1 = j := ⟨_, rfl⟩
  have hw1 : IntKind.i64.wrap (v - 1) = j := by
    rw [IntKind.wrap_i64]
    omega
  rw [hj] at hx
  have q1 := eq_true (show 0 ≤ j by omega)
  have q2 := eq_true (show j < (m.length : Int) by omega)
  have q1b : decide (0 ≤ j) = true := decide_eq_true (of_eq_true q1)
  have q2b : decide (j < (m.length : Int)) = true := decide_eq_true (of_eq_true q2)
  clear h0 h1 hlen hj
  show Calls Try.prog 53 #[.int .i64 n, .pointer (some ⟨B, 0, none⟩)] w _
  rw [HG.out]
  go_enter Try.func53, Try.ntmps53
  go_wp2
  go_quiet ((go_at_call 54; exact given_quiet2 (impl_variable.calls n v _ HV.out)))
  go_wp2
  go_ret
  exact ⟨by first | rfl | simp, _, rfl⟩


/-! ### impl_holds: function 45 -/
def fitsModel (l : List (List Int)) (m : List Bool) : Bool := l.all fun c => c.all fun n => decide (1 ≤ vab n) && decide (vab n ≤ (m.length : Int))
def holdsB (l : List (List Int)) (m : List Bool) : Bool := l.all fun c => c.any (litAt m)
def impl_holds.f (l0 : List (List Int)) (l1 : List Bool) : Option (Bool) := if fitsModel l0 l1 = true then some (holdsB l0 l1) else none
set_option maxHeartbeats 8000000 in
set_option maxRecDepth 100000 in
theorem impl_holds.calls (A0 : Option Addr) (c0 : Nat) (l0 : List (List Int)) (A1 : Option Addr) (c1 : Nat) (l1 : List Bool) (r : Bool) (w : World) (hr0 : Kd.C (Kd.slice 3 (Kd.int .i64)) w A0 l0.length l0) (hc0 : l0.length ≤ c0) (hr1 : Kd.C Kd.bool w A1 l1.length l1) (hc1 : l1.length ≤ c1) (h : impl_holds.f l0 l1 = some r) :
    Calls Try.prog 45 #[.slice A0 l0.length c0, .slice A1 l1.length c1] w fun e w' => e = .returned (.bool r) ∧ Below w.heap.size w w' := by
  have HR0 := Aside0.mk hr0
  have HR1 := Aside0.mk hr1
  have HL := Aside0.mk hr0.2.1
  clear hr0 hc0 hr1 hc1
  unfold impl_holds.f at h
  by_cases hfit : fitsModel l0 l1 = true
  · rw [if_pos hfit] at h
    have HFit := Aside0.mk hfit
    have HR := Aside0.mk (Option.some.inj h)
    clear hfit h
    have HB := Aside0.mk (Below.refl w.heap.size w)
    have eg := enters_of Try.func53 (by kernel_rfl) rfl
    go_enter Try.func45, Try.ntmps45
    go_wp2_with ((with_reducible refine gate_dst (N := 3) rfl ?_); refine box_event ?hg (N := 3) ?hd (cs := #[.slice A1 l1.length c1]) (t := 55) ?hr ?_; (case hd => rfl); (case hg => rfl); (case hr => first | (go_simp; done) | (go_simp; rfl)); intro gb hg w2 hbox hb; have n0_ := Aside0.mk (below_step (by repeat (first | (with_reducible first | exact HB.out | apply below_alloc | apply pw_below_drewN | apply below_drew1) | exact HB.out)) hb); have n1_ := Aside0.mk (blk_cell hbox 0); have n2_ := Aside0.mk (Kd.C_below HR0.out hb); have n3_ := Aside0.mk (Kd.C_below HR1.out hb); clear HB HR0 HR1; have HB := n0_; have BK := n1_; have HR0 := n2_; have HR1 := n3_; clear n0_ n1_ n2_ n3_; clear hb hbox hg)
    go_loopg [9] l0.length (fun kq v9 w' => ∃ (x : Int), v9 = .int .i64 x ∧ Aside0 (0 ≤ x ∧ x ≤ (l0.length : Int) ∧ (l0.length : Int) - x ≤ kq ∧ (l0.drop x.toNat).all (fun c => c.any (litAt l1)) = r) ∧ Drawn0 w2 w')
    case atStart => exact ⟨0, rfl, ⟨by omega, by omega, by omega, HR.out⟩, by repeat (first | exact Drawn0.refl _ | apply Drawn0.step)⟩
    case round =>
      clear HR
      obtain ⟨x, rfl, HA, ⟨m1, rfl⟩⟩ := hrel
      by_cases c3 : x < (l0.length : Int)
      · have c3b0 : decide (x < (l0.length : Int)) = true := decide_eq_true c3
        have p101 : 0 ≤ x := HA.out.1
        have q101 := c3
        obtain ⟨ad101, A9, c9, e101, hx101_0, hl9, hr9⟩ := given_at_row HR0.out x p101 q101
        cases e101
        have hmem : rowAt_ l0 x ∈ l0 := by
          unfold rowAt_
          rw [List.getD_eq_getElem?_getD, List.getElem?_eq_getElem (show x.toNat < l0.length by omega)]
          exact List.getElem_mem _
        have hdrop : l0.drop x.toNat = rowAt_ l0 x :: l0.drop (x + 1).toNat := by
          have hl : x.toNat < l0.length := by omega
          rw [List.drop_eq_getElem_cons hl, show (x + 1).toNat = x.toNat + 1 by omega]
          unfold rowAt_
          rw [List.getD_eq_getElem?_getD, List.getElem?_eq_getElem hl]
          rfl
        have hin : ∀ n ∈ rowAt_ l0 x, 1 ≤ vab n ∧ vab n ≤ (l1.length : Int) := by
          have h1 := HFit.out
          unfold fitsModel at h1
          have h2 := List.all_eq_true.1 h1 _ hmem
          intro n hn
          have h3 := List.all_eq_true.1 h2 n hn
          simpa [Bool.and_eq_true] using h3
        have HIN := Aside0.mk hin
        have HW := Aside0.mk (show wrap64 (x + 1) = x + 1 by have := HL.out; unfold wrap64; omega)
        have HR9 := Aside0.mk hr9
        have HD := Aside0.mk hdrop
        have HQ := Aside0.mk c3
        clear hmem c3 hr9 hl9 hin hdrop
        replace p101 := eq_true p101
        replace q101 := eq_true q101
        cases hany : (rowAt_ l0 x).any (litAt l1) with
        | false =>
          have HY := Aside0.mk hany
          have HF := Aside0.mk (show r = false by rw [← HA.out.2.2.2, HD.out, List.all_cons, hany]; rfl)
          clear hany HA
          obtain rfl := HF.out
          go_wp2_with (go_at_call 52; refine (slices_ContainsFunc_int_calls (litAt l1) 53 #[.pointer (some ⟨gb, 0, none⟩)] eg _ _ (rowAt_ l0 x) _ ?s1 ?s2).mono ?_; (case s1 => repeat (first | exact HR9.out | (with_reducible refine Kd.C_alloc ?_ _) | (with_reducible refine Kd.C_drewN ?_ _) | (with_reducible refine Kd.C_drew ?_))); (case s2 => exact fun z q hz => impl_holds_1_calls z gb A1 c1 l1 _ (Kd.C_drewN (Kd.C_drewN HR1.out _) _) BK.out (HIN.out z hz).1 (HIN.out z hz).2); rintro e w' ⟨he, ⟨nd2, rfl⟩⟩; rw [HY.out] at he; subst he)
          go_ret
          exact ⟨rfl, by repeat (first | (with_reducible first | exact HB.out | apply below_alloc | apply pw_below_drewN | apply below_drew1) | exact HB.out)⟩
        | true =>
          have HY := Aside0.mk hany
          have HF := Aside0.mk (show (l0.drop (x + 1).toNat).all (fun c => c.any (litAt l1)) = r by rw [← HA.out.2.2.2, HD.out, List.all_cons, hany]; rfl)
          clear hany
          go_wp2_with (go_at_call 52; refine (slices_ContainsFunc_int_calls (litAt l1) 53 #[.pointer (some ⟨gb, 0, none⟩)] eg _ _ (rowAt_ l0 x) _ ?s1 ?s2).mono ?_; (case s1 => repeat (first | exact HR9.out | (with_reducible refine Kd.C_alloc ?_ _) | (with_reducible refine Kd.C_drewN ?_ _) | (with_reducible refine Kd.C_drew ?_))); (case s2 => exact fun z q hz => impl_holds_1_calls z gb A1 c1 l1 _ (Kd.C_drewN (Kd.C_drewN HR1.out _) _) BK.out (HIN.out z hz).1 (HIN.out z hz).2); rintro e w' ⟨he, ⟨nd2, rfl⟩⟩; rw [HY.out] at he; subst he)
          go_roundg (gk - 1)
          case measure => have := HA.out.2.2.1; have := HQ.out; omega
          case rel => exact ⟨x + 1, by first | rfl | (rw [← HW.out]; done) | (rw [HW.out]; done) | simp [HW.out], ⟨by have := HA.out.1; omega, by have := HQ.out; omega, by have := HA.out.2.2.1; have := HQ.out; omega, HF.out⟩, by repeat (first | exact Drawn0.refl _ | apply Drawn0.step)⟩
      · have c3b0 : decide (x < (l0.length : Int)) = false := decide_eq_false c3
        have hx : x = (l0.length : Int) := by have := HA.out.2.1; omega
        have HF := Aside0.mk (show r = true by rw [← HA.out.2.2.2, hx]; simp)
        clear hx c3 HA
        obtain rfl := HF.out
        go_wp2
        go_ret
        exact ⟨rfl, by repeat (first | (with_reducible first | exact HB.out | apply below_alloc | apply pw_below_drewN | apply below_drew1) | exact HB.out)⟩
  · rw [if_neg hfit] at h
    exact absurd h (by simp)


/-! ### impl_model: function 46 -/
def impl_model.l0 : Nat → Int → List Bool → Int → Int → Option (List Bool)
  | 0, _, _, _, _ => none
  | k + 1, x1, x5, x10, x11 => if x11 < x10 then (if 0 ≤ x11 then (if x11 < (x5.length : Int) then (impl_model.l0 k x1 (x5.set (x11 : Int).toNat ((Go.bits .and .i64 (shr .i64 x1 x11) 1) == 1)) x10 (wrap64 (x11 + 1))) else (none)) else (none)) else (some x5)
def impl_model.f (k : Nat) (a0 : Int) (a1 : Int) : Option (List Bool) := if 0 ≤ a0 then (if (a0 : Int).toNat ≤ 281474976710656 then ((some (List.replicate (a0 : Int).toNat false : List Bool)).bind fun y159 => (impl_model.l0 k a1 y159 (y159.length : Int) 0)) else (none)) else (none)
theorem impl_model.mono_l : ∀ k, (∀ y0 y1 y2 y3, LeO (impl_model.l0 k y0 y1 y2 y3) (impl_model.l0 (k + 1) y0 y1 y2 y3))
  | 0 => fun _ _ _ _ r h => by simp [impl_model.l0] at h
  | k + 1 => by
    have ih0 := impl_model.mono_l k
    · intro y0 y1 y2 y3
      unfold impl_model.l0
      repeat' first
      | (with_reducible exact ih0 _ _ _ _)
      | (with_reducible exact LeO.refl _)
      | (with_reducible exact LeO.none _)
      | (with_reducible refine LeO.ite ?_ ?_)
      | (with_reducible refine LeO.bind ?_ (fun _ => ?_))
      | exact ih0 _ _ _ _
      | exact LeO.none _
      | refine LeO.ite ?_ ?_
      | refine LeO.bind ?_ (fun _ => ?_)
theorem impl_model.mono : ∀ a0 a1 k, LeO (impl_model.f k a0 a1) (impl_model.f (k + 1) a0 a1) := by
  intro a0 a1 k
  have ih0 := impl_model.mono_l k
  unfold impl_model.f
  repeat' first
      | (with_reducible exact ih0 _ _ _ _)
      | (with_reducible exact LeO.refl _)
      | (with_reducible exact LeO.none _)
      | (with_reducible refine LeO.ite ?_ ?_)
      | (with_reducible refine LeO.bind ?_ (fun _ => ?_))
      | exact ih0 _ _ _ _
      | exact LeO.none _
      | refine LeO.ite ?_ ?_
      | refine LeO.bind ?_ (fun _ => ?_)
set_option maxHeartbeats 8000000 in
set_option maxRecDepth 100000 in
theorem impl_model.calls (k : Nat) (a0 : Int) (a1 : Int) (r : List Bool) (w : World) (h : impl_model.f k a0 a1 = some r) :
    Calls Try.prog 46 #[.int .i64 a0, .int .i64 a1] w fun e w' => ∃ v0_ : Value, e = .returned (v0_) ∧ Kd.R Kd.bool 4 w' w.heap.size (fun _ => True) v0_ r ∧ Below w.heap.size w w' := by
  have HB := Aside0.mk (Below.refl w.heap.size w)
  have H : (if 0 ≤ a0 then (if (a0 : Int).toNat ≤ 281474976710656 then ((some (List.replicate (a0 : Int).toNat false : List Bool)).bind fun y159 => (impl_model.l0 k a1 y159 (y159.length : Int) 0)) else (none)) else (none)) = some r := h
  clear h
  by_cases c3 : 0 ≤ a0
  · rw [if_pos c3] at H
    have c3b0 := eq_true c3
    have c3b1 : decide (0 ≤ a0) = true := decide_eq_true c3
    clear c3
    by_cases c4 : (a0 : Int).toNat ≤ 281474976710656
    · rw [if_pos c4] at H
      have c4b0 := eq_true c4
      have c4b1 : decide ((a0 : Int).toNat ≤ 281474976710656) = true := decide_eq_true c4
      clear c4
      obtain ⟨y159, hy159⟩ : ∃ y_ : List Bool, y_ = (List.replicate (a0 : Int).toNat false) := ⟨_, rfl⟩
      replace H : (impl_model.l0 k a1 y159 (y159.length : Int) 0) = some r := by first | (rw [hy159]; with_reducible exact H) | (have H2_ := (Option.bind_some _ _).symm.trans H; rw [hy159]; with_reducible exact H2_) | (have H2_ := (Option.bind_some _ _).symm.trans H; with_reducible exact H2_) | with_reducible exact H | (rw [hy159]; exact H) | exact H
      have Ny159 := Aside0.mk hy159
      clear hy159
      have H' := Aside0.mk H
      clear H
      go_enter Try.func46, Try.ntmps46
      go_wp2_with (first | ((with_reducible refine gate_dst (N := 8) rfl ?_); refine Kd.R_make Kd.bool _ 4 rfl (N := 8) rfl 55 _ _ rfl a0 rfl rfl Try.underlying55 (.bool false) 1 info4 rfl (by decide) (by omega) false (ok := fun _ => True) (okp := fun _ => True) rfl (fun _ hk => hk) trivial (of_decide_eq_true (by first | (with_reducible assumption) | assumption)) (Nat.le_trans (Nat.mul_le_mul_right _ (of_decide_eq_true (by first | (with_reducible assumption) | assumption) : a0.toNat ≤ 281474976710656)) (by omega)) (Below.refl _ _) (Nat.le_refl _) ?_; intro v160 w5 ho6 hb hg_ hnew_; clear hg_ hnew_; (first | rw [← Ny159.out] at ho6 | (simp only [Int.reduceToNat] at ho6; rw [← Ny159.out] at ho6)); have n0_ := Aside0.mk (Kd.R_lower ho6 (below_size (by repeat (first | (with_reducible first | exact HB.out | apply below_alloc | apply pw_below_drewN | apply below_drew1) | exact HB.out)))); have n1_ := Aside0.mk (below_step (by repeat (first | (with_reducible first | exact HB.out | apply below_alloc | apply pw_below_drewN | apply below_drew1) | exact HB.out)) hb); clear HB; have HO161 := n0_; have HB := n1_; clear n0_ n1_; clear hb ho6; obtain ⟨Ao7, co7, eo7⟩ := Kd.R_slice HO161.out; subst eo7))
      go_loopg [11] k (fun kq v11 w' => ∃ (x5_1 : List Bool) (x11_1 : Int), v11 = .int .i64 x11_1 ∧ Aside0 (impl_model.l0 kq a1 x5_1 (y159.length : Int) x11_1 = some r) ∧ Aside0 (kq ≤ k) ∧ Aside0 (Kd.R Kd.bool 4 w' w.heap.size (fun _ => True) (.slice Ao7 y159.length co7) x5_1) ∧ Aside0 (Below w.heap.size w w'))
      case atStart => exact ⟨(y159), (0), (by first | rfl | (simp; done) | (simp [*]; done)), H', ⟨Nat.le_refl _⟩, ⟨by (with_reducible repeat (first | apply Kd.R_alloc | apply Kd.R_drewN | apply Kd.R_drew)); exact HO161.out⟩, ⟨by repeat (first | (with_reducible first | exact HB.out | apply below_alloc | apply pw_below_drewN | apply below_drew1) | exact HB.out)⟩⟩
      case round =>
        clear H'
        try clear p2
        try clear c3
        try clear c3b0
        try clear c3b1
        try clear c4
        try clear c4b0
        try clear c4b1
        obtain ⟨x5_1, x11_1, rfl, HA, HK1, HO_5, HB⟩ := hrel
        have hl5_1 := (Kd.R_reads' HO_5.out).1
        rw [hl5_1] at HO_5
        (try simp only [hl5_1])
        cases gk with
        | zero => exact absurd HA.out (by simp [impl_model.l0])
        | succ k1 =>
          have H := HA.out
          clear HA
          simp only [impl_model.l0] at H
          by_cases c8 : x11_1 < (y159.length : Int)
          · rw [if_pos c8] at H
            have c8b0 : decide (x11_1 < (y159.length : Int)) = true := decide_eq_true c8
            clear c8
            by_cases c9 : 0 ≤ x11_1
            · rw [if_pos c9] at H
              have c9b0 := eq_true c9
              have c9b1 : decide (0 ≤ x11_1) = true := decide_eq_true c9
              clear c9
              obtain ⟨ji10, hji10⟩ : ∃ j_ : Int, (shr .i64 a1 x11_1) = j_ := ⟨_, rfl⟩
              replace H : (if x11_1 < (x5_1.length : Int) then (impl_model.l0 k1 a1 (x5_1.set (x11_1 : Int).toNat ((Go.bits .and .i64 (ji10) 1) == 1)) (y159.length : Int) (wrap64 (x11_1 + 1))) else (none)) = some r := by first | (rw [hji10] at H; exact H) | (simp only [hji10] at H ⊢; exact H)
              have hji10_ : (a1 / 2 ^ min x11_1.toNat 64) = ji10 := hji10
              have hji10z : x11_1 ≤ 64 → (a1 / 2 ^ x11_1.toNat) = ji10 := shr_small hji10
              by_cases c11 : x11_1 < (x5_1.length : Int)
              · rw [if_pos c11] at H
                have c11b0 : decide (x11_1 < (x5_1.length : Int)) = true := decide_eq_true c11
                clear c11
                obtain ⟨y162, hy162⟩ : ∃ y_ : List Bool, y_ = (x5_1.set (x11_1 : Int).toNat ((Go.bits .and .i64 (ji10) 1) == 1)) := ⟨_, rfl⟩
                replace H : (impl_model.l0 k1 a1 y162 (y159.length : Int) (wrap64 (x11_1 + 1))) = some r := by first | (rw [hy162]; with_reducible exact H) | (have H2_ := (Option.bind_some _ _).symm.trans H; rw [hy162]; with_reducible exact H2_) | (have H2_ := (Option.bind_some _ _).symm.trans H; with_reducible exact H2_) | with_reducible exact H | (rw [hy162]; exact H) | exact H
                have Ny162 := Aside0.mk hy162
                clear hy162
                have H' := Aside0.mk H
                clear H
                have p12 : 0 ≤ (x11_1 : Int) := of_decide_eq_true (by first | (with_reducible assumption) | assumption)
                have q12 : (x11_1 : Int) < ((x5_1.length : Int) : Int) := of_decide_eq_true (by first | (with_reducible assumption) | assumption)
                obtain ⟨go12, co12, eo12, gb12, gl12, cl12, HG12⟩ := Kd.R_form HO_5.out (by omega)
                (first | cases eo12 | (injection eo12 with ea_ en_ ec_; (first | subst ea_ | (injection ea_ with ea_; subst ea_)); subst ec_; clear en_))
                have GB12 := Aside0.mk gb12
                have GG12 := Aside0.mk HG12
                clear gb12 gl12 HG12
                obtain ⟨hx12_0, hf12_0⟩ := Kd.R_celln false HO_5.out (x11_1 : Int) p12 q12
                replace p12 := eq_true p12
                replace q12 := eq_true q12
                have HP13 := Kd.R_putg HO_5.out (x11_1 : Int) ((Go.bits .and .i64 (ji10) 1) == 1)
                go_wp2_with (first | ((with_reducible refine gate_store (t := 4) (p := 21) rfl ?_); refine store_event (t := 4) (p := 21) (v := ?vo_w14) (w1 := (wr.setCell ⟨go12, (x11_1 : Int).toNat, none⟩ (.bool ((Go.bits .and .i64 (ji10) 1) == 1)))) ?hg ?ho ?hn ?hr ?_; (case ho => rfl); (case hg => rfl); (case hn => rfl); (case hr => first | (go_simp; done) | (go_simp; rfl)); intro w14 hw; have hg : wr.grownBy w14 (some go12) := (by rw [hw]; exact HP13.2); have hp_ : Kd.R Kd.bool 4 w14 w.heap.size (fun _ => True) (.slice (some ⟨go12, 0, none⟩) x5_1.length co7) y162 := (by rw [hw, Ny162.out]; exact HP13.1); clear HP13; have n0_ := Aside0.mk (hp_); have n1_ := Aside0.mk ((by rw [hw]; exact below_set (HB.out) GB12.out : Below w.heap.size w w14)); clear HO_5; clear HB; have HO_5 := n0_; have HB := n1_; clear n0_ n1_; clear hg hw hp_))
                (try simp only [← hl5_1])
                go_roundg k1
                case measure => have := HK1.out; omega
                case rel => exact ⟨(y162), (wrap64 (x11_1 + 1)), (by first | rfl | (simp; done) | (simp [*]; done)), H', ⟨by have := HK1.out; omega⟩, ⟨by (try simp only [hl5_1]); (with_reducible repeat (first | apply Kd.R_alloc | apply Kd.R_drewN | apply Kd.R_drew)); exact HO_5.out⟩, ⟨by repeat (first | (with_reducible first | exact HB.out | apply below_alloc | apply pw_below_drewN | apply below_drew1) | exact HB.out)⟩⟩
              · rw [if_neg c11] at H
                exact absurd H (by simp)
            · rw [if_neg c9] at H
              exact absurd H (by simp)
          · rw [if_neg c8] at H
            have c8b0 : decide (x11_1 < (y159.length : Int)) = false := decide_eq_false c8
            have c8b0h := c8b0
            (try simp only [hl5_1] at c8b0h)
            clear c8
            obtain rfl := Option.some.inj H
            go_wp2
            go_ret
            exact ⟨_, by first | rfl | (simp [errW_none, errW_some] <;> rfl) | (simp [*, errW_none, errW_some] <;> rfl), by (with_reducible repeat (first | apply Kd.R_alloc | apply Kd.R_drewN | apply Kd.R_drew)); exact HO_5.out, by repeat (first | (with_reducible first | exact HB.out | apply below_alloc | apply pw_below_drewN | apply below_drew1) | exact HB.out)⟩
    · rw [if_neg c4] at H
      exact absurd H (by simp)
  · rw [if_neg c3] at H
    exact absurd H (by simp)

/-! ### impl_countModels: function 33 -/
def impl_countModels.l0 : Nat → Int → List (List Int) → Int → Int → Int → Option (Int)
  | 0, _, _, _, _, _ => none
  | k + 1, x0, x1, x5, x8, x9 => if x9 < x8 then ((impl_model.f k x0 x9).bind fun t163 => ((impl_holds.f x1 t163).bind fun t166 => (if t166 = true then (impl_countModels.l0 k x0 x1 (wrap64 (x5 + 1)) x8 (wrap64 (x9 + 1))) else (impl_countModels.l0 k x0 x1 x5 x8 (wrap64 (x9 + 1)))))) else (some x5)
def impl_countModels.f (k : Nat) (a0 : Int) (l1 : List (List Int)) : Option (Int) := if 0 ≤ a0 then (impl_countModels.l0 k a0 l1 0 (shl .i64 1 a0) 0) else (none)
theorem impl_countModels.mono_l : ∀ k, (∀ y0 y1 y2 y3 y4, LeO (impl_countModels.l0 k y0 y1 y2 y3 y4) (impl_countModels.l0 (k + 1) y0 y1 y2 y3 y4))
  | 0 => fun _ _ _ _ _ r h => by simp [impl_countModels.l0] at h
  | k + 1 => by
    have ih0 := impl_countModels.mono_l k
    · intro y0 y1 y2 y3 y4
      unfold impl_countModels.l0
      repeat' first
      | (with_reducible exact ih0 _ _ _ _ _)
      | (with_reducible exact impl_model.mono _ _ _)
      | (with_reducible exact LeO.refl _)
      | (with_reducible exact LeO.none _)
      | (with_reducible refine LeO.ite ?_ ?_)
      | (with_reducible refine LeO.bind ?_ (fun _ => ?_))
      | exact ih0 _ _ _ _ _
      | exact impl_model.mono _ _ _
      | exact LeO.none _
      | refine LeO.ite ?_ ?_
      | refine LeO.bind ?_ (fun _ => ?_)
theorem impl_countModels.mono : ∀ a0 a1 k, LeO (impl_countModels.f k a0 a1) (impl_countModels.f (k + 1) a0 a1) := by
  intro a0 a1 k
  have ih0 := impl_countModels.mono_l k
  unfold impl_countModels.f
  repeat' first
      | (with_reducible exact ih0 _ _ _ _ _)
      | (with_reducible exact impl_model.mono _ _ _)
      | (with_reducible exact LeO.refl _)
      | (with_reducible exact LeO.none _)
      | (with_reducible refine LeO.ite ?_ ?_)
      | (with_reducible refine LeO.bind ?_ (fun _ => ?_))
      | exact ih0 _ _ _ _ _
      | exact impl_model.mono _ _ _
      | exact LeO.none _
      | refine LeO.ite ?_ ?_
      | refine LeO.bind ?_ (fun _ => ?_)
set_option maxHeartbeats 8000000 in
set_option maxRecDepth 100000 in
theorem impl_countModels.calls (k : Nat) (a0 : Int) (A1 : Option Addr) (c1 : Nat) (l1 : List (List Int)) (r : Int) (w : World) (hr1 : Kd.C (Kd.slice 3 (Kd.int .i64)) w A1 l1.length l1) (hc1 : l1.length ≤ c1) (h : impl_countModels.f k a0 l1 = some r) :
    Calls Try.prog 33 #[.int .i64 a0, .slice A1 l1.length c1] w fun e w' => e = .returned (.int .i64 r) ∧ Below w.heap.size w w' := by
  have HR1 := Aside0.mk hr1
  have HC1 := Aside0.mk hc1
  clear hr1 hc1
  have HB := Aside0.mk (Below.refl w.heap.size w)
  have H : (if 0 ≤ a0 then (impl_countModels.l0 k a0 l1 0 (shl .i64 1 a0) 0) else (none)) = some r := h
  clear h
  by_cases c3 : 0 ≤ a0
  · rw [if_pos c3] at H
    have c3b0 := eq_true c3
    have c3b1 : decide (0 ≤ a0) = true := decide_eq_true c3
    clear c3
    obtain ⟨ji4, hji4⟩ : ∃ j_ : Int, (shl .i64 1 a0) = j_ := ⟨_, rfl⟩
    replace H : (impl_countModels.l0 k a0 l1 0 ji4 0) = some r := by first | (rw [hji4] at H; exact H) | (simp only [hji4] at H ⊢; exact H)
    have hji4_ : (IntKind.i64.wrap (1 * 2 ^ min a0.toNat 64)) = ji4 := hji4
    have hji4z : a0 ≤ 64 → (IntKind.i64.wrap (1 * 2 ^ a0.toNat)) = ji4 := shl_small hji4
    have hji4u : (IntKind.i64.wrap (2 ^ min a0.toNat 64)) = ji4 := by have h_ := hji4_; rw [Int.one_mul] at h_; exact h_
    have hji4v : a0 ≤ 64 → (IntKind.i64.wrap (2 ^ a0.toNat)) = ji4 := fun hle_ => by have h_ := hji4z hle_; rw [Int.one_mul] at h_; exact h_
    have hji4y : (wrap64 (1 * 2 ^ min a0.toNat 64)) = ji4 := (i64_w _).symm.trans hji4_
    have hji4x : a0 ≤ 64 → (wrap64 (1 * 2 ^ a0.toNat)) = ji4 := fun h_ => (i64_w _).symm.trans (hji4z h_)
    have H' := Aside0.mk H
    clear H
    go_enter Try.func33, Try.ntmps33
    go_wp2
    go_loopg [5, 9] k (fun kq v5 v9 w' => ∃ (x5_1 : Int) (x9_1 : Int), v5 = .int .i64 x5_1 ∧ v9 = .int .i64 x9_1 ∧ Aside0 (impl_countModels.l0 kq a0 l1 x5_1 ji4 x9_1 = some r) ∧ Aside0 (kq ≤ k) ∧ Aside0 (Below w.heap.size w w'))
    case atStart => exact ⟨(0), (0), (by first | rfl | (simp; done) | (simp [*]; done)), (by first | rfl | (simp; done) | (simp [*]; done)), H', ⟨Nat.le_refl _⟩, ⟨by repeat (first | (with_reducible first | exact HB.out | apply below_alloc | apply pw_below_drewN | apply below_drew1) | exact HB.out)⟩⟩
    case round =>
      clear H'
      try clear c1
      try clear p2
      try clear c3
      try clear c3b0
      try clear c3b1
      obtain ⟨x5_1, x9_1, rfl, rfl, HA, HK1, HB⟩ := hrel
      cases gk with
      | zero => exact absurd HA.out (by simp [impl_countModels.l0])
      | succ k1 =>
        have H := HA.out
        clear HA
        simp only [impl_countModels.l0] at H
        by_cases c5 : x9_1 < ji4
        · rw [if_pos c5] at H
          have c5b0 : decide (x9_1 < ji4) = true := decide_eq_true c5
          clear c5
          replace H := Option.bind_eq_some_iff.mp H
          obtain ⟨t163, A60, H⟩ := H
          replace H : ((impl_holds.f l1 t163).bind fun t166 => (if t166 = true then (impl_countModels.l0 k1 a0 l1 (wrap64 (x5_1 + 1)) ji4 (wrap64 (x9_1 + 1))) else (impl_countModels.l0 k1 a0 l1 x5_1 ji4 (wrap64 (x9_1 + 1))))) = some r := H
          have A6 := Aside0.mk A60
          clear A60
          replace H := Option.bind_eq_some_iff.mp H
          obtain ⟨t166, A70, H⟩ := H
          replace H : (if t166 = true then (impl_countModels.l0 k1 a0 l1 (wrap64 (x5_1 + 1)) ji4 (wrap64 (x9_1 + 1))) else (impl_countModels.l0 k1 a0 l1 x5_1 ji4 (wrap64 (x9_1 + 1)))) = some r := H
          have A7 := Aside0.mk A70
          clear A70
          by_cases c8 : t166 = true
          · subst c8
            have H1 : (impl_countModels.l0 k1 a0 l1 (wrap64 (x5_1 + 1)) ji4 (wrap64 (x9_1 + 1))) = some r := by rw [if_pos rfl] at H; exact H
            clear H
            have H := H1
            clear H1
            have H' := Aside0.mk H
            clear H
            go_wp2_with (first | ((with_reducible refine gate_callee (f := 46) rfl ?_); refine goesL_ (some 15) rfl rfl Try.func46 (by kernel_rfl) rfl #[.int .i64 a0, .int .i64 x9_1] rfl (by (try simp only [List.map_toArray, List.map_cons, List.map_nil]); first | done | rfl | (simp only [List.length_drop, List.length_take]; rfl)) ?_; (with_reducible refine (impl_model.calls k1 a0 x9_1 t163 _ A6.out).mono ?_); rintro e w9 ⟨v164, rfl, ho0, hb⟩; refine ⟨_, rfl, ?_⟩; have n0_ := Aside0.mk (Kd.R_lower ho0 (below_size (by repeat (first | (with_reducible first | exact HB.out | apply below_alloc | apply pw_below_drewN | apply below_drew1) | exact HB.out)))); have n1_ := Aside0.mk (below_step (by repeat (first | (with_reducible first | exact HB.out | apply below_alloc | apply pw_below_drewN | apply below_drew1) | exact HB.out)) hb); clear HB; have HO165 := n0_; have HB := n1_; clear n0_ n1_; (try clear hb); (try clear hb2); (try clear hk); (try clear hi); (try clear ho0); obtain ⟨Ao10, co10, eo10⟩ := Kd.R_slice HO165.out; subst eo10) | ((with_reducible refine gate_callee (f := 45) rfl ?_); refine goesL_ (some 16) rfl rfl Try.func45 (by kernel_rfl) rfl #[.slice A1 l1.length c1, .slice Ao10 t163.length co10] rfl (by (try simp only [List.map_toArray, List.map_cons, List.map_nil]); first | done | rfl | (simp only [List.length_drop, List.length_take]; rfl)) ?_; (with_reducible refine (impl_holds.calls _ _ l1 _ _ t163 true _ ?side1 ?side2 ?side3 ?side4 A7.out).mono ?_); (case side1 => repeat (first | exact (Kd.C_below HR1.out HB.out) | (with_reducible refine Kd.C_alloc ?_ _) | (with_reducible refine Kd.C_drewN ?_ _) | (with_reducible refine Kd.C_drew ?_))); (case side2 => exact HC1.out); (case side3 => repeat (first | exact (Kd.R_reads' HO165.out).2.2 | (with_reducible refine Kd.C_alloc ?_ _) | (with_reducible refine Kd.C_drewN ?_ _) | (with_reducible refine Kd.C_drew ?_))); (case side4 => exact (Kd.R_reads' HO165.out).2.1); rintro e w11 ⟨rfl, hb⟩; refine ⟨_, rfl, ?_⟩; have n0_ := Aside0.mk (Kd.R_below (by (with_reducible repeat (first | apply Kd.R_alloc | apply Kd.R_drewN | apply Kd.R_drew)); exact HO165.out) hb); have n1_ := Aside0.mk (below_step (by repeat (first | (with_reducible first | exact HB.out | apply below_alloc | apply pw_below_drewN | apply below_drew1) | exact HB.out)) hb); clear HO165; clear HB; have HO165 := n0_; have HB := n1_; clear n0_ n1_; (try clear hb); (try clear hb2); (try clear hk); (try clear hi)))
            go_roundg k1
            case measure => have := HK1.out; omega
            case rel => exact ⟨(wrap64 (x5_1 + 1)), (wrap64 (x9_1 + 1)), (by first | rfl | (simp; done) | (simp [*]; done)), (by first | rfl | (simp; done) | (simp [*]; done)), H', ⟨by have := HK1.out; omega⟩, ⟨by repeat (first | (with_reducible first | exact HB.out | apply below_alloc | apply pw_below_drewN | apply below_drew1) | exact HB.out)⟩⟩
          · replace c8 := Bool.eq_false_iff.mpr c8
            subst c8
            have H1 : (impl_countModels.l0 k1 a0 l1 x5_1 ji4 (wrap64 (x9_1 + 1))) = some r := by rw [if_neg (show ¬ (false = true) by decide)] at H; exact H
            clear H
            have H := H1
            clear H1
            have H' := Aside0.mk H
            clear H
            go_wp2_with (first | ((with_reducible refine gate_callee (f := 46) rfl ?_); refine goesL_ (some 15) rfl rfl Try.func46 (by kernel_rfl) rfl #[.int .i64 a0, .int .i64 x9_1] rfl (by (try simp only [List.map_toArray, List.map_cons, List.map_nil]); first | done | rfl | (simp only [List.length_drop, List.length_take]; rfl)) ?_; (with_reducible refine (impl_model.calls k1 a0 x9_1 t163 _ A6.out).mono ?_); rintro e w12 ⟨v164, rfl, ho0, hb⟩; refine ⟨_, rfl, ?_⟩; have n0_ := Aside0.mk (Kd.R_lower ho0 (below_size (by repeat (first | (with_reducible first | exact HB.out | apply below_alloc | apply pw_below_drewN | apply below_drew1) | exact HB.out)))); have n1_ := Aside0.mk (below_step (by repeat (first | (with_reducible first | exact HB.out | apply below_alloc | apply pw_below_drewN | apply below_drew1) | exact HB.out)) hb); clear HB; have HO165 := n0_; have HB := n1_; clear n0_ n1_; (try clear hb); (try clear hb2); (try clear hk); (try clear hi); (try clear ho0); obtain ⟨Ao13, co13, eo13⟩ := Kd.R_slice HO165.out; subst eo13) | ((with_reducible refine gate_callee (f := 45) rfl ?_); refine goesL_ (some 16) rfl rfl Try.func45 (by kernel_rfl) rfl #[.slice A1 l1.length c1, .slice Ao13 t163.length co13] rfl (by (try simp only [List.map_toArray, List.map_cons, List.map_nil]); first | done | rfl | (simp only [List.length_drop, List.length_take]; rfl)) ?_; (with_reducible refine (impl_holds.calls _ _ l1 _ _ t163 false _ ?side1 ?side2 ?side3 ?side4 A7.out).mono ?_); (case side1 => repeat (first | exact (Kd.C_below HR1.out HB.out) | (with_reducible refine Kd.C_alloc ?_ _) | (with_reducible refine Kd.C_drewN ?_ _) | (with_reducible refine Kd.C_drew ?_))); (case side2 => exact HC1.out); (case side3 => repeat (first | exact (Kd.R_reads' HO165.out).2.2 | (with_reducible refine Kd.C_alloc ?_ _) | (with_reducible refine Kd.C_drewN ?_ _) | (with_reducible refine Kd.C_drew ?_))); (case side4 => exact (Kd.R_reads' HO165.out).2.1); rintro e w14 ⟨rfl, hb⟩; refine ⟨_, rfl, ?_⟩; have n0_ := Aside0.mk (Kd.R_below (by (with_reducible repeat (first | apply Kd.R_alloc | apply Kd.R_drewN | apply Kd.R_drew)); exact HO165.out) hb); have n1_ := Aside0.mk (below_step (by repeat (first | (with_reducible first | exact HB.out | apply below_alloc | apply pw_below_drewN | apply below_drew1) | exact HB.out)) hb); clear HO165; clear HB; have HO165 := n0_; have HB := n1_; clear n0_ n1_; (try clear hb); (try clear hb2); (try clear hk); (try clear hi)))
            go_roundg k1
            case measure => have := HK1.out; omega
            case rel => exact ⟨(x5_1), (wrap64 (x9_1 + 1)), (by first | rfl | (simp; done) | (simp [*]; done)), (by first | rfl | (simp; done) | (simp [*]; done)), H', ⟨by have := HK1.out; omega⟩, ⟨by repeat (first | (with_reducible first | exact HB.out | apply below_alloc | apply pw_below_drewN | apply below_drew1) | exact HB.out)⟩⟩
        · rw [if_neg c5] at H
          have c5b0 : decide (x9_1 < ji4) = false := decide_eq_false c5
          clear c5
          obtain rfl := Option.some.inj H
          go_wp2
          go_ret
          exact ⟨by first | rfl | (simp [errW_none, errW_some] <;> rfl) | (simp only [← hji4]; first | rfl | (simp [errW_none, errW_some] <;> rfl)) | (simp [*, errW_none, errW_some] <;> rfl), by repeat (first | (with_reducible first | exact HB.out | apply below_alloc | apply pw_below_drewN | apply below_drew1) | exact HB.out)⟩
  · rw [if_neg c3] at H
    exact absurd H (by simp)

end Go.Proofs.Ytlehkmadphmfdaa.PFnExactSameModels
