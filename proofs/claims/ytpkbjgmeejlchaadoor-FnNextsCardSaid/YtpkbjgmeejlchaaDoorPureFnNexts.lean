/- The pure statement of the law FnNexts: the printed functions of the program and of the reference give the same answers, at every input that the statement's guards let in. -/
import Derived.Test.YtpkbjgmeejlchaaDoorPFnNextsx11
namespace Go.Proofs.YtpkbjgmeejlchaaDoor.Pure
open Go.RowKit Go.Proofs.YtpkbjgmeejlchaaDoor.PFnNexts Go.Proofs.YtpkbjgmeejlchaaDoorW.PrintWords Go.Proofs.YtpkbjgmeejlchaaDoorW.PrintLast Go.Proofs.YtpkbjgmeejlchaaDoorW.PrintMore
set_option linter.unusedSimpArgs false
set_option linter.unusedVariables false
theorem w64 {x : Int} (h0 : -9223372036854775808 ≤ x) (h1 : x ≤ 9223372036854775807) : wrap64 x = x := by
  unfold wrap64
  omega
theorem rd_nat (l : List Int) (i : Nat) (h : i < l.length) : rd l (i : Int) = l[i] := by
  unfold rd
  rw [List.getD_eq_getElem?_getD, show ((i : Int).toNat) = i by omega, List.getElem?_eq_getElem h]
  rfl
theorem next64 {i : Nat} (h : i ≤ 4611686018427387904) : wrap64 ((i : Int) + 1) = ((i + 1 : Nat) : Int) := by
  rw [w64 (by omega) (by omega)]
  omega

def U8 (c : List Int) : Prop := ∀ x ∈ c, 0 ≤ x ∧ x ≤ 255
theorem u8_of {c : List Int} (h : ∀ x ∈ c, (Lit.int .u8 x).wf = true) : U8 c := fun x hx => by
  have := h x hx
  simp [Lit.wf, IntKind.min, IntKind.max, IntKind.signed, IntKind.bits] at this
  omega
theorem u64_range (x : Int) : 0 ≤ IntKind.u64.wrap x ∧ IntKind.u64.wrap x < 18446744073709551616 := by
  rw [show IntKind.u64.wrap x = x % 18446744073709551616 by simp [IntKind.wrap, IntKind.bits, IntKind.signed]]
  omega
theorem and255 {x : Int} (h0 : 0 ≤ x) (h1 : x < 18446744073709551616) : 0 ≤ Go.bits .and .u64 x 255 ∧ Go.bits .and .u64 x 255 ≤ 255 := by
  obtain ⟨n, rfl⟩ : ∃ n : Nat, x = n := ⟨x.toNat, by omega⟩
  have e : Go.bits .and .u64 (n : Int) 255 = ((n &&& 255 : Nat) : Int) := bits_and_u64_nat n 255 (by omega) (by omega)
  have : n &&& 255 ≤ 255 := Nat.and_le_right
  rw [e]
  omega
theorem next_ok {c : List Int} (hc : U8 c) {p : Int} (s : Int) (h0 : 0 ≤ p) (h1 : p ≤ 1000000000000) : ∃ b s', spec_l1Cur_next.f c p s = some (b, p + 1, s') ∧ 0 ≤ b ∧ b ≤ 255 := by
  unfold spec_l1Cur_next.f
  rw [w64 (x := p + 1) (by omega) (by omega)]
  by_cases h : p < (c.length : Int)
  · have hb : 0 ≤ rd c p ∧ rd c p ≤ 255 := by
      obtain ⟨i, rfl⟩ : ∃ i : Nat, p = i := ⟨p.toNat, by omega⟩
      rw [rd_nat c i (by omega)]
      exact hc _ (List.getElem_mem _)
    rw [if_pos h, if_pos h0, if_pos (by omega), w64 (x := rd c p) (by omega) (by omega)]
    exact ⟨_, _, rfl, hb.1, hb.2⟩
  · rw [if_neg h, if_neg (by omega)]
    have hr := u64_range (IntKind.u64.wrap (IntKind.u64.wrap (s * 6364136223846793005) + 0) + 1442695040888963407)
    have hb := and255 (x := IntKind.u64.wrap (IntKind.u64.wrap (IntKind.u64.wrap (s * 6364136223846793005) + 0) + 1442695040888963407) / 1099511627776) (by omega) (by omega)
    rw [w64 (x := Go.bits .and .u64 _ 255) (by omega) (by omega)]
    exact ⟨_, _, rfl, hb.1, hb.2⟩
theorem pick_ok {c : List Int} (hc : U8 c) {p : Int} (s : Int) (n : Int) (h0 : 0 ≤ p) (h1 : p ≤ 999999999000) : ∃ r p' s', spec_l1Cur_pick.f c p s n = some (r, p', s') ∧ p ≤ p' ∧ p' ≤ p + 2 ∧ 0 ≤ r ∧ (1 ≤ n → r < n) ∧ (n ≤ 1 → r = 0) := by
  unfold spec_l1Cur_pick.f
  by_cases h : n ≤ 1
  · rw [if_pos h]
    exact ⟨0, p, s, rfl, by omega, by omega, by omega, by omega, by omega⟩
  · rw [if_neg h]
    obtain ⟨b, s1, e1, b0, b1⟩ := next_ok hc s h0 (by omega)
    rw [e1]
    simp only [Option.bind_some]
    have ht : ∀ x : Int, 0 ≤ x → 0 ≤ Int.tmod x n ∧ Int.tmod x n < n := fun x hx => by
      rw [Int.tmod_eq_emod_of_nonneg hx]
      exact ⟨Int.emod_nonneg _ (by omega), Int.emod_lt_of_pos _ (by omega)⟩
    by_cases h2 : n > 200
    · rw [if_pos h2]
      obtain ⟨d, s2, e2, d0, d1⟩ := next_ok hc s1 (p := p + 1) (by omega) (by omega)
      rw [e2]
      simp only [Option.bind_some]
      rw [if_neg (by omega), w64 (x := b * 256) (by omega) (by omega), w64 (by omega) (by omega)]
      obtain ⟨a1, a2⟩ := ht (b * 256 + d) (by omega)
      exact ⟨_, _, _, rfl, by omega, by omega, a1, fun _ => a2, by omega⟩
    · rw [if_neg h2, if_neg (by omega)]
      obtain ⟨a1, a2⟩ := ht b b0
      exact ⟨_, _, _, rfl, by omega, by omega, a1, fun _ => a2, by omega⟩
theorem among_ok {c : List Int} (hc : U8 c) {p : Int} (s : Int) (l : List Int) (hl : 0 < l.length) (h0 : 0 ≤ p) (h1 : p ≤ 999999999000) : ∃ r p' s', spec_l1Cur_among.f c p s l = some (r, p', s') ∧ p ≤ p' ∧ p' ≤ p + 2 ∧ r ∈ l := by
  unfold spec_l1Cur_among.f
  obtain ⟨r, p', s', e, a, b, r0, r1, _⟩ := pick_ok hc s (l.length : Int) h0 h1
  have hr := r1 (by omega)
  rw [e]
  simp only [Option.bind_some]
  rw [if_pos r0, if_pos hr]
  obtain ⟨i, rfl⟩ : ∃ i : Nat, r = i := ⟨r.toNat, by omega⟩
  rw [rd_nat l i (by omega)]
  exact ⟨_, _, _, rfl, a, b, List.getElem_mem _⟩
theorem one_ok {c : List Int} (hc : U8 c) {p : Int} (s : Int) (n : Int) (h0 : 0 ≤ p) (h1 : p ≤ 999999999000) : ∃ r p' s', spec_l1Cur_one.f c p s n = some (r, p', s') ∧ p ≤ p' ∧ p' ≤ p + 2 := by
  unfold spec_l1Cur_one.f
  obtain ⟨r, p', s', e, a, b, _, _, _⟩ := pick_ok hc s n h0 h1
  rw [e]
  exact ⟨_, _, _, rfl, a, b⟩

set_option linter.unusedSimpArgs false
set_option linter.unusedVariables false
theorem rd26_nat (l : List S31) (i : Nat) (h : i < l.length) : rd_T31 l (i : Int) = l[i] := by
  unfold rd_T31
  rw [List.getD_eq_getElem?_getD, show ((i : Int).toNat) = i by omega, List.getElem?_eq_getElem h]
  rfl
theorem dropS_at (l : List S31) (i : Nat) (h : i < l.length) : l.drop i = l[i] :: l.drop (i + 1) := List.drop_eq_getElem_cons h

theorem dstep_j7 {c : List Int} (hc : U8 c) (x : Int) (b : Bool) (a0 a1 a2 a3 a4 a5 s : Int) {p : Int} (h0 : 0 ≤ p) (h1 : p ≤ 999999998000) (k : Nat) (hk : 1 ≤ k) : ∃ b0 b1 b2 b3 b4 b5 p' s', spec_l1Cur_step.j7 k x b c p s a0 a1 a2 a3 a4 a5 = some (b0, b1, b2, b3, b4, b5, p', s') ∧ p ≤ p' ∧ p' ≤ p + 2 := by
  obtain ⟨k, rfl⟩ : ∃ m, k = m + 1 := ⟨k - 1, by omega⟩
  simp only [spec_l1Cur_step.j7]
  cases b with
  | false =>
    rw [if_neg Bool.false_ne_true]
    exact ⟨_, _, _, _, _, _, _, _, rfl, by omega, by omega⟩
  | true =>
    have : ∃ y, spec_l1Least.f 4 (wrap64 (x - 1)) = some y := by
      unfold spec_l1Least.f
      split <;> exact ⟨_, rfl⟩
    obtain ⟨y, hy⟩ := this
    obtain ⟨r, p1, s1, e, a, b, _⟩ := pick_ok hc s y h0 (by omega)
    rw [if_pos rfl, hy]
    simp only [Option.bind_some]
    rw [e]
    exact ⟨_, _, _, _, _, _, _, _, rfl, a, b⟩
theorem dstep_j6 {c : List Int} (hc : U8 c) (x y : Int) (b : Bool) (a0 a1 a2 a3 a4 a5 s : Int) {p : Int} (h0 : 0 ≤ p) (h1 : p ≤ 999999998000) (k : Nat) (hk : 2 ≤ k) : ∃ b0 b1 b2 b3 b4 b5 p' s', spec_l1Cur_step.j6 k x y b c p s a0 a1 a2 a3 a4 a5 = some (b0, b1, b2, b3, b4, b5, p', s') ∧ p ≤ p' ∧ p' ≤ p + 2 := by
  obtain ⟨k, rfl⟩ : ∃ m, k = m + 1 := ⟨k - 1, by omega⟩
  simp only [spec_l1Cur_step.j6]
  cases b with
  | true =>
    obtain ⟨r, p1, s1, e, a, b, _⟩ := pick_ok hc s 18 h0 (by omega)
    rw [if_pos rfl, e]
    exact ⟨_, _, _, _, _, _, _, _, rfl, a, b⟩
  | false =>
    rw [if_neg Bool.false_ne_true]
    by_cases c8 : y = 8
    · rw [if_pos c8]
      exact dstep_j7 hc x _ a0 a1 a2 a3 a4 a5 s h0 h1 k (by omega)
    · rw [if_neg c8]
      by_cases c9 : y = 9
      · rw [if_pos c9]
        exact dstep_j7 hc x _ a0 a1 a2 a3 a4 a5 s h0 h1 k (by omega)
      · rw [if_neg c9]
        exact dstep_j7 hc x _ a0 a1 a2 a3 a4 a5 s h0 h1 k (by omega)
theorem dstep_j5 {c : List Int} (hc : U8 c) (x y : Int) (b : Bool) (a0 a1 a2 a3 a4 a5 s : Int) {p : Int} (h0 : 0 ≤ p) (h1 : p ≤ 999999990000) (k : Nat) (hk : 3 ≤ k) : ∃ b0 b1 b2 b3 b4 b5 p' s', spec_l1Cur_step.j5 k x y b c p s a0 a1 a2 a3 a4 a5 = some (b0, b1, b2, b3, b4, b5, p', s') ∧ p ≤ p' ∧ p' ≤ p + 6 := by
  obtain ⟨k, rfl⟩ : ∃ m, k = m + 1 := ⟨k - 1, by omega⟩
  have h6 : ∀ b, ∃ b0 b1 b2 b3 b4 b5 p' s', spec_l1Cur_step.j6 k x y b c p s a0 a1 a2 a3 a4 a5 = some (b0, b1, b2, b3, b4, b5, p', s') ∧ p ≤ p' ∧ p' ≤ p + 6 := fun b => by
    obtain ⟨b0, b1, b2, b3, b4, b5, p', s', e, a, d⟩ := dstep_j6 hc x y b a0 a1 a2 a3 a4 a5 s h0 (by omega) k (by omega)
    exact ⟨b0, b1, b2, b3, b4, b5, p', s', e, a, by omega⟩
  simp only [spec_l1Cur_step.j5]
  cases b with
  | true =>
    obtain ⟨r, p1, s1, e, a, b, _⟩ := pick_ok hc s 20 h0 (by omega)
    obtain ⟨r2, p2, s2, e2, a2', b2', _⟩ := among_ok hc s1 [0, 1, 3, 7, 255, r] (p := p1) (by simp) (by omega) (by omega)
    rw [if_pos rfl, e]
    simp only [Option.bind_some]
    rw [e2]
    exact ⟨_, _, _, _, _, _, _, _, rfl, (by omega : p ≤ p2), (by omega : p2 ≤ p + 6)⟩
  | false =>
    rw [if_neg Bool.false_ne_true]
    by_cases c4 : y = 4
    · rw [if_pos c4]
      obtain ⟨r, p1, s1, e, a, b, _⟩ := pick_ok hc s 256 h0 (by omega)
      obtain ⟨r2, p2, s2, e2, a2', b2', _⟩ := pick_ok hc s1 250 (p := p1) (by omega) (by omega)
      obtain ⟨r3, p3, s3, e3, a3', b3', _⟩ := among_ok hc s2 [256, 65535, wrap64 (256 + (wrap64 (r * r2)))] (p := p2) (by simp) (by omega) (by omega)
      rw [e]
      simp only [Option.bind_some]
      rw [e2]
      simp only [Option.bind_some]
      rw [e3]
      exact ⟨_, _, _, _, _, _, _, _, rfl, (by omega : p ≤ p3), (by omega : p3 ≤ p + 6)⟩
    · rw [if_neg c4]
      by_cases c5 : y = 5
      · rw [if_pos c5]
        obtain ⟨r, p1, s1, e, a, b, _⟩ := pick_ok hc s 5 h0 (by omega)
        rw [e]
        exact ⟨_, _, _, _, _, _, _, _, rfl, (by omega : p ≤ p1), (by omega : p1 ≤ p + 6)⟩
      · rw [if_neg c5]
        by_cases c6 : y = 6
        · rw [if_pos c6]
          exact h6 _
        · rw [if_neg c6]
          exact h6 _
theorem dstep_j4 {c : List Int} (hc : U8 c) (x a0 a1 a2 a3 a4 a5 s : Int) {p : Int} (h0 : 0 ≤ p) (h1 : p ≤ 999999990000) (k : Nat) (hk : 4 ≤ k) : ∃ b0 b1 b2 b3 b4 b5 p' s', spec_l1Cur_step.j4 k x c p s a0 a1 a2 a3 a4 a5 = some (b0, b1, b2, b3, b4, b5, p', s') ∧ p ≤ p' ∧ p' ≤ p + 6 := by
  obtain ⟨k, rfl⟩ : ∃ m, k = m + 1 := ⟨k - 1, by omega⟩
  simp only [spec_l1Cur_step.j4]
  by_cases c2 : a0 = 2
  · rw [if_pos c2]
    exact dstep_j5 hc x _ _ a0 a1 a2 a3 a4 a5 s h0 h1 k (by omega)
  · rw [if_neg c2]
    exact dstep_j5 hc x _ _ a0 a1 a2 a3 a4 a5 s h0 h1 k (by omega)
theorem dstep_j3 {c : List Int} (hc : U8 c) (x a0 a1 a2 a3 a4 a5 s : Int) {p : Int} (h0 : 0 ≤ p) (h1 : p ≤ 999999980000) (k : Nat) (hk : 5 ≤ k) : ∃ b0 b1 b2 b3 b4 b5 p' s', spec_l1Cur_step.j3 k x c p s a0 a1 a2 a3 a4 a5 = some (b0, b1, b2, b3, b4, b5, p', s') ∧ p ≤ p' ∧ p' ≤ p + 8 := by
  obtain ⟨k, rfl⟩ : ∃ m, k = m + 1 := ⟨k - 1, by omega⟩
  have h4 : ∀ (a1 : Int) (q s : Int), p ≤ q → q ≤ p + 2 → ∃ b0 b1 b2 b3 b4 b5 p' s', spec_l1Cur_step.j4 k x c q s a0 a1 a2 a3 a4 a5 = some (b0, b1, b2, b3, b4, b5, p', s') ∧ p ≤ p' ∧ p' ≤ p + 8 := fun a1 q s g1 g2 => by
    obtain ⟨b0, b1, b2, b3, b4, b5, p', s', e, a, d⟩ := dstep_j4 hc x a0 a1 a2 a3 a4 a5 s (p := q) (by omega) (by omega) k (by omega)
    exact ⟨b0, b1, b2, b3, b4, b5, p', s', e, by omega, by omega⟩
  obtain ⟨r, p1, s1, e, a, b, _⟩ := pick_ok hc s 10 h0 (by omega)
  simp only [spec_l1Cur_step.j3]
  rw [e]
  simp only [Option.bind_some]
  by_cases c1 : a0 = 1
  · rw [if_pos c1]
    exact h4 _ _ _ a b
  · rw [if_neg c1]
    by_cases c2 : a0 = 2
    · rw [if_pos c2]
      exact h4 _ _ _ a b
    · rw [if_neg c2]
      exact h4 _ _ _ (by omega) (by omega)
theorem dstep_j2 {c : List Int} (hc : U8 c) (x a0 a1 a2 a3 a4 a5 s : Int) {p : Int} (h0 : 0 ≤ p) (h1 : p ≤ 999999970000) (k : Nat) (hk : 6 ≤ k) : ∃ b0 b1 b2 b3 b4 b5 p' s', spec_l1Cur_step.j2 k x c p s a0 a1 a2 a3 a4 a5 = some (b0, b1, b2, b3, b4, b5, p', s') ∧ p ≤ p' ∧ p' ≤ p + 10 := by
  obtain ⟨k, rfl⟩ : ∃ m, k = m + 1 := ⟨k - 1, by omega⟩
  have h4 : ∀ (a2 : Int) (q s : Int), p ≤ q → q ≤ p + 2 → ∃ b0 b1 b2 b3 b4 b5 p' s', spec_l1Cur_step.j3 k x c q s a0 a1 a2 a3 a4 a5 = some (b0, b1, b2, b3, b4, b5, p', s') ∧ p ≤ p' ∧ p' ≤ p + 10 := fun a2 q s g1 g2 => by
    obtain ⟨b0, b1, b2, b3, b4, b5, p', s', e, a, d⟩ := dstep_j3 hc x a0 a1 a2 a3 a4 a5 s (p := q) (by omega) (by omega) k (by omega)
    exact ⟨b0, b1, b2, b3, b4, b5, p', s', e, by omega, by omega⟩
  obtain ⟨r, p1, s1, e, a, b, _⟩ := pick_ok hc s 3 h0 (by omega)
  simp only [spec_l1Cur_step.j2]
  rw [e]
  simp only [Option.bind_some]
  by_cases c1 : a0 = 8
  · rw [if_pos c1]
    exact h4 _ _ _ (by omega) (by omega)
  · rw [if_neg c1]
    exact h4 _ _ _ a b
theorem dstep_j1 {c : List Int} (hc : U8 c) (x a0 a1 a2 a3 a4 a5 s : Int) {p : Int} (h0 : 0 ≤ p) (h1 : p ≤ 999999960000) (k : Nat) (hk : 7 ≤ k) : ∃ b0 b1 b2 b3 b4 b5 p' s', spec_l1Cur_step.j1 k x c p s a0 a1 a2 a3 a4 a5 = some (b0, b1, b2, b3, b4, b5, p', s') ∧ p ≤ p' ∧ p' ≤ p + 12 := by
  obtain ⟨k, rfl⟩ : ∃ m, k = m + 1 := ⟨k - 1, by omega⟩
  have h4 : ∀ (a3 : Int) (q s : Int), p ≤ q → q ≤ p + 2 → ∃ b0 b1 b2 b3 b4 b5 p' s', spec_l1Cur_step.j2 k x c q s a0 a1 a2 a3 a4 a5 = some (b0, b1, b2, b3, b4, b5, p', s') ∧ p ≤ p' ∧ p' ≤ p + 12 := fun a3 q s g1 g2 => by
    obtain ⟨b0, b1, b2, b3, b4, b5, p', s', e, a, d⟩ := dstep_j2 hc x a0 a1 a2 a3 a4 a5 s (p := q) (by omega) (by omega) k (by omega)
    exact ⟨b0, b1, b2, b3, b4, b5, p', s', e, by omega, by omega⟩
  obtain ⟨r, p1, s1, e, a, b, _⟩ := pick_ok hc s 3 h0 (by omega)
  simp only [spec_l1Cur_step.j1]
  rw [e]
  simp only [Option.bind_some]
  by_cases c1 : a0 = 1
  · rw [if_pos c1]
    exact h4 _ _ _ a b
  rw [if_neg c1]
  by_cases c2 : a0 = 5
  · rw [if_pos c2]
    exact h4 _ _ _ a b
  rw [if_neg c2]
  by_cases c3 : a0 = 9
  · rw [if_pos c3]
    exact h4 _ _ _ a b
  rw [if_neg c3]
  by_cases c4 : a0 = 10
  · rw [if_pos c4]
    exact h4 _ _ _ a b
  rw [if_neg c4]
  exact h4 _ _ _ (by omega) (by omega)
theorem dstep_ok {c : List Int} (hc : U8 c) (x s : Int) {p : Int} (h0 : 0 ≤ p) (h1 : p ≤ 999999950000) (k : Nat) (hk : 8 ≤ k) : ∃ b0 b1 b2 b3 b4 b5 p' s', spec_l1Cur_step.f k c p s x = some (b0, b1, b2, b3, b4, b5, p', s') ∧ p ≤ p' ∧ p' ≤ p + 14 := by
  obtain ⟨k, rfl⟩ : ∃ m, k = m + 1 := ⟨k - 1, by omega⟩
  obtain ⟨r, p1, s1, e, a, b, _⟩ := among_ok hc s [1, 1, 2, 2, 2, 3, 3, 4, 5, 5, 6, 7, 7, 8, 9, 10, 10] (p := p) (by simp) h0 (by omega)
  have hj : ∀ y : Bool, ∃ b0 b1 b2 b3 b4 b5 p' s', spec_l1Cur_step.j0 (k + 1) x y c p1 s1 r 0 0 0 0 0 = some (b0, b1, b2, b3, b4, b5, p', s') ∧ p ≤ p' ∧ p' ≤ p + 14 := by
    intro y
    have h4 : ∀ a0 : Int, ∃ b0 b1 b2 b3 b4 b5 p' s', spec_l1Cur_step.j1 k x c p1 s1 a0 0 0 0 0 0 = some (b0, b1, b2, b3, b4, b5, p', s') ∧ p ≤ p' ∧ p' ≤ p + 14 := fun a0 => by
      obtain ⟨b0, b1, b2, b3, b4, b5, p', s', e, a, d⟩ := dstep_j1 hc x a0 0 0 0 0 0 s1 (p := p1) (by omega) (by omega) k (by omega)
      exact ⟨b0, b1, b2, b3, b4, b5, p', s', e, by omega, by omega⟩
    simp only [spec_l1Cur_step.j0]
    cases y with
    | true =>
      rw [if_pos rfl]
      exact h4 _
    | false =>
      rw [if_neg Bool.false_ne_true]
      exact h4 _
  unfold spec_l1Cur_step.f
  rw [e]
  simp only [Option.bind_some]
  by_cases c8 : r ≥ 8
  · rw [if_pos c8]
    exact hj _
  · rw [if_neg c8]
    exact hj _
theorem dprog_l0 {c : List Int} (hc : U8 c) (N : Nat) (hN : N ≤ 100) : ∀ (n i : Nat) (k : Nat) (y : List S31) (p s : Int), i + n = N → y.length = i → 0 ≤ p → p + 14 * (n : Int) ≤ 999999900000 → n + 10 ≤ k → ∃ l p' s', spec_l1Cur_program.l0 k y (N : Int) (i : Int) c p s = some (l, p', s') ∧ l.length = N + 1 ∧ p ≤ p' ∧ p' ≤ p + 14 * (n : Int) + 20
  | 0, i, k, y, p, s, h1, h2, h0, h3, hk => by
    obtain ⟨k, rfl⟩ : ∃ m, k = m + 1 := ⟨k - 1, by omega⟩
    simp only [spec_l1Cur_program.l0]
    rw [if_neg (by omega), if_pos (by omega)]
    obtain ⟨b, p1, s1, e1, a1, b1⟩ := one_ok hc s 30 (p := p) h0 (by omega)
    have hy : (y ++ [(⟨11, 0, 0, 0, 0, 0⟩ : S31)]).length = N + 1 := by simp; omega
    simp only [Option.bind_some]
    rw [e1]
    simp only [Option.bind_some]
    cases b with
    | false =>
      rw [if_neg Bool.false_ne_true]
      exact ⟨_, _, _, rfl, hy, (by omega : p ≤ p1), (by omega : p1 ≤ p + 14 * ((0 : Nat) : Int) + 20)⟩
    | true =>
      rw [if_pos rfl]
      obtain ⟨r2, p2, s2, e2, a2, b2, c2, d2, _⟩ := pick_ok hc s1 ((y ++ [(⟨11, 0, 0, 0, 0, 0⟩ : S31)]).length : Int) (p := p1) (by omega) (by omega)
      obtain ⟨r3, p3, s3, e3, a3, b3, _⟩ := pick_ok hc s2 13 (p := p2) (by omega) (by omega)
      obtain ⟨r4, p4, s4, e4, a4, b4, _⟩ := pick_ok hc s3 3 (p := p3) (by omega) (by omega)
      obtain ⟨r5, p5, s5, e5, a5, b5, _⟩ := pick_ok hc s4 8 (p := p4) (by omega) (by omega)
      obtain ⟨r6, p6, s6, e6, a6, b6, _⟩ := among_ok hc s5 [0, 255, 256, 65536] (p := p5) (by simp) (by omega) (by omega)
      obtain ⟨r7, p7, s7, e7, a7, b7, _⟩ := pick_ok hc s6 4 (p := p6) (by omega) (by omega)
      have d2' := d2 (by omega)
      rw [e2]
      simp only [Option.bind_some]
      rw [e3]
      simp only [Option.bind_some]
      rw [e4]
      simp only [Option.bind_some]
      rw [e5]
      simp only [Option.bind_some]
      rw [e6]
      simp only [Option.bind_some]
      rw [e7]
      simp only [Option.bind_some]
      rw [if_pos c2, if_pos d2']
      exact ⟨_, _, _, rfl, by rw [List.length_set]; exact hy, (by omega : p ≤ p7), (by omega : p7 ≤ p + 14 * ((0 : Nat) : Int) + 20)⟩
  | n + 1, i, k, y, p, s, h1, h2, h0, h3, hk => by
    obtain ⟨k, rfl⟩ : ∃ m, k = m + 1 := ⟨k - 1, by omega⟩
    simp only [spec_l1Cur_program.l0]
    rw [if_pos (by omega)]
    obtain ⟨q0, q1, q2, q3, q4, q5, p1, s1, e1, a1, b1⟩ := dstep_ok hc (wrap64 ((N : Int) - (i : Int))) s (p := p) h0 (by omega) k (by omega)
    rw [e1]
    simp only [Option.bind_some]
    rw [if_pos (by omega), next64 (by omega)]
    obtain ⟨l, p2, s2, e2, hl, a2, b2⟩ := dprog_l0 hc N hN n (i + 1) k (y ++ [(⟨q0, q1, q2, q3, q4, q5⟩ : S31)]) p1 s1 (by omega) (by simp; omega) (by omega) (by omega) (by omega)
    exact ⟨l, p2, s2, e2, hl, by omega, by omega⟩
theorem program_ok {c : List Int} (hc : U8 c) (s : Int) {p : Int} (h0 : 0 ≤ p) (h1 : p ≤ 999999800000) (k : Nat) (hk : 100 ≤ k) : ∃ l p' s', spec_l1Cur_program.f k c p s = some (l, p', s') ∧ l.length ≤ 20 ∧ 1 ≤ l.length ∧ p ≤ p' ∧ p' ≤ p + 500 := by
  unfold spec_l1Cur_program.f
  obtain ⟨n, p1, s1, e1, a1, b1, n0, n1, _⟩ := pick_ok hc s 12 h0 (by omega)
  replace n1 := n1 (by omega)
  obtain ⟨b, p2, s2, e2, a2, b2⟩ := one_ok hc s1 30 (p := p1) (by omega) (by omega)
  rw [e1]
  simp only [Option.bind_some]
  rw [e2]
  simp only [Option.bind_some]
  have hj : ∀ N : Nat, N ≤ 19 → ∃ l p' s', spec_l1Cur_program.j0 k [] (N : Int) c p2 s2 = some (l, p', s') ∧ l.length ≤ 20 ∧ 1 ≤ l.length ∧ p ≤ p' ∧ p' ≤ p + 500 := by
    intro N hN
    obtain ⟨k, rfl⟩ : ∃ m, k = m + 1 := ⟨k - 1, by omega⟩
    simp only [spec_l1Cur_program.j0]
    obtain ⟨l, p3, s3, e3, hl, a3, b3⟩ := dprog_l0 hc N (by omega) N 0 k [] p2 s2 (by omega) rfl (by omega) (by omega) (by omega)
    exact ⟨l, p3, s3, e3, by omega, by omega, by omega, by omega⟩
  cases b with
  | true =>
    rw [if_pos rfl]
    exact hj 19 (by omega)
  | false =>
    rw [if_neg Bool.false_ne_true]
    obtain ⟨m, rfl⟩ : ∃ m : Nat, n = m := ⟨n.toNat, by omega⟩
    exact hj m (by omega)

theorem one_digit (u : Nat) (h : u < 10) : strOfNums [(wrap64 (48 + (u : Int))) % 256] = ⟨[UInt8.ofNat (48 + u)].toArray⟩ := by
  rw [w64 (by omega) (by omega), show (48 + (u : Int)) % 256 = ((48 + u : Nat) : Int) by omega]
  rfl
theorem dec_len (u : Nat) : (Lib.decDigits u).length ≤ u + 1 := by
  induction u using Nat.strongRecOn with
  | _ u ih =>
    rw [Lib.decDigits]
    split
    · simp
    · have := ih (u / 10) (by omega)
      rw [List.length_append, List.length_singleton]
      omega
theorem num_val : ∀ (k u : Nat), u < k → u ≤ 100000 → spec_l1Num.f k (u : Int) = some ⟨(Lib.decDigits u).toArray⟩
  | 0, u, h, _ => by omega
  | k + 1, u, h, hu => by
    rw [spec_l1Num.f, Lib.decDigits]
    by_cases c : u < 10
    · rw [if_pos (by omega), dif_pos c, one_digit u c]
    · rw [if_neg (by omega), dif_neg c, show wrap64 (Int.tdiv (u : Int) 10) = ((u / 10 : Nat) : Int) by rw [Int.tdiv_eq_ediv_of_nonneg (by omega), w64 (by omega) (by omega)]; omega, show Int.tmod (u : Int) 10 = ((u % 10 : Nat) : Int) by rw [Int.tmod_eq_emod_of_nonneg (by omega)]; omega, num_val k (u / 10) (by omega) (by omega)]
      simp only [Option.bind_some]
      rw [one_digit _ (by omega)]
      have hl := dec_len (u / 10)
      have e : (⟨(Lib.decDigits (u / 10)).toArray⟩ : ByteArray).size = (Lib.decDigits (u / 10)).length := by simp [ByteArray.size]
      rw [e, show (⟨[UInt8.ofNat (48 + u % 10)].toArray⟩ : ByteArray).size = 1 from rfl, if_pos (by omega)]
      apply congrArg some
      apply ByteArray.ext
      simp

set_option linter.unusedSimpArgs false
set_option linter.unusedVariables false
def inB (a lo hi : Int) : Bool := decide (lo ≤ a) && decide (a ≤ hi)
theorem specIn_val (a lo hi : Int) : spec_l1In.f a lo hi = some (inB a lo hi) := by
  unfold spec_l1In.f inB
  by_cases h : lo ≤ a
  · rw [if_pos (by omega)]
    simp [h]
  · rw [if_neg (by omega)]
    simp [h]
theorem implIn_val (a lo hi : Int) : impl_in.f a lo hi = some (inB a lo hi) := by
  unfold impl_in.f inB
  by_cases h : lo ≤ a
  · rw [if_pos (by omega)]
    simp [h]
  · rw [if_neg (by omega)]
    simp [h]
def zB (a1 a2 a3 a4 a5 : Int) (f1 f2 f3 f4 f5 : Bool) : Bool := (f1 || a1 == 0) && ((f2 || a2 == 0) && ((f3 || a3 == 0) && ((f4 || a4 == 0) && (f5 || a5 == 0))))
theorem specZero_val (a0 a1 a2 a3 a4 a5 : Int) (f1 f2 f3 f4 f5 : Bool) : spec_l2Zero.f a0 a1 a2 a3 a4 a5 f1 f2 f3 f4 f5 = some (zB a1 a2 a3 a4 a5 f1 f2 f3 f4 f5) := by
  unfold spec_l2Zero.f zB
  cases f1 <;> cases f2 <;> cases f3 <;> cases f4 <;> cases f5 <;> simp only [Bool.false_eq_true, if_true, if_false, Bool.true_or, Bool.false_or, Bool.true_and, Bool.and_true] <;> (repeat' split) <;> simp [*]
/-- A step is well formed. -/
def stepB (a0_0 a0_1 a0_2 a0_3 a0_4 a0_5 : Int) : Bool := inB a0_2 0 5 && (inB a0_3 0 5 &&
  (if a0_0 = 1 then inB a0_1 1 10 && zB a0_1 a0_2 a0_3 a0_4 a0_5 true true true false false
  else if a0_0 = 2 then inB a0_1 1 10 && (inB a0_4 0 255 && zB a0_1 a0_2 a0_3 a0_4 a0_5 true true false true false)
  else if a0_0 = 3 then inB a0_4 0 255 && zB a0_1 a0_2 a0_3 a0_4 a0_5 false true false true false
  else if a0_0 = 4 then inB a0_4 256 65535 && zB a0_1 a0_2 a0_3 a0_4 a0_5 false true false true false
  else if a0_0 = 5 then inB a0_4 0 7 && zB a0_1 a0_2 a0_3 a0_4 a0_5 false true true true false
  else if a0_0 = 6 then inB a0_4 0 255 && zB a0_1 a0_2 a0_3 a0_4 a0_5 false true false true false
  else if a0_0 = 7 then inB a0_4 0 255 && zB a0_1 a0_2 a0_3 a0_4 a0_5 false true false true false
  else if a0_0 = 8 then inB a0_5 1 19 && zB a0_1 a0_2 a0_3 a0_4 a0_5 false false false false true
  else if a0_0 = 9 then inB a0_5 1 19 && zB a0_1 a0_2 a0_3 a0_4 a0_5 false true true false true
  else if a0_0 = 10 then inB a0_5 1 19 && zB a0_1 a0_2 a0_3 a0_4 a0_5 false true true false true
  else if a0_0 = 11 then zB a0_1 a0_2 a0_3 a0_4 a0_5 false false false false false
  else false))
theorem specStep_val (a0_0 a0_1 a0_2 a0_3 a0_4 a0_5 : Int) (k : Nat) (hk : 3 ≤ k) : spec_l2Step.f k a0_0 a0_1 a0_2 a0_3 a0_4 a0_5 = some (stepB a0_0 a0_1 a0_2 a0_3 a0_4 a0_5) := by
  obtain ⟨k, rfl⟩ : ∃ m, k = m + 3 := ⟨k - 3, by omega⟩
  unfold spec_l2Step.f spec_l2Reg.f stepB
  simp only [specIn_val, Option.bind_some, spec_l2Step.j0, spec_l2Step.j1, spec_l2Step.j2, specZero_val]
  cases inB a0_2 0 5 with
  | false => simp
  | true =>
    cases inB a0_3 0 5 with
    | false => simp
    | true =>
      simp only [Bool.true_and, if_true, Bool.not_true, Bool.false_eq_true, if_false]
      by_cases c1 : a0_0 = 1
      · subst c1
        cases inB a0_1 1 10 <;> cases inB a0_4 0 255 <;> cases inB a0_4 256 65535 <;> cases inB a0_4 0 7 <;> cases inB a0_5 1 19 <;> simp
      by_cases c2 : a0_0 = 2
      · subst c2
        cases inB a0_1 1 10 <;> cases inB a0_4 0 255 <;> cases inB a0_4 256 65535 <;> cases inB a0_4 0 7 <;> cases inB a0_5 1 19 <;> simp
      by_cases c3 : a0_0 = 3
      · subst c3
        cases inB a0_1 1 10 <;> cases inB a0_4 0 255 <;> cases inB a0_4 256 65535 <;> cases inB a0_4 0 7 <;> cases inB a0_5 1 19 <;> simp
      by_cases c4 : a0_0 = 4
      · subst c4
        cases inB a0_1 1 10 <;> cases inB a0_4 0 255 <;> cases inB a0_4 256 65535 <;> cases inB a0_4 0 7 <;> cases inB a0_5 1 19 <;> simp
      by_cases c5 : a0_0 = 5
      · subst c5
        cases inB a0_1 1 10 <;> cases inB a0_4 0 255 <;> cases inB a0_4 256 65535 <;> cases inB a0_4 0 7 <;> cases inB a0_5 1 19 <;> simp
      by_cases c6 : a0_0 = 6
      · subst c6
        cases inB a0_1 1 10 <;> cases inB a0_4 0 255 <;> cases inB a0_4 256 65535 <;> cases inB a0_4 0 7 <;> cases inB a0_5 1 19 <;> simp
      by_cases c7 : a0_0 = 7
      · subst c7
        cases inB a0_1 1 10 <;> cases inB a0_4 0 255 <;> cases inB a0_4 256 65535 <;> cases inB a0_4 0 7 <;> cases inB a0_5 1 19 <;> simp
      by_cases c8 : a0_0 = 8
      · subst c8
        cases inB a0_1 1 10 <;> cases inB a0_4 0 255 <;> cases inB a0_4 256 65535 <;> cases inB a0_4 0 7 <;> cases inB a0_5 1 19 <;> simp
      by_cases c9 : a0_0 = 9
      · subst c9
        cases inB a0_1 1 10 <;> cases inB a0_4 0 255 <;> cases inB a0_4 256 65535 <;> cases inB a0_4 0 7 <;> cases inB a0_5 1 19 <;> simp
      by_cases c10 : a0_0 = 10
      · subst c10
        cases inB a0_1 1 10 <;> cases inB a0_4 0 255 <;> cases inB a0_4 256 65535 <;> cases inB a0_4 0 7 <;> cases inB a0_5 1 19 <;> simp
      by_cases c11 : a0_0 = 11
      · subst c11
        cases inB a0_1 1 10 <;> cases inB a0_4 0 255 <;> cases inB a0_4 256 65535 <;> cases inB a0_4 0 7 <;> cases inB a0_5 1 19 <;> simp
      simp [c1, c2, c3, c4, c5, c6, c7, c8, c9, c10, c11]
theorem valid_round (a0_0 a0_1 a0_2 a0_3 a0_4 a0_5 : Int) (z : ByteArray) (r_1 r_2 r_3 r_4 r_5 : Int) (s_1 s_2 s_3 s_4 s_5 : Int) (x L lo hi : Int) (b : Bool) (k : Nat) (h1 : x < (z.size : Int)) (h0 : 0 ≤ x) (hx : x ≤ 100) (hL : bt z x = L) (hr : impl_Step_ranges.f k a0_0 a0_1 a0_2 a0_3 a0_4 a0_5 L = some (lo, hi)) (e1 : zr_ 1 (fieldAt_ L) r_1 = s_1) (e2 : zr_ 2 (fieldAt_ L) r_2 = s_2) (e3 : zr_ 3 (fieldAt_ L) r_3 = s_3) (e4 : zr_ 4 (fieldAt_ L) r_4 = s_4) (e5 : zr_ 5 (fieldAt_ L) r_5 = s_5)
    (hn : impl_Step_valid.l0 k a0_0 a0_1 a0_2 a0_3 a0_4 a0_5 z s_1 s_2 s_3 s_4 s_5 (x + 1) = some b) : impl_Step_valid.l0 (k + 1) a0_0 a0_1 a0_2 a0_3 a0_4 a0_5 z r_1 r_2 r_3 r_4 r_5 x = some (inB (fld_ a0_0 a0_1 a0_2 a0_3 a0_4 a0_5 (fieldAt_ L)) lo hi && b) := by
  simp only [impl_Step_valid.l0]
  rw [if_pos h1, if_pos h0, hL, hr]
  simp only [Option.bind_some]
  rw [implIn_val, e1, e2, e3, e4, e5, w64 (by omega) (by omega), hn]
  simp only [Option.bind_some]
  cases inB (fld_ a0_0 a0_1 a0_2 a0_3 a0_4 a0_5 (fieldAt_ L)) lo hi <;> rfl
theorem valid_end (a0_0 a0_1 a0_2 a0_3 a0_4 a0_5 : Int) (z : ByteArray) (r_1 r_2 r_3 r_4 r_5 : Int) (x : Int) (k : Nat) (h1 : ¬ x < (z.size : Int)) : impl_Step_valid.l0 (k + 1) a0_0 a0_1 a0_2 a0_3 a0_4 a0_5 z r_1 r_2 r_3 r_4 r_5 x = some (inB a0_0 1 11 && decide (r_1 = 0 ∧ r_2 = 0 ∧ r_3 = 0 ∧ r_4 = 0 ∧ r_5 = 0)) := by
  simp only [impl_Step_valid.l0]
  rw [if_neg h1, implIn_val]
  simp only [Option.bind_some]
  cases inB a0_0 1 11 <;> rfl
theorem ranges_o (a0_0 a0_1 a0_2 a0_3 a0_4 a0_5 : Int) (k : Nat) : impl_Step_ranges.f (k + 1) a0_0 a0_1 a0_2 a0_3 a0_4 a0_5 111 = some (1, 10) := by simp [impl_Step_ranges.f]
theorem ranges_d (a0_0 a0_1 a0_2 a0_3 a0_4 a0_5 : Int) (k : Nat) : impl_Step_ranges.f (k + 1) a0_0 a0_1 a0_2 a0_3 a0_4 a0_5 100 = some (0, 5) := by simp [impl_Step_ranges.f, impl_Step_ranges.j0]
theorem ranges_s (a0_0 a0_1 a0_2 a0_3 a0_4 a0_5 : Int) (k : Nat) : impl_Step_ranges.f (k + 1) a0_0 a0_1 a0_2 a0_3 a0_4 a0_5 115 = some (0, 5) := by simp [impl_Step_ranges.f, impl_Step_ranges.j0]
theorem ranges_t (a0_0 a0_1 a0_2 a0_3 a0_4 a0_5 : Int) (k : Nat) : impl_Step_ranges.f (k + 1) a0_0 a0_1 a0_2 a0_3 a0_4 a0_5 116 = some (1, 19) := by simp [impl_Step_ranges.f, impl_Step_ranges.j0]
def immR (a : Int) : Int × Int := if a = 4 then (256, 65535) else if a = 5 then (0, 7) else (0, 255)
theorem ranges_i (a0_0 a0_1 a0_2 a0_3 a0_4 a0_5 : Int) (k : Nat) : impl_Step_ranges.f (k + 1) a0_0 a0_1 a0_2 a0_3 a0_4 a0_5 105 = some ((immR a0_0).1, (immR a0_0).2) := by
  unfold immR
  simp only [impl_Step_ranges.f, impl_Step_ranges.j0]
  by_cases h4 : a0_0 = 4
  · simp [h4]
  · by_cases h5 : a0_0 = 5
    · simp [h5]
    · simp [h4, h5]
theorem valid_ods (a0_0 a0_1 a0_2 a0_3 a0_4 a0_5 : Int) (k : Nat) : impl_Step_valid.l0 (k + 5) a0_0 a0_1 a0_2 a0_3 a0_4 a0_5 ⟨#[111, 100, 115]⟩ a0_1 a0_2 a0_3 a0_4 a0_5 0 = some (inB a0_1 1 10 && (inB a0_2 0 5 && (inB a0_3 0 5 && (inB a0_0 1 11 && decide ((0 : Int) = 0 ∧ (0 : Int) = 0 ∧ (0 : Int) = 0 ∧ a0_4 = 0 ∧ a0_5 = 0))))) := by
  have h3 := valid_end a0_0 a0_1 a0_2 a0_3 a0_4 a0_5 ⟨#[111, 100, 115]⟩ 0 0 0 a0_4 a0_5 3 (k + 1) (by decide)
  have h2 := valid_round a0_0 a0_1 a0_2 a0_3 a0_4 a0_5 ⟨#[111, 100, 115]⟩ 0 0 a0_3 a0_4 a0_5 0 0 0 a0_4 a0_5 2 115 0 5 _ (k + 2) (by decide) (by decide) (by decide) (by rfl) (ranges_s a0_0 a0_1 a0_2 a0_3 a0_4 a0_5 _) (by rfl) (by rfl) (by rfl) (by rfl) (by rfl) h3
  have h1 := valid_round a0_0 a0_1 a0_2 a0_3 a0_4 a0_5 ⟨#[111, 100, 115]⟩ 0 a0_2 a0_3 a0_4 a0_5 0 0 a0_3 a0_4 a0_5 1 100 0 5 _ (k + 3) (by decide) (by decide) (by decide) (by rfl) (ranges_d a0_0 a0_1 a0_2 a0_3 a0_4 a0_5 _) (by rfl) (by rfl) (by rfl) (by rfl) (by rfl) h2
  have h0 := valid_round a0_0 a0_1 a0_2 a0_3 a0_4 a0_5 ⟨#[111, 100, 115]⟩ a0_1 a0_2 a0_3 a0_4 a0_5 0 a0_2 a0_3 a0_4 a0_5 0 111 1 10 _ (k + 4) (by decide) (by decide) (by decide) (by rfl) (ranges_o a0_0 a0_1 a0_2 a0_3 a0_4 a0_5 _) (by rfl) (by rfl) (by rfl) (by rfl) (by rfl) h1
  exact h0
theorem valid_odi (a0_0 a0_1 a0_2 a0_3 a0_4 a0_5 : Int) (k : Nat) : impl_Step_valid.l0 (k + 5) a0_0 a0_1 a0_2 a0_3 a0_4 a0_5 ⟨#[111, 100, 105]⟩ a0_1 a0_2 a0_3 a0_4 a0_5 0 = some (inB a0_1 1 10 && (inB a0_2 0 5 && (inB a0_4 (immR a0_0).1 (immR a0_0).2 && (inB a0_0 1 11 && decide ((0 : Int) = 0 ∧ (0 : Int) = 0 ∧ a0_3 = 0 ∧ (0 : Int) = 0 ∧ a0_5 = 0))))) := by
  have h3 := valid_end a0_0 a0_1 a0_2 a0_3 a0_4 a0_5 ⟨#[111, 100, 105]⟩ 0 0 a0_3 0 a0_5 3 (k + 1) (by decide)
  have h2 := valid_round a0_0 a0_1 a0_2 a0_3 a0_4 a0_5 ⟨#[111, 100, 105]⟩ 0 0 a0_3 a0_4 a0_5 0 0 a0_3 0 a0_5 2 105 (immR a0_0).1 (immR a0_0).2 _ (k + 2) (by decide) (by decide) (by decide) (by rfl) (ranges_i a0_0 a0_1 a0_2 a0_3 a0_4 a0_5 _) (by rfl) (by rfl) (by rfl) (by rfl) (by rfl) h3
  have h1 := valid_round a0_0 a0_1 a0_2 a0_3 a0_4 a0_5 ⟨#[111, 100, 105]⟩ 0 a0_2 a0_3 a0_4 a0_5 0 0 a0_3 a0_4 a0_5 1 100 0 5 _ (k + 3) (by decide) (by decide) (by decide) (by rfl) (ranges_d a0_0 a0_1 a0_2 a0_3 a0_4 a0_5 _) (by rfl) (by rfl) (by rfl) (by rfl) (by rfl) h2
  have h0 := valid_round a0_0 a0_1 a0_2 a0_3 a0_4 a0_5 ⟨#[111, 100, 105]⟩ a0_1 a0_2 a0_3 a0_4 a0_5 0 a0_2 a0_3 a0_4 a0_5 0 111 1 10 _ (k + 4) (by decide) (by decide) (by decide) (by rfl) (ranges_o a0_0 a0_1 a0_2 a0_3 a0_4 a0_5 _) (by rfl) (by rfl) (by rfl) (by rfl) (by rfl) h1
  exact h0
theorem valid_di (a0_0 a0_1 a0_2 a0_3 a0_4 a0_5 : Int) (k : Nat) : impl_Step_valid.l0 (k + 5) a0_0 a0_1 a0_2 a0_3 a0_4 a0_5 ⟨#[100, 105]⟩ a0_1 a0_2 a0_3 a0_4 a0_5 0 = some (inB a0_2 0 5 && (inB a0_4 (immR a0_0).1 (immR a0_0).2 && (inB a0_0 1 11 && decide (a0_1 = 0 ∧ (0 : Int) = 0 ∧ a0_3 = 0 ∧ (0 : Int) = 0 ∧ a0_5 = 0)))) := by
  have h2 := valid_end a0_0 a0_1 a0_2 a0_3 a0_4 a0_5 ⟨#[100, 105]⟩ a0_1 0 a0_3 0 a0_5 2 (k + 2) (by decide)
  have h1 := valid_round a0_0 a0_1 a0_2 a0_3 a0_4 a0_5 ⟨#[100, 105]⟩ a0_1 0 a0_3 a0_4 a0_5 a0_1 0 a0_3 0 a0_5 1 105 (immR a0_0).1 (immR a0_0).2 _ (k + 3) (by decide) (by decide) (by decide) (by rfl) (ranges_i a0_0 a0_1 a0_2 a0_3 a0_4 a0_5 _) (by rfl) (by rfl) (by rfl) (by rfl) (by rfl) h2
  have h0 := valid_round a0_0 a0_1 a0_2 a0_3 a0_4 a0_5 ⟨#[100, 105]⟩ a0_1 a0_2 a0_3 a0_4 a0_5 a0_1 0 a0_3 a0_4 a0_5 0 100 0 5 _ (k + 4) (by decide) (by decide) (by decide) (by rfl) (ranges_d a0_0 a0_1 a0_2 a0_3 a0_4 a0_5 _) (by rfl) (by rfl) (by rfl) (by rfl) (by rfl) h1
  exact h0
theorem valid_dsi (a0_0 a0_1 a0_2 a0_3 a0_4 a0_5 : Int) (k : Nat) : impl_Step_valid.l0 (k + 5) a0_0 a0_1 a0_2 a0_3 a0_4 a0_5 ⟨#[100, 115, 105]⟩ a0_1 a0_2 a0_3 a0_4 a0_5 0 = some (inB a0_2 0 5 && (inB a0_3 0 5 && (inB a0_4 (immR a0_0).1 (immR a0_0).2 && (inB a0_0 1 11 && decide (a0_1 = 0 ∧ (0 : Int) = 0 ∧ (0 : Int) = 0 ∧ (0 : Int) = 0 ∧ a0_5 = 0))))) := by
  have h3 := valid_end a0_0 a0_1 a0_2 a0_3 a0_4 a0_5 ⟨#[100, 115, 105]⟩ a0_1 0 0 0 a0_5 3 (k + 1) (by decide)
  have h2 := valid_round a0_0 a0_1 a0_2 a0_3 a0_4 a0_5 ⟨#[100, 115, 105]⟩ a0_1 0 0 a0_4 a0_5 a0_1 0 0 0 a0_5 2 105 (immR a0_0).1 (immR a0_0).2 _ (k + 2) (by decide) (by decide) (by decide) (by rfl) (ranges_i a0_0 a0_1 a0_2 a0_3 a0_4 a0_5 _) (by rfl) (by rfl) (by rfl) (by rfl) (by rfl) h3
  have h1 := valid_round a0_0 a0_1 a0_2 a0_3 a0_4 a0_5 ⟨#[100, 115, 105]⟩ a0_1 0 a0_3 a0_4 a0_5 a0_1 0 0 a0_4 a0_5 1 115 0 5 _ (k + 3) (by decide) (by decide) (by decide) (by rfl) (ranges_s a0_0 a0_1 a0_2 a0_3 a0_4 a0_5 _) (by rfl) (by rfl) (by rfl) (by rfl) (by rfl) h2
  have h0 := valid_round a0_0 a0_1 a0_2 a0_3 a0_4 a0_5 ⟨#[100, 115, 105]⟩ a0_1 a0_2 a0_3 a0_4 a0_5 a0_1 0 a0_3 a0_4 a0_5 0 100 0 5 _ (k + 4) (by decide) (by decide) (by decide) (by rfl) (ranges_d a0_0 a0_1 a0_2 a0_3 a0_4 a0_5 _) (by rfl) (by rfl) (by rfl) (by rfl) (by rfl) h1
  exact h0
theorem valid_t (a0_0 a0_1 a0_2 a0_3 a0_4 a0_5 : Int) (k : Nat) : impl_Step_valid.l0 (k + 5) a0_0 a0_1 a0_2 a0_3 a0_4 a0_5 ⟨#[116]⟩ a0_1 a0_2 a0_3 a0_4 a0_5 0 = some (inB a0_5 1 19 && (inB a0_0 1 11 && decide (a0_1 = 0 ∧ a0_2 = 0 ∧ a0_3 = 0 ∧ a0_4 = 0 ∧ (0 : Int) = 0))) := by
  have h1 := valid_end a0_0 a0_1 a0_2 a0_3 a0_4 a0_5 ⟨#[116]⟩ a0_1 a0_2 a0_3 a0_4 0 1 (k + 3) (by decide)
  have h0 := valid_round a0_0 a0_1 a0_2 a0_3 a0_4 a0_5 ⟨#[116]⟩ a0_1 a0_2 a0_3 a0_4 a0_5 a0_1 a0_2 a0_3 a0_4 0 0 116 1 19 _ (k + 4) (by decide) (by decide) (by decide) (by rfl) (ranges_t a0_0 a0_1 a0_2 a0_3 a0_4 a0_5 _) (by rfl) (by rfl) (by rfl) (by rfl) (by rfl) h1
  exact h0
theorem valid_dst (a0_0 a0_1 a0_2 a0_3 a0_4 a0_5 : Int) (k : Nat) : impl_Step_valid.l0 (k + 5) a0_0 a0_1 a0_2 a0_3 a0_4 a0_5 ⟨#[100, 115, 116]⟩ a0_1 a0_2 a0_3 a0_4 a0_5 0 = some (inB a0_2 0 5 && (inB a0_3 0 5 && (inB a0_5 1 19 && (inB a0_0 1 11 && decide (a0_1 = 0 ∧ (0 : Int) = 0 ∧ (0 : Int) = 0 ∧ a0_4 = 0 ∧ (0 : Int) = 0))))) := by
  have h3 := valid_end a0_0 a0_1 a0_2 a0_3 a0_4 a0_5 ⟨#[100, 115, 116]⟩ a0_1 0 0 a0_4 0 3 (k + 1) (by decide)
  have h2 := valid_round a0_0 a0_1 a0_2 a0_3 a0_4 a0_5 ⟨#[100, 115, 116]⟩ a0_1 0 0 a0_4 a0_5 a0_1 0 0 a0_4 0 2 116 1 19 _ (k + 2) (by decide) (by decide) (by decide) (by rfl) (ranges_t a0_0 a0_1 a0_2 a0_3 a0_4 a0_5 _) (by rfl) (by rfl) (by rfl) (by rfl) (by rfl) h3
  have h1 := valid_round a0_0 a0_1 a0_2 a0_3 a0_4 a0_5 ⟨#[100, 115, 116]⟩ a0_1 0 a0_3 a0_4 a0_5 a0_1 0 0 a0_4 a0_5 1 115 0 5 _ (k + 3) (by decide) (by decide) (by decide) (by rfl) (ranges_s a0_0 a0_1 a0_2 a0_3 a0_4 a0_5 _) (by rfl) (by rfl) (by rfl) (by rfl) (by rfl) h2
  have h0 := valid_round a0_0 a0_1 a0_2 a0_3 a0_4 a0_5 ⟨#[100, 115, 116]⟩ a0_1 a0_2 a0_3 a0_4 a0_5 a0_1 0 a0_3 a0_4 a0_5 0 100 0 5 _ (k + 4) (by decide) (by decide) (by decide) (by rfl) (ranges_d a0_0 a0_1 a0_2 a0_3 a0_4 a0_5 _) (by rfl) (by rfl) (by rfl) (by rfl) (by rfl) h1
  exact h0
theorem valid_none (a0_0 a0_1 a0_2 a0_3 a0_4 a0_5 : Int) (k : Nat) : impl_Step_valid.l0 (k + 5) a0_0 a0_1 a0_2 a0_3 a0_4 a0_5 ⟨#[]⟩ a0_1 a0_2 a0_3 a0_4 a0_5 0 = some (inB a0_0 1 11 && decide (a0_1 = 0 ∧ a0_2 = 0 ∧ a0_3 = 0 ∧ a0_4 = 0 ∧ a0_5 = 0)) := by
  have h0 := valid_end a0_0 a0_1 a0_2 a0_3 a0_4 a0_5 ⟨#[]⟩ a0_1 a0_2 a0_3 a0_4 a0_5 0 (k + 4) (by decide)
  exact h0
theorem implStep_val (a0_0 a0_1 a0_2 a0_3 a0_4 a0_5 : Int) (k : Nat) (hk : 10 ≤ k) : impl_Step_valid.f k a0_0 a0_1 a0_2 a0_3 a0_4 a0_5 = some (stepB a0_0 a0_1 a0_2 a0_3 a0_4 a0_5) := by
  obtain ⟨k, rfl⟩ : ∃ m, k = m + 5 := ⟨k - 5, by omega⟩
  unfold impl_Step_valid.f impl_fields.f stepB
  by_cases c1 : a0_0 = 1
  · subst c1
    rw [show (if (1 : Int) = 1 then (some (⟨#[111, 100, 115]⟩ : ByteArray)) else (if (1 : Int) = 2 then (some (⟨#[111, 100, 105]⟩ : ByteArray)) else (if (1 : Int) = 3 then (impl_fields.j0 (k + 5) 1 ((1 : Int) == 3)) else (if (1 : Int) = 4 then (impl_fields.j0 (k + 5) 1 ((1 : Int) == 4)) else (if (1 : Int) = 6 then (impl_fields.j0 (k + 5) 1 ((1 : Int) == 6)) else (impl_fields.j0 (k + 5) 1 ((1 : Int) == 7))))))) = some ⟨#[111, 100, 115]⟩ by first | (simp [impl_fields.j0]; done) | simp [impl_fields.j0]]
    simp only [Option.bind_some]
    rw [valid_ods]
    congr 1
    rw [Bool.eq_iff_iff]
    simp [inB, zB, immR]
    first | done | omega
  by_cases c2 : a0_0 = 2
  · subst c2
    rw [show (if (2 : Int) = 1 then (some (⟨#[111, 100, 115]⟩ : ByteArray)) else (if (2 : Int) = 2 then (some (⟨#[111, 100, 105]⟩ : ByteArray)) else (if (2 : Int) = 3 then (impl_fields.j0 (k + 5) 2 ((2 : Int) == 3)) else (if (2 : Int) = 4 then (impl_fields.j0 (k + 5) 2 ((2 : Int) == 4)) else (if (2 : Int) = 6 then (impl_fields.j0 (k + 5) 2 ((2 : Int) == 6)) else (impl_fields.j0 (k + 5) 2 ((2 : Int) == 7))))))) = some ⟨#[111, 100, 105]⟩ by first | (simp [impl_fields.j0]; done) | simp [impl_fields.j0]]
    simp only [Option.bind_some]
    rw [valid_odi]
    congr 1
    rw [Bool.eq_iff_iff]
    simp [inB, zB, immR]
    first | done | omega
  by_cases c3 : a0_0 = 3
  · subst c3
    rw [show (if (3 : Int) = 1 then (some (⟨#[111, 100, 115]⟩ : ByteArray)) else (if (3 : Int) = 2 then (some (⟨#[111, 100, 105]⟩ : ByteArray)) else (if (3 : Int) = 3 then (impl_fields.j0 (k + 5) 3 ((3 : Int) == 3)) else (if (3 : Int) = 4 then (impl_fields.j0 (k + 5) 3 ((3 : Int) == 4)) else (if (3 : Int) = 6 then (impl_fields.j0 (k + 5) 3 ((3 : Int) == 6)) else (impl_fields.j0 (k + 5) 3 ((3 : Int) == 7))))))) = some ⟨#[100, 105]⟩ by first | (simp [impl_fields.j0]; done) | simp [impl_fields.j0]]
    simp only [Option.bind_some]
    rw [valid_di]
    congr 1
    rw [Bool.eq_iff_iff]
    simp [inB, zB, immR]
    first | done | omega
  by_cases c4 : a0_0 = 4
  · subst c4
    rw [show (if (4 : Int) = 1 then (some (⟨#[111, 100, 115]⟩ : ByteArray)) else (if (4 : Int) = 2 then (some (⟨#[111, 100, 105]⟩ : ByteArray)) else (if (4 : Int) = 3 then (impl_fields.j0 (k + 5) 4 ((4 : Int) == 3)) else (if (4 : Int) = 4 then (impl_fields.j0 (k + 5) 4 ((4 : Int) == 4)) else (if (4 : Int) = 6 then (impl_fields.j0 (k + 5) 4 ((4 : Int) == 6)) else (impl_fields.j0 (k + 5) 4 ((4 : Int) == 7))))))) = some ⟨#[100, 105]⟩ by first | (simp [impl_fields.j0]; done) | simp [impl_fields.j0]]
    simp only [Option.bind_some]
    rw [valid_di]
    congr 1
    rw [Bool.eq_iff_iff]
    simp [inB, zB, immR]
    first | done | omega
  by_cases c5 : a0_0 = 5
  · subst c5
    rw [show (if (5 : Int) = 1 then (some (⟨#[111, 100, 115]⟩ : ByteArray)) else (if (5 : Int) = 2 then (some (⟨#[111, 100, 105]⟩ : ByteArray)) else (if (5 : Int) = 3 then (impl_fields.j0 (k + 5) 5 ((5 : Int) == 3)) else (if (5 : Int) = 4 then (impl_fields.j0 (k + 5) 5 ((5 : Int) == 4)) else (if (5 : Int) = 6 then (impl_fields.j0 (k + 5) 5 ((5 : Int) == 6)) else (impl_fields.j0 (k + 5) 5 ((5 : Int) == 7))))))) = some ⟨#[100, 115, 105]⟩ by first | (simp [impl_fields.j0]; done) | simp [impl_fields.j0]]
    simp only [Option.bind_some]
    rw [valid_dsi]
    congr 1
    rw [Bool.eq_iff_iff]
    simp [inB, zB, immR]
    first | done | omega
  by_cases c6 : a0_0 = 6
  · subst c6
    rw [show (if (6 : Int) = 1 then (some (⟨#[111, 100, 115]⟩ : ByteArray)) else (if (6 : Int) = 2 then (some (⟨#[111, 100, 105]⟩ : ByteArray)) else (if (6 : Int) = 3 then (impl_fields.j0 (k + 5) 6 ((6 : Int) == 3)) else (if (6 : Int) = 4 then (impl_fields.j0 (k + 5) 6 ((6 : Int) == 4)) else (if (6 : Int) = 6 then (impl_fields.j0 (k + 5) 6 ((6 : Int) == 6)) else (impl_fields.j0 (k + 5) 6 ((6 : Int) == 7))))))) = some ⟨#[100, 105]⟩ by first | (simp [impl_fields.j0]; done) | simp [impl_fields.j0]]
    simp only [Option.bind_some]
    rw [valid_di]
    congr 1
    rw [Bool.eq_iff_iff]
    simp [inB, zB, immR]
    first | done | omega
  by_cases c7 : a0_0 = 7
  · subst c7
    rw [show (if (7 : Int) = 1 then (some (⟨#[111, 100, 115]⟩ : ByteArray)) else (if (7 : Int) = 2 then (some (⟨#[111, 100, 105]⟩ : ByteArray)) else (if (7 : Int) = 3 then (impl_fields.j0 (k + 5) 7 ((7 : Int) == 3)) else (if (7 : Int) = 4 then (impl_fields.j0 (k + 5) 7 ((7 : Int) == 4)) else (if (7 : Int) = 6 then (impl_fields.j0 (k + 5) 7 ((7 : Int) == 6)) else (impl_fields.j0 (k + 5) 7 ((7 : Int) == 7))))))) = some ⟨#[100, 105]⟩ by first | (simp [impl_fields.j0]; done) | simp [impl_fields.j0]]
    simp only [Option.bind_some]
    rw [valid_di]
    congr 1
    rw [Bool.eq_iff_iff]
    simp [inB, zB, immR]
    first | done | omega
  by_cases c8 : a0_0 = 8
  · subst c8
    rw [show (if (8 : Int) = 1 then (some (⟨#[111, 100, 115]⟩ : ByteArray)) else (if (8 : Int) = 2 then (some (⟨#[111, 100, 105]⟩ : ByteArray)) else (if (8 : Int) = 3 then (impl_fields.j0 (k + 5) 8 ((8 : Int) == 3)) else (if (8 : Int) = 4 then (impl_fields.j0 (k + 5) 8 ((8 : Int) == 4)) else (if (8 : Int) = 6 then (impl_fields.j0 (k + 5) 8 ((8 : Int) == 6)) else (impl_fields.j0 (k + 5) 8 ((8 : Int) == 7))))))) = some ⟨#[116]⟩ by first | (simp [impl_fields.j0]; done) | simp [impl_fields.j0]]
    simp only [Option.bind_some]
    rw [valid_t]
    congr 1
    rw [Bool.eq_iff_iff]
    simp [inB, zB, immR]
    first | done | omega
  by_cases c9 : a0_0 = 9
  · subst c9
    rw [show (if (9 : Int) = 1 then (some (⟨#[111, 100, 115]⟩ : ByteArray)) else (if (9 : Int) = 2 then (some (⟨#[111, 100, 105]⟩ : ByteArray)) else (if (9 : Int) = 3 then (impl_fields.j0 (k + 5) 9 ((9 : Int) == 3)) else (if (9 : Int) = 4 then (impl_fields.j0 (k + 5) 9 ((9 : Int) == 4)) else (if (9 : Int) = 6 then (impl_fields.j0 (k + 5) 9 ((9 : Int) == 6)) else (impl_fields.j0 (k + 5) 9 ((9 : Int) == 7))))))) = some ⟨#[100, 115, 116]⟩ by first | (simp [impl_fields.j0]; done) | simp [impl_fields.j0]]
    simp only [Option.bind_some]
    rw [valid_dst]
    congr 1
    rw [Bool.eq_iff_iff]
    simp [inB, zB, immR]
    first | done | omega
  by_cases c10 : a0_0 = 10
  · subst c10
    rw [show (if (10 : Int) = 1 then (some (⟨#[111, 100, 115]⟩ : ByteArray)) else (if (10 : Int) = 2 then (some (⟨#[111, 100, 105]⟩ : ByteArray)) else (if (10 : Int) = 3 then (impl_fields.j0 (k + 5) 10 ((10 : Int) == 3)) else (if (10 : Int) = 4 then (impl_fields.j0 (k + 5) 10 ((10 : Int) == 4)) else (if (10 : Int) = 6 then (impl_fields.j0 (k + 5) 10 ((10 : Int) == 6)) else (impl_fields.j0 (k + 5) 10 ((10 : Int) == 7))))))) = some ⟨#[100, 115, 116]⟩ by first | (simp [impl_fields.j0]; done) | simp [impl_fields.j0]]
    simp only [Option.bind_some]
    rw [valid_dst]
    congr 1
    rw [Bool.eq_iff_iff]
    simp [inB, zB, immR]
    first | done | omega
  by_cases c11 : a0_0 = 11
  · subst c11
    rw [show (if (11 : Int) = 1 then (some (⟨#[111, 100, 115]⟩ : ByteArray)) else (if (11 : Int) = 2 then (some (⟨#[111, 100, 105]⟩ : ByteArray)) else (if (11 : Int) = 3 then (impl_fields.j0 (k + 5) 11 ((11 : Int) == 3)) else (if (11 : Int) = 4 then (impl_fields.j0 (k + 5) 11 ((11 : Int) == 4)) else (if (11 : Int) = 6 then (impl_fields.j0 (k + 5) 11 ((11 : Int) == 6)) else (impl_fields.j0 (k + 5) 11 ((11 : Int) == 7))))))) = some ⟨#[]⟩ by first | (simp [impl_fields.j0]; done) | simp [impl_fields.j0]]
    simp only [Option.bind_some]
    rw [valid_none]
    congr 1
    rw [Bool.eq_iff_iff]
    simp [inB, zB, immR]
    first | done | omega
  simp only [c1, c2, c3, c4, c5, c6, c7, c8, c9, c10, c11, if_false]
  rw [show impl_fields.j0 (k + 5) a0_0 (a0_0 == 7) = some ⟨#[]⟩ by first | (simp [impl_fields.j0, c1, c2, c3, c4, c5, c6, c7, c8, c9, c10, c11]; done) | simp [impl_fields.j0, c1, c2, c3, c4, c5, c6, c7, c8, c9, c10, c11]]
  simp only [Option.bind_some]
  rw [valid_none]
  congr 1
  rw [Bool.eq_iff_iff]
  simp [inB]
  first | done | omega

def D_ (n : Int) : ByteArray := (⟨#[32]⟩ : ByteArray) ++ ⟨(Lib.decDigits n.toNat).toArray⟩
theorem num_at (k : Nat) (n : Int) (h0 : 0 ≤ n) (h1 : n ≤ 65535) (hk : 65536 ≤ k) : spec_l1Num.f k n = some ⟨(Lib.decDigits n.toNat).toArray⟩ ∧ (⟨(Lib.decDigits n.toNat).toArray⟩ : ByteArray).size ≤ 65536 := by
  obtain ⟨u, rfl⟩ : ∃ u : Nat, n = u := ⟨n.toNat, by omega⟩
  have hl := dec_len u
  rw [Int.toNat_natCast]
  refine ⟨num_val k u (by omega) (by omega), ?_⟩
  have e : (⟨(Lib.decDigits u).toArray⟩ : ByteArray).size = (Lib.decDigits u).length := by simp [ByteArray.size]
  rw [e]
  omega
theorem itoa_at (n : Int) (h0 : 0 ≤ n) : itoaB_ n = ⟨(Lib.decDigits n.toNat).toArray⟩ := by
  unfold itoaB_ Lib.itoa
  rw [if_neg (by omega)]
theorem text_round (k : Nat) (a0 a1 a2 a3 a4 a5 : Int) (z o : ByteArray) (x : Nat) (j : Nat) (hx : x < z.size) (hz : z.size ≤ 100) (hj : fieldAt_ (bt z (x : Int)) = j) (h0 : 0 ≤ fld_ a0 a1 a2 a3 a4 a5 j) (h1 : fld_ a0 a1 a2 a3 a4 a5 j ≤ 65535) (ho : o.size ≤ 10000000) : impl_Step_text.l0 (k + 1) a0 a1 a2 a3 a4 a5 z o (x : Int) = impl_Step_text.l0 k a0 a1 a2 a3 a4 a5 z (o ++ D_ (fld_ a0 a1 a2 a3 a4 a5 j)) ((x + 1 : Nat) : Int) := by
  have hs := (num_at 65536 _ h0 h1 (by omega)).2
  rw [impl_Step_text.l0, hj, itoa_at _ h0, if_pos (by omega), if_pos (by omega), if_pos (by omega), if_pos (by omega), if_pos (by omega), if_pos (by rw [ByteArray.size_append]; show o.size + (1 + _) ≤ _; omega), next64 (by omega)]
  rfl

theorem text_end (k : Nat) (a0 a1 a2 a3 a4 a5 : Int) (z o : ByteArray) (x : Nat) (hx : z.size ≤ x) : impl_Step_text.l0 (k + 1) a0 a1 a2 a3 a4 a5 z o (x : Int) = some o := by
  rw [impl_Step_text.l0, if_neg (by omega)]
theorem D_size (n : Int) (h0 : 0 ≤ n) (h1 : n ≤ 65535) : (D_ n).size ≤ 65537 := by
  have := (num_at 65536 n h0 h1 (by omega)).2
  unfold D_
  rw [ByteArray.size_append]
  show 1 + _ ≤ _
  omega
theorem text_ods (k : Nat) (a0 a1 a2 a3 a4 a5 : Int) (o : ByteArray) (ho : o.size ≤ 1000) (h1 : 0 ≤ a1 ∧ a1 ≤ 65535) (h2 : 0 ≤ a2 ∧ a2 ≤ 65535) (h3 : 0 ≤ a3 ∧ a3 ≤ 65535) : impl_Step_text.l0 (k + 4) a0 a1 a2 a3 a4 a5 ⟨#[111, 100, 115]⟩ o 0 = some (((o ++ D_ a1) ++ D_ a2) ++ D_ a3) := by
  have s1 := D_size a1 h1.1 h1.2
  have s2 := D_size a2 h2.1 h2.2
  have r1 := text_round (k + 3) a0 a1 a2 a3 a4 a5 ⟨#[111, 100, 115]⟩ o 0 1 (by decide) (by decide) (by decide) h1.1 h1.2 (by omega)
  have r2 := text_round (k + 2) a0 a1 a2 a3 a4 a5 ⟨#[111, 100, 115]⟩ (o ++ D_ a1) 1 2 (by decide) (by decide) (by decide) h2.1 h2.2 (by rw [ByteArray.size_append]; omega)
  have r3 := text_round (k + 1) a0 a1 a2 a3 a4 a5 ⟨#[111, 100, 115]⟩ ((o ++ D_ a1) ++ D_ a2) 2 3 (by decide) (by decide) (by decide) h3.1 h3.2 (by rw [ByteArray.size_append, ByteArray.size_append]; omega)
  exact (r1.trans (r2.trans (r3.trans (text_end k a0 a1 a2 a3 a4 a5 _ _ 3 (by decide)))))
theorem text_odi (k : Nat) (a0 a1 a2 a3 a4 a5 : Int) (o : ByteArray) (ho : o.size ≤ 1000) (h1 : 0 ≤ a1 ∧ a1 ≤ 65535) (h2 : 0 ≤ a2 ∧ a2 ≤ 65535) (h4 : 0 ≤ a4 ∧ a4 ≤ 65535) : impl_Step_text.l0 (k + 4) a0 a1 a2 a3 a4 a5 ⟨#[111, 100, 105]⟩ o 0 = some (((o ++ D_ a1) ++ D_ a2) ++ D_ a4) := by
  have s1 := D_size a1 h1.1 h1.2
  have s2 := D_size a2 h2.1 h2.2
  have r1 := text_round (k + 3) a0 a1 a2 a3 a4 a5 ⟨#[111, 100, 105]⟩ o 0 1 (by decide) (by decide) (by decide) h1.1 h1.2 (by omega)
  have r2 := text_round (k + 2) a0 a1 a2 a3 a4 a5 ⟨#[111, 100, 105]⟩ (o ++ D_ a1) 1 2 (by decide) (by decide) (by decide) h2.1 h2.2 (by rw [ByteArray.size_append]; omega)
  have r3 := text_round (k + 1) a0 a1 a2 a3 a4 a5 ⟨#[111, 100, 105]⟩ ((o ++ D_ a1) ++ D_ a2) 2 4 (by decide) (by decide) (by decide) h4.1 h4.2 (by rw [ByteArray.size_append, ByteArray.size_append]; omega)
  exact (r1.trans (r2.trans (r3.trans (text_end k a0 a1 a2 a3 a4 a5 _ _ 3 (by decide)))))
theorem text_di (k : Nat) (a0 a1 a2 a3 a4 a5 : Int) (o : ByteArray) (ho : o.size ≤ 1000) (h2 : 0 ≤ a2 ∧ a2 ≤ 65535) (h4 : 0 ≤ a4 ∧ a4 ≤ 65535) : impl_Step_text.l0 (k + 3) a0 a1 a2 a3 a4 a5 ⟨#[100, 105]⟩ o 0 = some ((o ++ D_ a2) ++ D_ a4) := by
  have s2 := D_size a2 h2.1 h2.2
  have r1 := text_round (k + 2) a0 a1 a2 a3 a4 a5 ⟨#[100, 105]⟩ o 0 2 (by decide) (by decide) (by decide) h2.1 h2.2 (by omega)
  have r2 := text_round (k + 1) a0 a1 a2 a3 a4 a5 ⟨#[100, 105]⟩ (o ++ D_ a2) 1 4 (by decide) (by decide) (by decide) h4.1 h4.2 (by rw [ByteArray.size_append]; omega)
  exact (r1.trans (r2.trans (text_end k a0 a1 a2 a3 a4 a5 _ _ 2 (by decide))))
theorem text_dsi (k : Nat) (a0 a1 a2 a3 a4 a5 : Int) (o : ByteArray) (ho : o.size ≤ 1000) (h2 : 0 ≤ a2 ∧ a2 ≤ 65535) (h3 : 0 ≤ a3 ∧ a3 ≤ 65535) (h4 : 0 ≤ a4 ∧ a4 ≤ 65535) : impl_Step_text.l0 (k + 4) a0 a1 a2 a3 a4 a5 ⟨#[100, 115, 105]⟩ o 0 = some (((o ++ D_ a2) ++ D_ a3) ++ D_ a4) := by
  have s2 := D_size a2 h2.1 h2.2
  have s3 := D_size a3 h3.1 h3.2
  have r1 := text_round (k + 3) a0 a1 a2 a3 a4 a5 ⟨#[100, 115, 105]⟩ o 0 2 (by decide) (by decide) (by decide) h2.1 h2.2 (by omega)
  have r2 := text_round (k + 2) a0 a1 a2 a3 a4 a5 ⟨#[100, 115, 105]⟩ (o ++ D_ a2) 1 3 (by decide) (by decide) (by decide) h3.1 h3.2 (by rw [ByteArray.size_append]; omega)
  have r3 := text_round (k + 1) a0 a1 a2 a3 a4 a5 ⟨#[100, 115, 105]⟩ ((o ++ D_ a2) ++ D_ a3) 2 4 (by decide) (by decide) (by decide) h4.1 h4.2 (by rw [ByteArray.size_append, ByteArray.size_append]; omega)
  exact (r1.trans (r2.trans (r3.trans (text_end k a0 a1 a2 a3 a4 a5 _ _ 3 (by decide)))))
theorem text_t (k : Nat) (a0 a1 a2 a3 a4 a5 : Int) (o : ByteArray) (ho : o.size ≤ 1000) (h5 : 0 ≤ a5 ∧ a5 ≤ 65535) : impl_Step_text.l0 (k + 2) a0 a1 a2 a3 a4 a5 ⟨#[116]⟩ o 0 = some (o ++ D_ a5) := by
  have r1 := text_round (k + 1) a0 a1 a2 a3 a4 a5 ⟨#[116]⟩ o 0 5 (by decide) (by decide) (by decide) h5.1 h5.2 (by omega)
  exact (r1.trans (text_end k a0 a1 a2 a3 a4 a5 _ _ 1 (by decide)))
theorem text_dst (k : Nat) (a0 a1 a2 a3 a4 a5 : Int) (o : ByteArray) (ho : o.size ≤ 1000) (h2 : 0 ≤ a2 ∧ a2 ≤ 65535) (h3 : 0 ≤ a3 ∧ a3 ≤ 65535) (h5 : 0 ≤ a5 ∧ a5 ≤ 65535) : impl_Step_text.l0 (k + 4) a0 a1 a2 a3 a4 a5 ⟨#[100, 115, 116]⟩ o 0 = some (((o ++ D_ a2) ++ D_ a3) ++ D_ a5) := by
  have s2 := D_size a2 h2.1 h2.2
  have s3 := D_size a3 h3.1 h3.2
  have r1 := text_round (k + 3) a0 a1 a2 a3 a4 a5 ⟨#[100, 115, 116]⟩ o 0 2 (by decide) (by decide) (by decide) h2.1 h2.2 (by omega)
  have r2 := text_round (k + 2) a0 a1 a2 a3 a4 a5 ⟨#[100, 115, 116]⟩ (o ++ D_ a2) 1 3 (by decide) (by decide) (by decide) h3.1 h3.2 (by rw [ByteArray.size_append]; omega)
  have r3 := text_round (k + 1) a0 a1 a2 a3 a4 a5 ⟨#[100, 115, 116]⟩ ((o ++ D_ a2) ++ D_ a3) 2 5 (by decide) (by decide) (by decide) h5.1 h5.2 (by rw [ByteArray.size_append, ByteArray.size_append]; omega)
  exact (r1.trans (r2.trans (r3.trans (text_end k a0 a1 a2 a3 a4 a5 _ _ 3 (by decide)))))

theorem app_ok {o : ByteArray} {n : Int} (h0 : 0 ≤ n) (h1 : n ≤ 65535) (ho : o.size ≤ 1000000) : 1 + (⟨(Lib.decDigits n.toNat).toArray⟩ : ByteArray).size ≤ 9223372036854775807 ∧ o.size + ((⟨#[32]⟩ : ByteArray) ++ ⟨(Lib.decDigits n.toNat).toArray⟩).size ≤ 9223372036854775807 := by
  have := (num_at 65536 n h0 h1 (by omega)).2
  have d := D_size n h0 h1
  unfold D_ at d
  omega
theorem spec_j6 (k : Nat) (o : ByteArray) (ho : o.size ≤ 1000000) (a0 a1 a2 a3 a4 a5 : Int) (h : 0 ≤ a4 ∧ a4 ≤ 65535) (hk : 65536 ≤ k) : spec_StepText.j6 (k + 1) o a0 true a0 a1 a2 a3 a4 a5 = some (o ++ D_ a4, true) := by
  obtain ⟨e1, e2⟩ := app_ok h.1 h.2 ho
  rw [spec_StepText.j6, if_pos rfl, (num_at k a4 h.1 h.2 hk).1]
  simp only [Option.bind_some]
  rw [if_pos e1, if_pos e2]
  rfl
theorem spec_j7 (k : Nat) (o : ByteArray) (ho : o.size ≤ 1000000) (a0 a1 a2 a3 a4 a5 : Int) (h : 0 ≤ a5 ∧ a5 ≤ 65535) (hk : 65536 ≤ k) : spec_StepText.j7 (k + 1) o true a0 a1 a2 a3 a4 a5 = some (o ++ D_ a5, true) := by
  obtain ⟨e1, e2⟩ := app_ok h.1 h.2 ho
  rw [spec_StepText.j7, if_pos rfl, (num_at k a5 h.1 h.2 hk).1]
  simp only [Option.bind_some]
  rw [if_pos e1, if_pos e2]
  rfl
theorem spec_j0 (k : Nat) (o : ByteArray) (ho : o.size ≤ 1000000) (a0 a1 a2 a3 a4 a5 : Int) (h : 0 ≤ a1 ∧ a1 ≤ 65535) (hk : 65536 ≤ k) : spec_StepText.j0 (k + 1) o true a0 a1 a2 a3 a4 a5 = spec_StepText.j1 k (o ++ D_ a1) a0 a1 a2 a3 a4 a5 := by
  obtain ⟨e1, e2⟩ := app_ok h.1 h.2 ho
  rw [spec_StepText.j0, if_pos rfl, (num_at k a1 h.1 h.2 hk).1]
  simp only [Option.bind_some]
  rw [if_pos e1, if_pos e2]
  rfl

theorem step_bd (a0 a1 a2 a3 a4 a5 : Int) (h : stepB a0 a1 a2 a3 a4 a5 = true) : (1 ≤ a0 ∧ a0 ≤ 11) ∧ (0 ≤ a1 ∧ a1 ≤ 10) ∧ (0 ≤ a2 ∧ a2 ≤ 5) ∧ (0 ≤ a3 ∧ a3 ≤ 5) ∧ (0 ≤ a4 ∧ a4 ≤ 65535) ∧ (0 ≤ a5 ∧ a5 ≤ 19) ∧ (a0 ≠ 4 → a4 ≤ 255) := by
  unfold stepB at h
  by_cases c1 : a0 = 1
  · subst c1
    simp [inB, zB] at h
    omega
  by_cases c2 : a0 = 2
  · subst c2
    simp [inB, zB] at h
    omega
  by_cases c3 : a0 = 3
  · subst c3
    simp [inB, zB] at h
    omega
  by_cases c4 : a0 = 4
  · subst c4
    simp [inB, zB] at h
    omega
  by_cases c5 : a0 = 5
  · subst c5
    simp [inB, zB] at h
    omega
  by_cases c6 : a0 = 6
  · subst c6
    simp [inB, zB] at h
    omega
  by_cases c7 : a0 = 7
  · subst c7
    simp [inB, zB] at h
    omega
  by_cases c8 : a0 = 8
  · subst c8
    simp [inB, zB] at h
    omega
  by_cases c9 : a0 = 9
  · subst c9
    simp [inB, zB] at h
    omega
  by_cases c10 : a0 = 10
  · subst c10
    simp [inB, zB] at h
    omega
  by_cases c11 : a0 = 11
  · subst c11
    simp [inB, zB] at h
    omega
  simp [c1, c2, c3, c4, c5, c6, c7, c8, c9, c10, c11] at h

theorem app_size {o : ByteArray} {n : Int} {m : Nat} (h0 : 0 ≤ n) (h1 : n ≤ 65535) (ho : o.size ≤ m) : (o ++ D_ n).size ≤ m + 65537 := by
  have := D_size n h0 h1
  rw [ByteArray.size_append]
  omega
theorem spec_j0f (k : Nat) (o : ByteArray) (a0 a1 a2 a3 a4 a5 : Int) : spec_StepText.j0 (k + 1) o false a0 a1 a2 a3 a4 a5 = spec_StepText.j1 k o a0 a1 a2 a3 a4 a5 := by
  rw [spec_StepText.j0, if_neg (by decide)]
theorem spec_j2f (k : Nat) (o : ByteArray) (a0 a1 a2 a3 a4 a5 : Int) : spec_StepText.j2 (k + 1) o false a0 a1 a2 a3 a4 a5 = spec_StepText.j3 k o a0 a1 a2 a3 a4 a5 := by
  rw [spec_StepText.j2, if_neg (by decide)]
theorem spec_j2 (k : Nat) (o : ByteArray) (ho : o.size ≤ 1000000) (a0 a1 a2 a3 a4 a5 : Int) (h : 0 ≤ a2 ∧ a2 ≤ 65535) (hk : 65536 ≤ k) : spec_StepText.j2 (k + 1) o true a0 a1 a2 a3 a4 a5 = spec_StepText.j3 k (o ++ D_ a2) a0 a1 a2 a3 a4 a5 := by
  obtain ⟨e1, e2⟩ := app_ok h.1 h.2 ho
  rw [spec_StepText.j2, if_pos rfl, (num_at k a2 h.1 h.2 hk).1]
  simp only [Option.bind_some]
  rw [if_pos e1, if_pos e2]
  rfl
theorem spec_j4f (k : Nat) (o : ByteArray) (a0 a1 a2 a3 a4 a5 : Int) : spec_StepText.j4 (k + 1) o false a0 a1 a2 a3 a4 a5 = spec_StepText.j5 k o a0 a1 a2 a3 a4 a5 := by
  rw [spec_StepText.j4, if_neg (by decide)]
theorem spec_j4 (k : Nat) (o : ByteArray) (ho : o.size ≤ 1000000) (a0 a1 a2 a3 a4 a5 : Int) (h : 0 ≤ a3 ∧ a3 ≤ 65535) (hk : 65536 ≤ k) : spec_StepText.j4 (k + 1) o true a0 a1 a2 a3 a4 a5 = spec_StepText.j5 k (o ++ D_ a3) a0 a1 a2 a3 a4 a5 := by
  obtain ⟨e1, e2⟩ := app_ok h.1 h.2 ho
  rw [spec_StepText.j4, if_pos rfl, (num_at k a3 h.1 h.2 hk).1]
  simp only [Option.bind_some]
  rw [if_pos e1, if_pos e2]
  rfl
theorem spec_j7f (k : Nat) (o : ByteArray) (a0 a1 a2 a3 a4 a5 : Int) : spec_StepText.j7 (k + 1) o false a0 a1 a2 a3 a4 a5 = some (o, true) := by
  rw [spec_StepText.j7, if_neg (by decide)]

theorem spec_text1 (k : Nat) (o : ByteArray) (a1 a2 a3 a4 a5 : Int) (ho : o.size ≤ 1000) (hk : 65536 ≤ k) (h1 : 0 ≤ a1 ∧ a1 ≤ 65535) (h2 : 0 ≤ a2 ∧ a2 ≤ 65535) (h3 : 0 ≤ a3 ∧ a3 ≤ 65535) : spec_StepText.j0 (k + 8) o true 1 a1 a2 a3 a4 a5 = some ((((o ++ D_ a1) ++ D_ a2) ++ D_ a3), true) := by
  have s0 : o.size ≤ 1000000 := by omega
  have t1 := app_size h1.1 h1.2 ho
  have s1 : (o ++ D_ a1).size ≤ 1000000 := by omega
  have t2 := app_size h2.1 h2.2 t1
  have s2 : ((o ++ D_ a1) ++ D_ a2).size ≤ 1000000 := by omega
  have t3 := app_size h3.1 h3.2 t2
  have s3 : (((o ++ D_ a1) ++ D_ a2) ++ D_ a3).size ≤ 1000000 := by omega
  rw [spec_j0 (k + 7) _ s0 _ _ _ _ _ _ h1 (by omega)]
  rw [spec_StepText.j1, if_neg (by decide), show ((1 : Int) != 11) = true from by decide]
  rw [spec_j2 (k + 5) _ s1 _ _ _ _ _ _ h2 (by omega)]
  rw [spec_StepText.j3, if_pos (by decide), show ((1 : Int) == 1) = true from by decide]
  rw [spec_j4 (k + 3) _ s2 _ _ _ _ _ _ h3 (by omega)]
  rw [spec_StepText.j5, if_neg (by decide), if_neg (by decide), if_neg (by decide), if_neg (by decide), if_neg (by decide), show ((1 : Int) == 7) = false from by decide]
  rw [spec_StepText.j6, if_neg (by decide), if_neg (by decide), if_neg (by decide), show ((1 : Int) == 10) = false from by decide]
  rw [spec_j7f]
theorem impl_text1 (k : Nat) (a1 a2 a3 a4 a5 : Int) (h1 : 0 ≤ a1 ∧ a1 ≤ 65535) (h2 : 0 ≤ a2 ∧ a2 ≤ 65535) (h3 : 0 ≤ a3 ∧ a3 ≤ 65535) : impl_Step_text.f (k + 8) 1 a1 a2 a3 a4 a5 = some ((((⟨#[111, 112]⟩ : ByteArray) ++ D_ a1) ++ D_ a2) ++ D_ a3) := by
  unfold impl_Step_text.f
  rw [show impl_fields.f (k + 8) 1 = some ⟨#[111, 100, 115]⟩ by first | (simp [impl_fields.f, impl_fields.j0]; done) | simp [impl_fields.f, impl_fields.j0]]
  simp only [Option.bind_some]
  rw [show wrap64 ((1 : Int) - 1) = 0 by unfold wrap64; omega, if_pos (by decide), if_pos (by decide), show rdOf ByteArray.empty textNames_ 0 = (⟨#[111, 112]⟩ : ByteArray) from rfl]
  exact text_ods (k + 4) 1 a1 a2 a3 a4 a5 _ (by decide) h1 h2 h3
theorem spec_text2 (k : Nat) (o : ByteArray) (a1 a2 a3 a4 a5 : Int) (ho : o.size ≤ 1000) (hk : 65536 ≤ k) (h1 : 0 ≤ a1 ∧ a1 ≤ 65535) (h2 : 0 ≤ a2 ∧ a2 ≤ 65535) (h4 : 0 ≤ a4 ∧ a4 ≤ 65535) : spec_StepText.j0 (k + 8) o true 2 a1 a2 a3 a4 a5 = some ((((o ++ D_ a1) ++ D_ a2) ++ D_ a4), true) := by
  have s0 : o.size ≤ 1000000 := by omega
  have t1 := app_size h1.1 h1.2 ho
  have s1 : (o ++ D_ a1).size ≤ 1000000 := by omega
  have t2 := app_size h2.1 h2.2 t1
  have s2 : ((o ++ D_ a1) ++ D_ a2).size ≤ 1000000 := by omega
  have t3 := app_size h4.1 h4.2 t2
  have s3 : (((o ++ D_ a1) ++ D_ a2) ++ D_ a4).size ≤ 1000000 := by omega
  rw [spec_j0 (k + 7) _ s0 _ _ _ _ _ _ h1 (by omega)]
  rw [spec_StepText.j1, if_neg (by decide), show ((2 : Int) != 11) = true from by decide]
  rw [spec_j2 (k + 5) _ s1 _ _ _ _ _ _ h2 (by omega)]
  rw [spec_StepText.j3, if_neg (by decide), if_neg (by decide), if_neg (by decide), show ((2 : Int) == 10) = false from by decide]
  rw [spec_j4f]
  rw [spec_StepText.j5, if_pos (by decide), show ((2 : Int) == 2) = true from by decide]
  rw [spec_j6 (k + 1) _ s2 _ _ _ _ _ _ h4 (by omega)]
theorem impl_text2 (k : Nat) (a1 a2 a3 a4 a5 : Int) (h1 : 0 ≤ a1 ∧ a1 ≤ 65535) (h2 : 0 ≤ a2 ∧ a2 ≤ 65535) (h4 : 0 ≤ a4 ∧ a4 ≤ 65535) : impl_Step_text.f (k + 8) 2 a1 a2 a3 a4 a5 = some ((((⟨#[111, 112, 105]⟩ : ByteArray) ++ D_ a1) ++ D_ a2) ++ D_ a4) := by
  unfold impl_Step_text.f
  rw [show impl_fields.f (k + 8) 2 = some ⟨#[111, 100, 105]⟩ by first | (simp [impl_fields.f, impl_fields.j0]; done) | simp [impl_fields.f, impl_fields.j0]]
  simp only [Option.bind_some]
  rw [show wrap64 ((2 : Int) - 1) = 1 by unfold wrap64; omega, if_pos (by decide), if_pos (by decide), show rdOf ByteArray.empty textNames_ 1 = (⟨#[111, 112, 105]⟩ : ByteArray) from rfl]
  exact text_odi (k + 4) 2 a1 a2 a3 a4 a5 _ (by decide) h1 h2 h4
theorem spec_text3 (k : Nat) (o : ByteArray) (a1 a2 a3 a4 a5 : Int) (ho : o.size ≤ 1000) (hk : 65536 ≤ k) (h2 : 0 ≤ a2 ∧ a2 ≤ 65535) (h4 : 0 ≤ a4 ∧ a4 ≤ 65535) : spec_StepText.j0 (k + 8) o false 3 a1 a2 a3 a4 a5 = some (((o ++ D_ a2) ++ D_ a4), true) := by
  have s0 : o.size ≤ 1000000 := by omega
  have t1 := app_size h2.1 h2.2 ho
  have s1 : (o ++ D_ a2).size ≤ 1000000 := by omega
  have t2 := app_size h4.1 h4.2 t1
  have s2 : ((o ++ D_ a2) ++ D_ a4).size ≤ 1000000 := by omega
  rw [spec_j0f]
  rw [spec_StepText.j1, if_neg (by decide), show ((3 : Int) != 11) = true from by decide]
  rw [spec_j2 (k + 5) _ s0 _ _ _ _ _ _ h2 (by omega)]
  rw [spec_StepText.j3, if_neg (by decide), if_neg (by decide), if_neg (by decide), show ((3 : Int) == 10) = false from by decide]
  rw [spec_j4f]
  rw [spec_StepText.j5, if_neg (by decide), if_pos (by decide), show ((3 : Int) == 3) = true from by decide]
  rw [spec_j6 (k + 1) _ s1 _ _ _ _ _ _ h4 (by omega)]
theorem impl_text3 (k : Nat) (a1 a2 a3 a4 a5 : Int) (h2 : 0 ≤ a2 ∧ a2 ≤ 65535) (h4 : 0 ≤ a4 ∧ a4 ≤ 65535) : impl_Step_text.f (k + 8) 3 a1 a2 a3 a4 a5 = some (((⟨#[115, 101, 116]⟩ : ByteArray) ++ D_ a2) ++ D_ a4) := by
  unfold impl_Step_text.f
  rw [show impl_fields.f (k + 8) 3 = some ⟨#[100, 105]⟩ by first | (simp [impl_fields.f, impl_fields.j0]; done) | simp [impl_fields.f, impl_fields.j0]]
  simp only [Option.bind_some]
  rw [show wrap64 ((3 : Int) - 1) = 2 by unfold wrap64; omega, if_pos (by decide), if_pos (by decide), show rdOf ByteArray.empty textNames_ 2 = (⟨#[115, 101, 116]⟩ : ByteArray) from rfl]
  exact text_di (k + 5) 3 a1 a2 a3 a4 a5 _ (by decide) h2 h4
theorem spec_text4 (k : Nat) (o : ByteArray) (a1 a2 a3 a4 a5 : Int) (ho : o.size ≤ 1000) (hk : 65536 ≤ k) (h2 : 0 ≤ a2 ∧ a2 ≤ 65535) (h4 : 0 ≤ a4 ∧ a4 ≤ 65535) : spec_StepText.j0 (k + 8) o false 4 a1 a2 a3 a4 a5 = some (((o ++ D_ a2) ++ D_ a4), true) := by
  have s0 : o.size ≤ 1000000 := by omega
  have t1 := app_size h2.1 h2.2 ho
  have s1 : (o ++ D_ a2).size ≤ 1000000 := by omega
  have t2 := app_size h4.1 h4.2 t1
  have s2 : ((o ++ D_ a2) ++ D_ a4).size ≤ 1000000 := by omega
  rw [spec_j0f]
  rw [spec_StepText.j1, if_neg (by decide), show ((4 : Int) != 11) = true from by decide]
  rw [spec_j2 (k + 5) _ s0 _ _ _ _ _ _ h2 (by omega)]
  rw [spec_StepText.j3, if_neg (by decide), if_neg (by decide), if_neg (by decide), show ((4 : Int) == 10) = false from by decide]
  rw [spec_j4f]
  rw [spec_StepText.j5, if_neg (by decide), if_neg (by decide), if_pos (by decide), show ((4 : Int) == 4) = true from by decide]
  rw [spec_j6 (k + 1) _ s1 _ _ _ _ _ _ h4 (by omega)]
theorem impl_text4 (k : Nat) (a1 a2 a3 a4 a5 : Int) (h2 : 0 ≤ a2 ∧ a2 ≤ 65535) (h4 : 0 ≤ a4 ∧ a4 ≤ 65535) : impl_Step_text.f (k + 8) 4 a1 a2 a3 a4 a5 = some (((⟨#[119, 105, 100, 101]⟩ : ByteArray) ++ D_ a2) ++ D_ a4) := by
  unfold impl_Step_text.f
  rw [show impl_fields.f (k + 8) 4 = some ⟨#[100, 105]⟩ by first | (simp [impl_fields.f, impl_fields.j0]; done) | simp [impl_fields.f, impl_fields.j0]]
  simp only [Option.bind_some]
  rw [show wrap64 ((4 : Int) - 1) = 3 by unfold wrap64; omega, if_pos (by decide), if_pos (by decide), show rdOf ByteArray.empty textNames_ 3 = (⟨#[119, 105, 100, 101]⟩ : ByteArray) from rfl]
  exact text_di (k + 5) 4 a1 a2 a3 a4 a5 _ (by decide) h2 h4
theorem spec_text5 (k : Nat) (o : ByteArray) (a1 a2 a3 a4 a5 : Int) (ho : o.size ≤ 1000) (hk : 65536 ≤ k) (h2 : 0 ≤ a2 ∧ a2 ≤ 65535) (h3 : 0 ≤ a3 ∧ a3 ≤ 65535) (h4 : 0 ≤ a4 ∧ a4 ≤ 65535) : spec_StepText.j0 (k + 8) o false 5 a1 a2 a3 a4 a5 = some ((((o ++ D_ a2) ++ D_ a3) ++ D_ a4), true) := by
  have s0 : o.size ≤ 1000000 := by omega
  have t1 := app_size h2.1 h2.2 ho
  have s1 : (o ++ D_ a2).size ≤ 1000000 := by omega
  have t2 := app_size h3.1 h3.2 t1
  have s2 : ((o ++ D_ a2) ++ D_ a3).size ≤ 1000000 := by omega
  have t3 := app_size h4.1 h4.2 t2
  have s3 : (((o ++ D_ a2) ++ D_ a3) ++ D_ a4).size ≤ 1000000 := by omega
  rw [spec_j0f]
  rw [spec_StepText.j1, if_neg (by decide), show ((5 : Int) != 11) = true from by decide]
  rw [spec_j2 (k + 5) _ s0 _ _ _ _ _ _ h2 (by omega)]
  rw [spec_StepText.j3, if_neg (by decide), if_pos (by decide), show ((5 : Int) == 5) = true from by decide]
  rw [spec_j4 (k + 3) _ s1 _ _ _ _ _ _ h3 (by omega)]
  rw [spec_StepText.j5, if_neg (by decide), if_neg (by decide), if_neg (by decide), if_pos (by decide), show ((5 : Int) == 5) = true from by decide]
  rw [spec_j6 (k + 1) _ s2 _ _ _ _ _ _ h4 (by omega)]
theorem impl_text5 (k : Nat) (a1 a2 a3 a4 a5 : Int) (h2 : 0 ≤ a2 ∧ a2 ≤ 65535) (h3 : 0 ≤ a3 ∧ a3 ≤ 65535) (h4 : 0 ≤ a4 ∧ a4 ≤ 65535) : impl_Step_text.f (k + 8) 5 a1 a2 a3 a4 a5 = some ((((⟨#[99, 116, 120]⟩ : ByteArray) ++ D_ a2) ++ D_ a3) ++ D_ a4) := by
  unfold impl_Step_text.f
  rw [show impl_fields.f (k + 8) 5 = some ⟨#[100, 115, 105]⟩ by first | (simp [impl_fields.f, impl_fields.j0]; done) | simp [impl_fields.f, impl_fields.j0]]
  simp only [Option.bind_some]
  rw [show wrap64 ((5 : Int) - 1) = 4 by unfold wrap64; omega, if_pos (by decide), if_pos (by decide), show rdOf ByteArray.empty textNames_ 4 = (⟨#[99, 116, 120]⟩ : ByteArray) from rfl]
  exact text_dsi (k + 4) 5 a1 a2 a3 a4 a5 _ (by decide) h2 h3 h4
theorem spec_text6 (k : Nat) (o : ByteArray) (a1 a2 a3 a4 a5 : Int) (ho : o.size ≤ 1000) (hk : 65536 ≤ k) (h2 : 0 ≤ a2 ∧ a2 ≤ 65535) (h4 : 0 ≤ a4 ∧ a4 ≤ 65535) : spec_StepText.j0 (k + 8) o false 6 a1 a2 a3 a4 a5 = some (((o ++ D_ a2) ++ D_ a4), true) := by
  have s0 : o.size ≤ 1000000 := by omega
  have t1 := app_size h2.1 h2.2 ho
  have s1 : (o ++ D_ a2).size ≤ 1000000 := by omega
  have t2 := app_size h4.1 h4.2 t1
  have s2 : ((o ++ D_ a2) ++ D_ a4).size ≤ 1000000 := by omega
  rw [spec_j0f]
  rw [spec_StepText.j1, if_neg (by decide), show ((6 : Int) != 11) = true from by decide]
  rw [spec_j2 (k + 5) _ s0 _ _ _ _ _ _ h2 (by omega)]
  rw [spec_StepText.j3, if_neg (by decide), if_neg (by decide), if_neg (by decide), show ((6 : Int) == 10) = false from by decide]
  rw [spec_j4f]
  rw [spec_StepText.j5, if_neg (by decide), if_neg (by decide), if_neg (by decide), if_neg (by decide), if_pos (by decide), show ((6 : Int) == 6) = true from by decide]
  rw [spec_j6 (k + 1) _ s1 _ _ _ _ _ _ h4 (by omega)]
theorem impl_text6 (k : Nat) (a1 a2 a3 a4 a5 : Int) (h2 : 0 ≤ a2 ∧ a2 ≤ 65535) (h4 : 0 ≤ a4 ∧ a4 ≤ 65535) : impl_Step_text.f (k + 8) 6 a1 a2 a3 a4 a5 = some (((⟨#[108, 111, 97, 100]⟩ : ByteArray) ++ D_ a2) ++ D_ a4) := by
  unfold impl_Step_text.f
  rw [show impl_fields.f (k + 8) 6 = some ⟨#[100, 105]⟩ by first | (simp [impl_fields.f, impl_fields.j0]; done) | simp [impl_fields.f, impl_fields.j0]]
  simp only [Option.bind_some]
  rw [show wrap64 ((6 : Int) - 1) = 5 by unfold wrap64; omega, if_pos (by decide), if_pos (by decide), show rdOf ByteArray.empty textNames_ 5 = (⟨#[108, 111, 97, 100]⟩ : ByteArray) from rfl]
  exact text_di (k + 5) 6 a1 a2 a3 a4 a5 _ (by decide) h2 h4
theorem spec_text7 (k : Nat) (o : ByteArray) (a1 a2 a3 a4 a5 : Int) (ho : o.size ≤ 1000) (hk : 65536 ≤ k) (h2 : 0 ≤ a2 ∧ a2 ≤ 65535) (h4 : 0 ≤ a4 ∧ a4 ≤ 65535) : spec_StepText.j0 (k + 8) o false 7 a1 a2 a3 a4 a5 = some (((o ++ D_ a2) ++ D_ a4), true) := by
  have s0 : o.size ≤ 1000000 := by omega
  have t1 := app_size h2.1 h2.2 ho
  have s1 : (o ++ D_ a2).size ≤ 1000000 := by omega
  have t2 := app_size h4.1 h4.2 t1
  have s2 : ((o ++ D_ a2) ++ D_ a4).size ≤ 1000000 := by omega
  rw [spec_j0f]
  rw [spec_StepText.j1, if_neg (by decide), show ((7 : Int) != 11) = true from by decide]
  rw [spec_j2 (k + 5) _ s0 _ _ _ _ _ _ h2 (by omega)]
  rw [spec_StepText.j3, if_neg (by decide), if_neg (by decide), if_neg (by decide), show ((7 : Int) == 10) = false from by decide]
  rw [spec_j4f]
  rw [spec_StepText.j5, if_neg (by decide), if_neg (by decide), if_neg (by decide), if_neg (by decide), if_neg (by decide), show ((7 : Int) == 7) = true from by decide]
  rw [spec_j6 (k + 1) _ s1 _ _ _ _ _ _ h4 (by omega)]
theorem impl_text7 (k : Nat) (a1 a2 a3 a4 a5 : Int) (h2 : 0 ≤ a2 ∧ a2 ≤ 65535) (h4 : 0 ≤ a4 ∧ a4 ≤ 65535) : impl_Step_text.f (k + 8) 7 a1 a2 a3 a4 a5 = some (((⟨#[115, 116, 111, 114, 101]⟩ : ByteArray) ++ D_ a2) ++ D_ a4) := by
  unfold impl_Step_text.f
  rw [show impl_fields.f (k + 8) 7 = some ⟨#[100, 105]⟩ by first | (simp [impl_fields.f, impl_fields.j0]; done) | simp [impl_fields.f, impl_fields.j0]]
  simp only [Option.bind_some]
  rw [show wrap64 ((7 : Int) - 1) = 6 by unfold wrap64; omega, if_pos (by decide), if_pos (by decide), show rdOf ByteArray.empty textNames_ 6 = (⟨#[115, 116, 111, 114, 101]⟩ : ByteArray) from rfl]
  exact text_di (k + 5) 7 a1 a2 a3 a4 a5 _ (by decide) h2 h4
theorem spec_text8 (k : Nat) (o : ByteArray) (a1 a2 a3 a4 a5 : Int) (ho : o.size ≤ 1000) (hk : 65536 ≤ k) (h5 : 0 ≤ a5 ∧ a5 ≤ 65535) : spec_StepText.j0 (k + 8) o false 8 a1 a2 a3 a4 a5 = some ((o ++ D_ a5), true) := by
  have s0 : o.size ≤ 1000000 := by omega
  have t1 := app_size h5.1 h5.2 ho
  have s1 : (o ++ D_ a5).size ≤ 1000000 := by omega
  rw [spec_j0f]
  rw [spec_StepText.j1, if_pos (by decide), spec_j2f]
  rw [spec_StepText.j3, if_neg (by decide), if_neg (by decide), if_neg (by decide), show ((8 : Int) == 10) = false from by decide]
  rw [spec_j4f]
  rw [spec_StepText.j5, if_neg (by decide), if_neg (by decide), if_neg (by decide), if_neg (by decide), if_neg (by decide), show ((8 : Int) == 7) = false from by decide]
  rw [spec_StepText.j6, if_neg (by decide), if_pos (by decide), show ((8 : Int) == 8) = true from by decide]
  rw [spec_j7 k _ s0 _ _ _ _ _ _ h5 (by omega)]
theorem impl_text8 (k : Nat) (a1 a2 a3 a4 a5 : Int) (h5 : 0 ≤ a5 ∧ a5 ≤ 65535) : impl_Step_text.f (k + 8) 8 a1 a2 a3 a4 a5 = some ((⟨#[106, 117, 109, 112]⟩ : ByteArray) ++ D_ a5) := by
  unfold impl_Step_text.f
  rw [show impl_fields.f (k + 8) 8 = some ⟨#[116]⟩ by first | (simp [impl_fields.f, impl_fields.j0]; done) | simp [impl_fields.f, impl_fields.j0]]
  simp only [Option.bind_some]
  rw [show wrap64 ((8 : Int) - 1) = 7 by unfold wrap64; omega, if_pos (by decide), if_pos (by decide), show rdOf ByteArray.empty textNames_ 7 = (⟨#[106, 117, 109, 112]⟩ : ByteArray) from rfl]
  exact text_t (k + 6) 8 a1 a2 a3 a4 a5 _ (by decide) h5
theorem spec_text9 (k : Nat) (o : ByteArray) (a1 a2 a3 a4 a5 : Int) (ho : o.size ≤ 1000) (hk : 65536 ≤ k) (h2 : 0 ≤ a2 ∧ a2 ≤ 65535) (h3 : 0 ≤ a3 ∧ a3 ≤ 65535) (h5 : 0 ≤ a5 ∧ a5 ≤ 65535) : spec_StepText.j0 (k + 8) o false 9 a1 a2 a3 a4 a5 = some ((((o ++ D_ a2) ++ D_ a3) ++ D_ a5), true) := by
  have s0 : o.size ≤ 1000000 := by omega
  have t1 := app_size h2.1 h2.2 ho
  have s1 : (o ++ D_ a2).size ≤ 1000000 := by omega
  have t2 := app_size h3.1 h3.2 t1
  have s2 : ((o ++ D_ a2) ++ D_ a3).size ≤ 1000000 := by omega
  have t3 := app_size h5.1 h5.2 t2
  have s3 : (((o ++ D_ a2) ++ D_ a3) ++ D_ a5).size ≤ 1000000 := by omega
  rw [spec_j0f]
  rw [spec_StepText.j1, if_neg (by decide), show ((9 : Int) != 11) = true from by decide]
  rw [spec_j2 (k + 5) _ s0 _ _ _ _ _ _ h2 (by omega)]
  rw [spec_StepText.j3, if_neg (by decide), if_neg (by decide), if_pos (by decide), show ((9 : Int) == 9) = true from by decide]
  rw [spec_j4 (k + 3) _ s1 _ _ _ _ _ _ h3 (by omega)]
  rw [spec_StepText.j5, if_neg (by decide), if_neg (by decide), if_neg (by decide), if_neg (by decide), if_neg (by decide), show ((9 : Int) == 7) = false from by decide]
  rw [spec_StepText.j6, if_neg (by decide), if_neg (by decide), if_pos (by decide), show ((9 : Int) == 9) = true from by decide]
  rw [spec_j7 k _ s2 _ _ _ _ _ _ h5 (by omega)]
theorem impl_text9 (k : Nat) (a1 a2 a3 a4 a5 : Int) (h2 : 0 ≤ a2 ∧ a2 ≤ 65535) (h3 : 0 ≤ a3 ∧ a3 ≤ 65535) (h5 : 0 ≤ a5 ∧ a5 ≤ 65535) : impl_Step_text.f (k + 8) 9 a1 a2 a3 a4 a5 = some ((((⟨#[101, 113]⟩ : ByteArray) ++ D_ a2) ++ D_ a3) ++ D_ a5) := by
  unfold impl_Step_text.f
  rw [show impl_fields.f (k + 8) 9 = some ⟨#[100, 115, 116]⟩ by first | (simp [impl_fields.f, impl_fields.j0]; done) | simp [impl_fields.f, impl_fields.j0]]
  simp only [Option.bind_some]
  rw [show wrap64 ((9 : Int) - 1) = 8 by unfold wrap64; omega, if_pos (by decide), if_pos (by decide), show rdOf ByteArray.empty textNames_ 8 = (⟨#[101, 113]⟩ : ByteArray) from rfl]
  exact text_dst (k + 4) 9 a1 a2 a3 a4 a5 _ (by decide) h2 h3 h5
theorem spec_text10 (k : Nat) (o : ByteArray) (a1 a2 a3 a4 a5 : Int) (ho : o.size ≤ 1000) (hk : 65536 ≤ k) (h2 : 0 ≤ a2 ∧ a2 ≤ 65535) (h3 : 0 ≤ a3 ∧ a3 ≤ 65535) (h5 : 0 ≤ a5 ∧ a5 ≤ 65535) : spec_StepText.j0 (k + 8) o false 10 a1 a2 a3 a4 a5 = some ((((o ++ D_ a2) ++ D_ a3) ++ D_ a5), true) := by
  have s0 : o.size ≤ 1000000 := by omega
  have t1 := app_size h2.1 h2.2 ho
  have s1 : (o ++ D_ a2).size ≤ 1000000 := by omega
  have t2 := app_size h3.1 h3.2 t1
  have s2 : ((o ++ D_ a2) ++ D_ a3).size ≤ 1000000 := by omega
  have t3 := app_size h5.1 h5.2 t2
  have s3 : (((o ++ D_ a2) ++ D_ a3) ++ D_ a5).size ≤ 1000000 := by omega
  rw [spec_j0f]
  rw [spec_StepText.j1, if_neg (by decide), show ((10 : Int) != 11) = true from by decide]
  rw [spec_j2 (k + 5) _ s0 _ _ _ _ _ _ h2 (by omega)]
  rw [spec_StepText.j3, if_neg (by decide), if_neg (by decide), if_neg (by decide), show ((10 : Int) == 10) = true from by decide]
  rw [spec_j4 (k + 3) _ s1 _ _ _ _ _ _ h3 (by omega)]
  rw [spec_StepText.j5, if_neg (by decide), if_neg (by decide), if_neg (by decide), if_neg (by decide), if_neg (by decide), show ((10 : Int) == 7) = false from by decide]
  rw [spec_StepText.j6, if_neg (by decide), if_neg (by decide), if_neg (by decide), show ((10 : Int) == 10) = true from by decide]
  rw [spec_j7 k _ s2 _ _ _ _ _ _ h5 (by omega)]
theorem impl_text10 (k : Nat) (a1 a2 a3 a4 a5 : Int) (h2 : 0 ≤ a2 ∧ a2 ≤ 65535) (h3 : 0 ≤ a3 ∧ a3 ≤ 65535) (h5 : 0 ≤ a5 ∧ a5 ≤ 65535) : impl_Step_text.f (k + 8) 10 a1 a2 a3 a4 a5 = some ((((⟨#[108, 101, 115, 115]⟩ : ByteArray) ++ D_ a2) ++ D_ a3) ++ D_ a5) := by
  unfold impl_Step_text.f
  rw [show impl_fields.f (k + 8) 10 = some ⟨#[100, 115, 116]⟩ by first | (simp [impl_fields.f, impl_fields.j0]; done) | simp [impl_fields.f, impl_fields.j0]]
  simp only [Option.bind_some]
  rw [show wrap64 ((10 : Int) - 1) = 9 by unfold wrap64; omega, if_pos (by decide), if_pos (by decide), show rdOf ByteArray.empty textNames_ 9 = (⟨#[108, 101, 115, 115]⟩ : ByteArray) from rfl]
  exact text_dst (k + 4) 10 a1 a2 a3 a4 a5 _ (by decide) h2 h3 h5
theorem spec_text11 (k : Nat) (o : ByteArray) (a1 a2 a3 a4 a5 : Int) (ho : o.size ≤ 1000) (hk : 65536 ≤ k)  : spec_StepText.j0 (k + 8) o false 11 a1 a2 a3 a4 a5 = some (o, true) := by
  have s0 : o.size ≤ 1000000 := by omega
  rw [spec_j0f]
  rw [spec_StepText.j1, if_neg (by decide), show ((11 : Int) != 11) = false from by decide]
  rw [spec_j2f]
  rw [spec_StepText.j3, if_neg (by decide), if_neg (by decide), if_neg (by decide), show ((11 : Int) == 10) = false from by decide]
  rw [spec_j4f]
  rw [spec_StepText.j5, if_neg (by decide), if_neg (by decide), if_neg (by decide), if_neg (by decide), if_neg (by decide), show ((11 : Int) == 7) = false from by decide]
  rw [spec_StepText.j6, if_neg (by decide), if_neg (by decide), if_neg (by decide), show ((11 : Int) == 10) = false from by decide]
  rw [spec_j7f]
theorem impl_text11 (k : Nat) (a1 a2 a3 a4 a5 : Int)  : impl_Step_text.f (k + 8) 11 a1 a2 a3 a4 a5 = some (⟨#[101, 120, 105, 116]⟩ : ByteArray) := by
  unfold impl_Step_text.f
  rw [show impl_fields.f (k + 8) 11 = some ⟨#[]⟩ by first | (simp [impl_fields.f, impl_fields.j0]; done) | simp [impl_fields.f, impl_fields.j0]]
  simp only [Option.bind_some]
  rw [show wrap64 ((11 : Int) - 1) = 10 by unfold wrap64; omega, if_pos (by decide), if_pos (by decide), show rdOf ByteArray.empty textNames_ 10 = (⟨#[101, 120, 105, 116]⟩ : ByteArray) from rfl]
  exact text_end (k + 7) 11 a1 a2 a3 a4 a5 _ _ 0 (by decide)
theorem text_both (a0 a1 a2 a3 a4 a5 : Int) (h : stepB a0 a1 a2 a3 a4 a5 = true) (k : Nat) (hk : 65536 ≤ k) : ∃ t : ByteArray, impl_Step_text.f (k + 8) a0 a1 a2 a3 a4 a5 = some t ∧ spec_StepText.f (k + 8) a0 a1 a2 a3 a4 a5 = some (t, true) := by
  obtain ⟨⟨h0, h0'⟩, h1, h2, h3, h4, h5, _⟩ := step_bd _ _ _ _ _ _ h
  replace h1 : 0 ≤ a1 ∧ a1 ≤ 65535 := by omega
  replace h2 : 0 ≤ a2 ∧ a2 ≤ 65535 := by omega
  replace h3 : 0 ≤ a3 ∧ a3 ≤ 65535 := by omega
  replace h5 : 0 ≤ a5 ∧ a5 ≤ 65535 := by omega
  unfold spec_StepText.f
  rw [specStep_val _ _ _ _ _ _ _ (by omega), h]
  simp only [Option.bind_some]
  rw [if_pos trivial]
  by_cases c1 : a0 = 1
  · subst c1
    refine ⟨_, impl_text1 k a1 a2 a3 a4 a5 h1 h2 h3, ?_⟩
    rw [if_pos (by decide), if_pos (by decide), if_pos rfl]
    exact spec_text1 k _ a1 a2 a3 a4 a5 (by decide) hk h1 h2 h3
  by_cases c2 : a0 = 2
  · subst c2
    refine ⟨_, impl_text2 k a1 a2 a3 a4 a5 h1 h2 h4, ?_⟩
    rw [if_pos (by decide), if_pos (by decide), if_neg (by decide), show ((2 : Int) == 2) = true from by decide]
    exact spec_text2 k _ a1 a2 a3 a4 a5 (by decide) hk h1 h2 h4
  by_cases c3 : a0 = 3
  · subst c3
    refine ⟨_, impl_text3 k a1 a2 a3 a4 a5 h2 h4, ?_⟩
    rw [if_pos (by decide), if_pos (by decide), if_neg (by decide), show ((3 : Int) == 2) = false from by decide]
    exact spec_text3 k _ a1 a2 a3 a4 a5 (by decide) hk h2 h4
  by_cases c4 : a0 = 4
  · subst c4
    refine ⟨_, impl_text4 k a1 a2 a3 a4 a5 h2 h4, ?_⟩
    rw [if_pos (by decide), if_pos (by decide), if_neg (by decide), show ((4 : Int) == 2) = false from by decide]
    exact spec_text4 k _ a1 a2 a3 a4 a5 (by decide) hk h2 h4
  by_cases c5 : a0 = 5
  · subst c5
    refine ⟨_, impl_text5 k a1 a2 a3 a4 a5 h2 h3 h4, ?_⟩
    rw [if_pos (by decide), if_pos (by decide), if_neg (by decide), show ((5 : Int) == 2) = false from by decide]
    exact spec_text5 k _ a1 a2 a3 a4 a5 (by decide) hk h2 h3 h4
  by_cases c6 : a0 = 6
  · subst c6
    refine ⟨_, impl_text6 k a1 a2 a3 a4 a5 h2 h4, ?_⟩
    rw [if_pos (by decide), if_pos (by decide), if_neg (by decide), show ((6 : Int) == 2) = false from by decide]
    exact spec_text6 k _ a1 a2 a3 a4 a5 (by decide) hk h2 h4
  by_cases c7 : a0 = 7
  · subst c7
    refine ⟨_, impl_text7 k a1 a2 a3 a4 a5 h2 h4, ?_⟩
    rw [if_pos (by decide), if_pos (by decide), if_neg (by decide), show ((7 : Int) == 2) = false from by decide]
    exact spec_text7 k _ a1 a2 a3 a4 a5 (by decide) hk h2 h4
  by_cases c8 : a0 = 8
  · subst c8
    refine ⟨_, impl_text8 k a1 a2 a3 a4 a5 h5, ?_⟩
    rw [if_pos (by decide), if_pos (by decide), if_neg (by decide), show ((8 : Int) == 2) = false from by decide]
    exact spec_text8 k _ a1 a2 a3 a4 a5 (by decide) hk h5
  by_cases c9 : a0 = 9
  · subst c9
    refine ⟨_, impl_text9 k a1 a2 a3 a4 a5 h2 h3 h5, ?_⟩
    rw [if_pos (by decide), if_pos (by decide), if_neg (by decide), show ((9 : Int) == 2) = false from by decide]
    exact spec_text9 k _ a1 a2 a3 a4 a5 (by decide) hk h2 h3 h5
  by_cases c10 : a0 = 10
  · subst c10
    refine ⟨_, impl_text10 k a1 a2 a3 a4 a5 h2 h3 h5, ?_⟩
    rw [if_pos (by decide), if_pos (by decide), if_neg (by decide), show ((10 : Int) == 2) = false from by decide]
    exact spec_text10 k _ a1 a2 a3 a4 a5 (by decide) hk h2 h3 h5
  by_cases c11 : a0 = 11
  · subst c11
    refine ⟨_, impl_text11 k a1 a2 a3 a4 a5 , ?_⟩
    rw [if_pos (by decide), if_pos (by decide), if_neg (by decide), show ((11 : Int) == 2) = false from by decide]
    exact spec_text11 k _ a1 a2 a3 a4 a5 (by decide) hk 
  omega

def stepNums (a0_0 a0_1 a0_2 a0_3 a0_4 a0_5 : Int) : List Int := [(wrap64 (a0_0 + (wrap64 (16 * a0_1)))) % 256, (wrap64 ((wrap64 (16 * a0_2)) + a0_3)) % 256, (a0_5) % 256, (Int.tmod a0_4 256) % 256] ++ (if a0_0 = 4 then [0, 0, 0, (wrap64 (Int.tdiv a0_4 256)) % 256] else [])
theorem specBytes_val (a0_0 a0_1 a0_2 a0_3 a0_4 a0_5 : Int) : spec_l2Bytes.f a0_0 a0_1 a0_2 a0_3 a0_4 a0_5 = some (strOfNums (stepNums a0_0 a0_1 a0_2 a0_3 a0_4 a0_5)) := by
  unfold spec_l2Bytes.f stepNums
  simp only [Option.bind_some]
  by_cases h : a0_0 = 4
  · rw [if_pos h, if_pos h, if_pos (by simp)]
  · rw [if_neg h, if_neg h, List.append_nil]
theorem implBytes_val (a0_0 a0_1 a0_2 a0_3 a0_4 a0_5 : Int) : impl_Step_bytes.f a0_0 a0_1 a0_2 a0_3 a0_4 a0_5 = some (stepNums a0_0 a0_1 a0_2 a0_3 a0_4 a0_5) := by
  unfold impl_Step_bytes.f stepNums
  simp only [Option.bind_some]
  by_cases h : a0_0 = 4
  · rw [if_pos h, if_pos h, if_pos (by simp)]
  · rw [if_neg h, if_neg h, List.append_nil]
theorem step_to (a0 a1 a2 a3 a4 a5 : Int) (h : stepB a0 a1 a2 a3 a4 a5 = true) : (0 ≤ a5 ∧ a5 ≤ 19) ∧ (0 < a5 ↔ a0 = 8 ∨ a0 = 9 ∨ a0 = 10) := by
  unfold stepB at h
  by_cases c1 : a0 = 1
  · subst c1
    simp [inB, zB] at h
    omega
  by_cases c2 : a0 = 2
  · subst c2
    simp [inB, zB] at h
    omega
  by_cases c3 : a0 = 3
  · subst c3
    simp [inB, zB] at h
    omega
  by_cases c4 : a0 = 4
  · subst c4
    simp [inB, zB] at h
    omega
  by_cases c5 : a0 = 5
  · subst c5
    simp [inB, zB] at h
    omega
  by_cases c6 : a0 = 6
  · subst c6
    simp [inB, zB] at h
    omega
  by_cases c7 : a0 = 7
  · subst c7
    simp [inB, zB] at h
    omega
  by_cases c8 : a0 = 8
  · subst c8
    simp [inB, zB] at h
    omega
  by_cases c9 : a0 = 9
  · subst c9
    simp [inB, zB] at h
    omega
  by_cases c10 : a0 = 10
  · subst c10
    simp [inB, zB] at h
    omega
  by_cases c11 : a0 = 11
  · subst c11
    simp [inB, zB] at h
    omega
  simp [c1, c2, c3, c4, c5, c6, c7, c8, c9, c10, c11] at h
def stepS (x : S31) : Bool := stepB x.f0 x.f1 x.f2 x.f3 x.f4 x.f5
def okFrom (n : Nat) : Nat → List S31 → Bool
  | _, [] => true
  | i, x :: r => stepS x && ((!(decide (0 < x.f5) && decide ((n : Int) ≤ (i : Int) + x.f5 + 1))) && okFrom n (i + 1) r)
def lastB (l : List S31) : Bool := (rd_T31 l ((l.length : Int) - 1)).f0 == 11
def goodP (l : List S31) : Bool := inB (l.length : Int) 1 20 && (lastB l && okFrom l.length 0 l)
theorem specGoodP_l (l : List S31) (hl : l.length ≤ 1048576) : ∀ (d i k : Nat), i + d = l.length → d + 10 < k → spec_GoodProgram.l0 k l l (l.length : Int) (i : Int) = some (okFrom l.length i (l.drop i) && (inB (l.length : Int) 1 20 && lastB l))
  | 0, i, k, h1, hk => by
    obtain ⟨k, rfl⟩ : ∃ m, k = m + 1 := ⟨k - 1, by omega⟩
    simp only [spec_GoodProgram.l0]
    rw [if_neg (by omega), specIn_val, List.drop_of_length_le (by omega), okFrom]
    simp only [Option.bind_some, Bool.true_and]
    cases hin : inB (l.length : Int) 1 20 with
    | false => simp
    | true =>
      simp [inB] at hin
      rw [if_pos rfl, w64 (by omega) (by omega), if_pos (by omega), if_pos (by omega)]
      simp [lastB]
  | d + 1, i, k, h1, hk => by
    obtain ⟨k, rfl⟩ : ∃ m, k = m + 1 := ⟨k - 1, by omega⟩
    simp only [spec_GoodProgram.l0]
    rw [if_pos (by omega), if_pos (by omega), if_pos (by omega), rd26_nat l i (by omega), specStep_val _ _ _ _ _ _ k (by omega), dropS_at l i (by omega), okFrom, show stepB l[i].f0 l[i].f1 l[i].f2 l[i].f3 l[i].f4 l[i].f5 = stepS l[i] from rfl]
    simp only [Option.bind_some]
    cases hs : stepS l[i] with
    | false => simp
    | true =>
      obtain ⟨hr, _⟩ := step_to _ _ _ _ _ _ hs
      rw [if_pos rfl, w64 (x := (i : Int) + l[i].f5) (by omega) (by omega), w64 (by omega) (by omega), next64 (by omega), specGoodP_l l hl d (i + 1) k (by omega) (by omega)]
      by_cases c5 : 0 < l[i].f5
      · rw [if_pos (show l[i].f5 > 0 from c5), decide_eq_true c5]
        by_cases c6 : (l.length : Int) ≤ (i : Int) + l[i].f5 + 1
        · rw [if_pos (show (i : Int) + l[i].f5 + 1 ≥ (l.length : Int) from c6), decide_eq_true c6]
          simp
        · rw [if_neg (show ¬ (i : Int) + l[i].f5 + 1 ≥ (l.length : Int) from c6), decide_eq_false c6]
          simp
      · rw [if_neg (show ¬ l[i].f5 > 0 from c5), decide_eq_false c5]
        simp
theorem specGoodP_val (l : List S31) (hl : l.length ≤ 1048576) (k : Nat) (hk : l.length + 10 < k) : spec_GoodProgram.f k l = some (goodP l) := by
  unfold spec_GoodProgram.f goodP
  have := specGoodP_l l hl l.length 0 k (by omega) (by omega)
  rw [show ((0 : Nat) : Int) = 0 from rfl] at this
  rw [this, List.drop_zero]
  cases okFrom l.length 0 l <;> cases inB (l.length : Int) 1 20 <;> cases lastB l <;> rfl
theorem implGoodP_l (l : List S31) (hl : l.length ≤ 1048576) : ∀ (d i k : Nat), i + d = l.length → d + 20 < k → impl_GoodProgram.l0 k l l (l.length : Int) (i : Int) = some (okFrom l.length i (l.drop i))
  | 0, i, k, h1, hk => by
    obtain ⟨k, rfl⟩ : ∃ m, k = m + 1 := ⟨k - 1, by omega⟩
    simp only [impl_GoodProgram.l0]
    rw [if_neg (by omega), List.drop_of_length_le (by omega), okFrom]
  | d + 1, i, k, h1, hk => by
    obtain ⟨k, rfl⟩ : ∃ m, k = m + 1 := ⟨k - 1, by omega⟩
    simp only [impl_GoodProgram.l0]
    rw [if_pos (by omega), if_pos (by omega), if_pos (by omega), rd26_nat l i (by omega), implStep_val _ _ _ _ _ _ k (by omega), dropS_at l i (by omega), okFrom, show stepB l[i].f0 l[i].f1 l[i].f2 l[i].f3 l[i].f4 l[i].f5 = stepS l[i] from rfl]
    simp only [Option.bind_some]
    cases hs : stepS l[i] with
    | false => simp
    | true =>
      obtain ⟨hr, hj⟩ := step_to _ _ _ _ _ _ hs
      have hjm : impl_Step_jumps.f l[i].f0 l[i].f1 l[i].f2 l[i].f3 l[i].f4 l[i].f5 = some (decide (0 < l[i].f5)) := by
        unfold impl_Step_jumps.f
        by_cases c8 : l[i].f0 = 8
        · rw [if_pos c8, decide_eq_true (hj.2 (Or.inl c8))]
        · rw [if_neg c8]
          by_cases c9 : l[i].f0 = 9
          · rw [if_pos c9, decide_eq_true (hj.2 (Or.inr (Or.inl c9)))]
          · rw [if_neg c9]
            by_cases c10 : l[i].f0 = 10
            · rw [decide_eq_true (hj.2 (Or.inr (Or.inr c10)))]
              simp [c10]
            · rw [decide_eq_false (fun h => by rcases hj.1 h with h | h | h <;> contradiction)]
              simp [c10]
      rw [if_pos rfl, hjm, w64 (x := (i : Int) + l[i].f5) (by omega) (by omega), w64 (by omega) (by omega), next64 (by omega), implGoodP_l l hl d (i + 1) k (by omega) (by omega)]
      simp only [Option.bind_some]
      by_cases c5 : 0 < l[i].f5
      · rw [decide_eq_true c5, if_pos rfl]
        by_cases c6 : (l.length : Int) ≤ (i : Int) + l[i].f5 + 1
        · rw [if_pos (show (i : Int) + l[i].f5 + 1 ≥ (l.length : Int) from c6), decide_eq_true c6]
          simp
        · rw [if_neg (show ¬ (i : Int) + l[i].f5 + 1 ≥ (l.length : Int) from c6), decide_eq_false c6]
          simp
      · rw [decide_eq_false c5]
        simp
theorem implGoodP_val (l : List S31) (hl : l.length ≤ 1048576) (k : Nat) (hk : l.length + 30 < k) : impl_GoodProgram.f k l = some (goodP l) := by
  obtain ⟨k, rfl⟩ : ∃ m, k = m + 1 := ⟨k - 1, by omega⟩
  unfold impl_GoodProgram.f goodP
  rw [implIn_val]
  simp only [Option.bind_some]
  cases hin : inB (l.length : Int) 1 20 with
  | false => simp [impl_GoodProgram.j0]
  | true =>
    simp [inB] at hin
    rw [if_pos rfl, w64 (by omega) (by omega), if_pos (by omega), if_pos (by omega), show ((rd_T31 l ((l.length : Int) - 1)).f0 != 11) = !(lastB l) from rfl]
    cases lastB l with
    | false => simp [impl_GoodProgram.j0]
    | true =>
      have := implGoodP_l l hl l.length 0 k (by omega) (by omega)
      rw [show ((0 : Nat) : Int) = 0 from rfl, List.drop_zero] at this
      simp [impl_GoodProgram.j0, this]

theorem nexts_same (l : List S31) (a : Int) : spec_l2Nexts.f l a = impl_nexts.f l a := rfl
theorem nexts_some (l : List S31) (a : Int) (h0 : 0 ≤ a) (h1 : a < (l.length : Int)) : ∃ x, impl_nexts.f l a = some x ∧ x.length ≤ 2 := by
  unfold impl_nexts.f
  rw [if_pos h0, if_pos h1]
  repeat' split
  all_goals exact ⟨_, rfl, by simp⟩
def nextsR (l : List S31) (a : Int) : List Int × Bool := if goodP l = true then (if 0 ≤ a ∧ a < (l.length : Int) then ((impl_nexts.f l a).getD [], true) else ([], false)) else ([], false)
theorem goodP_length {l : List S31} (h : goodP l = true) : 1 ≤ l.length ∧ l.length ≤ 20 := by
  unfold goodP at h
  rw [Bool.and_eq_true] at h
  have := h.1
  simp [inB] at this
  omega
theorem specNextsOf_val (l : List S31) (a : Int) (hll : l.length ≤ 1048576) (k : Nat) (hk : 1048700 ≤ k) : spec_NextsOf.f k l a = some (nextsR l a) := by
  unfold spec_NextsOf.f nextsR
  rw [specGoodP_val l hll k (by omega)]
  simp only [Option.bind_some]
  cases hg : goodP l with
  | false => rfl
  | true =>
    rw [if_pos rfl, if_pos rfl]
    by_cases c1 : a < 0
    · rw [if_pos c1, if_neg (by omega)]
    · rw [if_neg c1]
      by_cases c2 : a ≥ (l.length : Int)
      · rw [if_pos c2, if_neg (by omega)]
      · obtain ⟨x, hx, _⟩ := nexts_some l a (by omega) (by omega)
        rw [if_neg c2, if_pos ⟨by omega, by omega⟩, nexts_same, hx]
        rfl
theorem implNextsOf_val (l : List S31) (a : Int) (hll : l.length ≤ 1048576) (k : Nat) (hk : 1048700 ≤ k) : impl_NextsOf.f k l a = some (nextsR l a) := by
  unfold impl_NextsOf.f nextsR
  rw [implGoodP_val l hll k (by omega)]
  simp only [Option.bind_some]
  cases hg : goodP l with
  | false => rfl
  | true =>
    obtain ⟨g1, g2⟩ := goodP_length hg
    rw [if_pos rfl, if_pos rfl, implIn_val, w64 (by omega) (by omega)]
    simp only [Option.bind_some]
    by_cases c : 0 ≤ a ∧ a < (l.length : Int)
    · obtain ⟨x, hx, _⟩ := nexts_some l a c.1 c.2
      rw [if_pos c, show inB a 0 ((l.length : Int) - 1) = true by simp [inB]; omega, if_pos rfl, hx]
      rfl
    · rw [if_neg c, show inB a 0 ((l.length : Int) - 1) = false by simp [inB]; omega, if_neg Bool.false_ne_true]
theorem nextsR_length (l : List S31) (a : Int) : (nextsR l a).1.length ≤ 1048576 := by
  unfold nextsR
  split
  · split
    · rename_i _ c
      obtain ⟨x, hx, hl⟩ := nexts_some l a c.1 c.2
      rw [hx]
      simp
      omega
    · simp
  · simp

def numsS (x : S31) : List Int := stepNums x.f0 x.f1 x.f2 x.f3 x.f4 x.f5

def slotsFrom : Int → List S31 → List Int
  | _, [] => []
  | a, x :: r => a :: slotsFrom (wrap64 (a + wrap64 (((numsS x).length : Int) / 4))) r
theorem slotsFrom_length : ∀ (l : List S31) (a : Int), (slotsFrom a l).length = l.length
  | [], a => rfl
  | x :: r, a => by
    rw [slotsFrom, List.length_cons, List.length_cons, slotsFrom_length r]
theorem implSlots_l (l : List S31) (hl : l.length ≤ 1048576) : ∀ (d i k : Nat) (a : Int) (y : List Int), i + d = l.length → y.length = i → d < k → impl_SlotsOf.l0 k y a l (l.length : Int) (i : Int) = some (y ++ slotsFrom a (l.drop i), true)
  | 0, i, k, a, y, h1, h2, hk => by
    obtain ⟨k, rfl⟩ : ∃ m, k = m + 1 := ⟨k - 1, by omega⟩
    simp only [impl_SlotsOf.l0]
    rw [if_neg (by omega), List.drop_of_length_le (by omega), slotsFrom, List.append_nil]
  | d + 1, i, k, a, y, h1, h2, hk => by
    obtain ⟨k, rfl⟩ : ∃ m, k = m + 1 := ⟨k - 1, by omega⟩
    simp only [impl_SlotsOf.l0]
    rw [if_pos (by omega), if_pos (by omega), if_pos (by omega), if_pos (by omega), rd26_nat l i (by omega), implBytes_val]
    simp only [Option.bind_some]
    rw [next64 (by omega), implSlots_l l hl d (i + 1) k _ _ (by omega) (by simp [h2]) (by omega), dropS_at l i (by omega), slotsFrom, List.append_assoc]
    rfl
def slotsR (l : List S31) : List Int × Bool := if goodP l = true then (slotsFrom 0 l, true) else ([], false)
theorem implSlotsOf_val (l : List S31) (hll : l.length ≤ 1048576) (k : Nat) (hk : 1048700 ≤ k) : impl_SlotsOf.f k l = some (slotsR l) := by
  unfold impl_SlotsOf.f slotsR
  rw [implGoodP_val l hll k (by omega)]
  simp only [Option.bind_some]
  cases hg : goodP l with
  | false => rfl
  | true =>
    have := implSlots_l l hll l.length 0 k 0 [] (by omega) rfl (by omega)
    rw [if_pos rfl, if_pos rfl]
    simpa using this
theorem slotsR_length (l : List S31) (hl : l.length ≤ 1048576) : (slotsR l).1.length ≤ 1048576 := by
  unfold slotsR
  split
  · rw [slotsFrom_length]
    exact hl
  · simp

theorem specSlots_l (l : List S31) (hl : l.length ≤ 1048576) : ∀ (d i k : Nat) (a : Int) (y : List Int), i + d = l.length → y.length = i → d < k → spec_SlotsOf.l0 k a y l (l.length : Int) (i : Int) = some (y ++ slotsFrom a (l.drop i), true)
  | 0, i, k, a, y, h1, h2, hk => by
    obtain ⟨k, rfl⟩ : ∃ m, k = m + 1 := ⟨k - 1, by omega⟩
    simp only [spec_SlotsOf.l0]
    rw [if_neg (by omega), List.drop_of_length_le (by omega), slotsFrom, List.append_nil]
  | d + 1, i, k, a, y, h1, h2, hk => by
    obtain ⟨k, rfl⟩ : ∃ m, k = m + 1 := ⟨k - 1, by omega⟩
    simp only [spec_SlotsOf.l0]
    rw [if_pos (by omega), if_pos (by omega), if_pos (by omega), if_pos (by omega), rd26_nat l i (by omega), specBytes_val]
    simp only [Option.bind_some]
    rw [strOfNums_size, next64 (by omega), specSlots_l l hl d (i + 1) k _ _ (by omega) (by simp [h2]) (by omega), dropS_at l i (by omega), slotsFrom, List.append_assoc]
    rfl
theorem specSlotsOf_val (l : List S31) (hll : l.length ≤ 1048576) (k : Nat) (hk : 1048700 ≤ k) : spec_SlotsOf.f k l = some (slotsR l) := by
  unfold spec_SlotsOf.f slotsR
  rw [specGoodP_val l hll k (by omega)]
  simp only [Option.bind_some]
  cases hg : goodP l with
  | false => rfl
  | true =>
    have := specSlots_l l hll l.length 0 k 0 [] (by omega) rfl (by omega)
    rw [if_pos rfl, if_pos rfl]
    simpa using this

theorem sameInts_l (l : List Int) (hl : l.length ≤ 1048576) : ∀ (d i k : Nat), i + d = l.length → d < k → laws_sameInts.l0 k l l (l.length : Int) (i : Int) = some true
  | 0, i, k, h1, hk => by
    obtain ⟨k, rfl⟩ : ∃ m, k = m + 1 := ⟨k - 1, by omega⟩
    simp only [laws_sameInts.l0]
    rw [if_neg (by omega)]
  | d + 1, i, k, h1, hk => by
    obtain ⟨k, rfl⟩ : ∃ m, k = m + 1 := ⟨k - 1, by omega⟩
    simp only [laws_sameInts.l0, if_true]
    rw [if_pos (by omega), if_pos (by omega), if_pos (by omega), if_pos (by omega), next64 (by omega)]
    exact sameInts_l l hl d (i + 1) k (by omega) (by omega)
theorem sameInts_refl (l : List Int) (hl : l.length ≤ 1048576) (k : Nat) (hk : l.length < k) : laws_sameInts.f k l l = some true := by
  unfold laws_sameInts.f
  rw [if_pos rfl]
  exact sameInts_l l hl l.length 0 k (by omega) hk

theorem okFrom_at (n : Nat) : ∀ (l : List S31) (i : Nat), okFrom n i l = true → ∀ j (h : j < l.length), stepS l[j] = true ∧ ¬ (0 < l[j].f5 ∧ (n : Int) ≤ ((i + j : Nat) : Int) + l[j].f5 + 1)
  | [], i, h, j, hj => by simp at hj
  | x :: r, i, h, j, hj => by
    unfold okFrom at h
    rw [Bool.and_eq_true, Bool.and_eq_true] at h
    obtain ⟨h1, h2, h3⟩ := h
    cases j with
    | zero =>
      refine ⟨h1, ?_⟩
      rintro ⟨u, v⟩
      have v' : (n : Int) ≤ (i : Int) + x.f5 + 1 := v
      have u' : 0 < x.f5 := u
      rw [decide_eq_true u', decide_eq_true v'] at h2
      cases h2
    | succ j =>
      have := okFrom_at n r (i + 1) h3 j (by simpa using hj)
      rw [show i + (j + 1) = i + 1 + j by omega]
      simpa using this
theorem nexts_facts {l : List S31} (hg : goodP l = true) {a : Int} (h0 : 0 ≤ a) (h1 : a < (l.length : Int)) : ∃ x, impl_nexts.f l a = some x ∧ (∀ j (h : j < x.length), a < x[j] ∧ x[j] < (l.length : Int)) ∧ (((x.length : Int) == 0) = ((rd_T31 l a).f0 == 11)) := by
  obtain ⟨g1, g2⟩ := goodP_length hg
  unfold goodP at hg
  rw [Bool.and_eq_true, Bool.and_eq_true] at hg
  obtain ⟨_, hl, ho⟩ := hg
  obtain ⟨i, rfl⟩ : ∃ i : Nat, a = (i : Int) := ⟨a.toNat, by omega⟩
  have hi : i < l.length := by omega
  obtain ⟨hs, hn⟩ := okFrom_at l.length l 0 ho i hi
  rw [Nat.zero_add] at hn
  obtain ⟨t1, t2⟩ := step_to _ _ _ _ _ _ hs
  have hlast : l[i].f0 ≠ 11 → (i : Int) + 1 < (l.length : Int) := by
    intro hne
    by_cases e : i + 1 = l.length
    · exfalso
      unfold lastB at hl
      rw [show ((l.length : Int) - 1) = ((i : Nat) : Int) by omega, rd26_nat l i hi] at hl
      exact hne (beq_iff_eq.mp hl)
    · omega
  unfold impl_nexts.f
  rw [if_pos h0, if_pos h1, rd26_nat l i hi]
  generalize hf0 : l[i].f0 = f0 at *
  generalize hf5 : l[i].f5 = f5 at *
  by_cases c11 : f0 = 11
  · rw [if_pos c11]
    exact ⟨_, rfl, fun j h => by simp at h, by rw [c11]; rfl⟩
  · have hb : (f0 == 11) = false := beq_eq_false_iff_ne.mpr c11
    have hl2 := hlast c11
    rw [if_neg c11, hb, w64 (x := (i : Int) + 1) (by omega) (by omega), w64 (x := (i : Int) + f5) (by omega) (by omega), w64 (x := (i : Int) + f5 + 1) (by omega) (by omega)]
    by_cases c8 : f0 = 8
    · have q := t2.2 (.inl c8)
      rw [if_pos c8]
      refine ⟨_, rfl, fun j h => ?_, rfl⟩
      simp only [List.length_singleton] at h
      obtain rfl : j = 0 := by omega
      simp only [List.getElem_cons_zero]
      have : ¬ ((l.length : Int) ≤ (i : Int) + f5 + 1) := fun e => hn ⟨q, e⟩
      omega
    · rw [if_neg c8]
      by_cases c9 : f0 = 9
      · have q := t2.2 (.inr (.inl c9))
        have hq : ¬ ((l.length : Int) ≤ (i : Int) + f5 + 1) := fun e => hn ⟨q, e⟩
        rw [if_pos c9]
        refine ⟨_, rfl, fun j h => ?_, rfl⟩
        simp only [List.length_cons, List.length_nil] at h
        have : j = 0 ∨ j = 1 := by omega
        rcases this with rfl | rfl
        · simp only [List.getElem_cons_zero]
          omega
        · simp only [List.getElem_cons_succ, List.getElem_cons_zero]
          omega
      · rw [if_neg c9]
        by_cases c10 : f0 = 10
        · have q := t2.2 (.inr (.inr c10))
          have hq : ¬ ((l.length : Int) ≤ (i : Int) + f5 + 1) := fun e => hn ⟨q, e⟩
          rw [if_pos c10]
          refine ⟨_, rfl, fun j h => ?_, rfl⟩
          simp only [List.length_cons, List.length_nil] at h
          have : j = 0 ∨ j = 1 := by omega
          rcases this with rfl | rfl
          · simp only [List.getElem_cons_zero]
            omega
          · simp only [List.getElem_cons_succ, List.getElem_cons_zero]
            omega
        · rw [if_neg c10]
          refine ⟨_, rfl, fun j h => ?_, rfl⟩
          simp only [List.length_singleton] at h
          obtain rfl : j = 0 := by omega
          simp only [List.getElem_cons_zero]
          omega
theorem bytes_text (s0 s1 s2 s3 s4 s5 : Int) (k : Nat) (hk : 70000 ≤ k) : ∃ (b : ByteArray) (f : Bool) (t : ByteArray), impl_StepBytes.f k s0 s1 s2 s3 s4 s5 = some (b, f) ∧ spec_StepBytes.f k s0 s1 s2 s3 s4 s5 = some (b, f) ∧ impl_StepText.f k s0 s1 s2 s3 s4 s5 = some (t, f) ∧ spec_StepText.f k s0 s1 s2 s3 s4 s5 = some (t, f) := by
  obtain ⟨k, rfl⟩ : ∃ m, k = m + 8 := ⟨k - 8, by omega⟩
  unfold impl_StepBytes.f spec_StepBytes.f impl_StepText.f
  simp only [specStep_val s0 s1 s2 s3 s4 s5 (k + 8) (by omega), implStep_val s0 s1 s2 s3 s4 s5 (k + 8) (by omega), Option.bind_some, specBytes_val, implBytes_val]
  cases h : stepB s0 s1 s2 s3 s4 s5 with
  | false =>
    refine ⟨⟨#[]⟩, false, ⟨#[]⟩, rfl, rfl, rfl, ?_⟩
    unfold spec_StepText.f
    rw [specStep_val _ _ _ _ _ _ _ (by omega), h]
    simp
  | true =>
    obtain ⟨t, h1, h2⟩ := text_both s0 s1 s2 s3 s4 s5 h k (by omega)
    exact ⟨_, true, t, rfl, rfl, by rw [if_pos rfl, h1]; rfl, h2⟩
theorem nexts_j2 {d : List Int} (hd : U8 d) (k : Nat) (hk : 3000000 ≤ k) : laws_FnNexts.j2 k d = some true := by
  obtain ⟨k, rfl⟩ : ∃ m, k = m + 1 := ⟨k - 1, by omega⟩
  obtain ⟨l, p1, s1, e1, hl, hl1, a1, b1⟩ := program_ok hd 0 (p := 0) (by omega) (by omega) k (by omega)
  obtain ⟨r, p2, s2, e2, _, _, c2, d2, _⟩ := pick_ok hd s1 (l.length : Int) (p := p1) (by omega) (by omega)
  have d2' := d2 (by omega)
  have hD : spec_DrawStepBytes.f k d = some ((rd_T31 l r).f0, (rd_T31 l r).f1, (rd_T31 l r).f2, (rd_T31 l r).f3, (rd_T31 l r).f4, (rd_T31 l r).f5) := by
    unfold spec_DrawStepBytes.f
    rw [e1]
    simp only [Option.bind_some]
    rw [e2]
    simp only [Option.bind_some]
    rw [if_pos c2, if_pos d2']
  have hS : spec_DrawSlotsOf.f k d = some l := by
    unfold spec_DrawSlotsOf.f spec_DrawGoodProgram.f
    rw [e1]
    rfl
  obtain ⟨b, f, t, q1, q2, q3, q4⟩ := bytes_text (rd_T31 l r).f0 (rd_T31 l r).f1 (rd_T31 l r).f2 (rd_T31 l r).f3 (rd_T31 l r).f4 (rd_T31 l r).f5 k (by omega)
  have hsl := slotsR_length l (by omega)
  simp only [laws_FnNexts.j2]
  rw [hD]
  simp only [Option.bind_some]
  rw [q1, q2, q3, q4, hS]
  simp only [Option.bind_some]
  rw [implSlotsOf_val l (by omega) k (by omega), specSlotsOf_val l (by omega) k (by omega)]
  simp only [Option.bind_some, BEq.rfl, if_true]
  rw [sameInts_refl _ hsl k (by omega)]
  simp
theorem nexts_l0 {d : List Int} (hd : U8 d) (l : List S31) (a : Int) (x : List Int) (hx : x.length ≤ 2) (h0 : 0 ≤ a) (h1 : a < (l.length : Int)) (hin : ∀ j (h : j < x.length), a < x[j] ∧ x[j] < (l.length : Int)) (he : ((x.length : Int) == 0) = ((rd_T31 l a).f0 == 11)) : ∀ (n i k : Nat), i + n = x.length → 3000010 + n ≤ k → laws_FnNexts.l0 k d l a x x (x.length : Int) (i : Int) = some true
  | 0, i, k, q1, hk => by
    obtain ⟨k, rfl⟩ : ∃ m, k = m + 1 := ⟨k - 1, by omega⟩
    simp only [laws_FnNexts.l0]
    rw [if_neg (by omega), if_pos h0, if_pos h1, he, bne_self_eq_false, if_neg Bool.false_ne_true]
    exact nexts_j2 hd k (by omega)
  | n + 1, i, k, q1, hk => by
    obtain ⟨k, rfl⟩ : ∃ m, k = m + 1 := ⟨k - 1, by omega⟩
    have hi : i < x.length := by omega
    obtain ⟨u, v⟩ := hin i hi
    simp only [laws_FnNexts.l0]
    rw [if_pos (by omega), if_pos (by omega), if_pos (by omega), rd_nat x i hi, if_neg (by omega), if_neg (by omega), next64 (by omega)]
    exact nexts_l0 hd l a x hx h0 h1 hin he n (i + 1) k (by omega) (by omega)
theorem nexts_j0t {d : List Int} (hd : U8 d) (l : List S31) (a : Int) (k : Nat) (hk : 8000000 ≤ k) : laws_FnNexts.j0 k d l a (nextsR l a).1 (nextsR l a).2 false = some true := by
  obtain ⟨k, rfl⟩ : ∃ m, k = m + 1 := ⟨k - 1, by omega⟩
  simp only [laws_FnNexts.j0]
  rw [if_neg Bool.false_ne_true]
  unfold nextsR
  cases hg : goodP l with
  | false =>
    rw [if_neg Bool.false_ne_true, if_neg Bool.false_ne_true]
    exact nexts_j2 hd k (by omega)
  | true =>
    rw [if_pos rfl]
    by_cases hr : 0 ≤ a ∧ a < (l.length : Int)
    · obtain ⟨x, hx, hin, he⟩ := nexts_facts hg hr.1 hr.2
      obtain ⟨x', hx', hxl⟩ := nexts_some l a hr.1 hr.2
      obtain rfl : x' = x := Option.some.inj (hx'.symm.trans hx)
      rw [if_pos hr, hx, if_pos rfl]
      have h := nexts_l0 hd l a _ hxl hr.1 hr.2 hin he _ 0 k (Nat.zero_add _) (by omega)
      exact h
    · rw [if_neg hr, if_neg Bool.false_ne_true]
      exact nexts_j2 hd k (by omega)
theorem drawNexts_ {c : List Int} (k : Nat) (l : List S31) (p1 s1 r p2 s2 : Int) (e1 : spec_l1Cur_program.f k c 0 0 = some (l, p1, s1)) (e2 : spec_l1Cur_pick.f c p1 s1 (wrap64 ((l.length : Int) + 2)) = some (r, p2, s2)) : spec_DrawNextsOf.f k c = some (l, wrap64 (r - 1)) := by
  unfold spec_DrawNextsOf.f
  rw [e1, Option.bind_some]
  show (spec_l1Cur_pick.f c p1 s1 (wrap64 ((l.length : Int) + 2))).bind _ = _
  rw [e2, Option.bind_some]
theorem nexts_main {c d : List Int} (hc : U8 c) (hd : U8 d) (k : Nat) (hk : 9000000 ≤ k) : laws_FnNexts.f k c d = some true := by
  unfold laws_FnNexts.f
  by_cases hn : wrap64 ((c.length : Int) + (d.length : Int)) > 1048576
  · rw [if_pos hn]
  rw [if_neg hn]
  obtain ⟨l, p1, s1, e1, hl, hl1, a1, b1⟩ := program_ok hc 0 (p := 0) (by omega) (by omega) k (by omega)
  obtain ⟨r, p2, s2, e2, _, _, c2, _, _⟩ := pick_ok hc s1 (wrap64 ((l.length : Int) + 2)) (p := p1) (by omega) (by omega)
  have hD := drawNexts_ k l p1 s1 r p2 s2 e1 e2
  obtain ⟨a, ha⟩ : ∃ a, a = wrap64 (r - 1) := ⟨_, rfl⟩
  rw [← ha] at hD
  clear ha e1 e2
  rw [hD, Option.bind_some]
  have hb := nextsR_length l a
  rw [implNextsOf_val l a (by omega) k (by omega)]
  simp only [Option.bind_some]
  rw [specNextsOf_val l a (by omega) k (by omega)]
  simp only [Option.bind_some, bne_self_eq_false]
  rw [if_neg Bool.false_ne_true, sameInts_refl _ hb k (by omega)]
  simp only [Option.bind_some, Bool.not_true]
  exact nexts_j0t hd l a k (by omega)

theorem FnNexts : laws_FnNexts.Pure := by
  intro c d _ _ hc _ _ hd
  obtain ⟨k, hk⟩ : ∃ k : Nat, 9000000 ≤ k := ⟨_, Nat.le_refl _⟩
  exact ⟨k, nexts_main (u8_of hc) (u8_of hd) k hk⟩

end Go.Proofs.YtpkbjgmeejlchaaDoor.Pure
