/- The pure statement of the law FnProgram: the printed functions of the program and of the reference give the same answers, at every input that the statement's guards let in. -/
import Derived.Test.YtpkbjgmeejlchaaPFnProgramx12
import Derived.Lib.Strings
namespace Go.Proofs.Ytpkbjgmeejlchaa.Pure
open Go.RowKit Go.Proofs.Ytpkbjgmeejlchaa.PFnProgram Go.Proofs.YtpkbjgmeejlchaaW.PrintWords Go.Proofs.YtpkbjgmeejlchaaW.PrintLast Go.Proofs.YtpkbjgmeejlchaaW.PrintMore
set_option linter.unusedSimpArgs false
set_option linter.unusedVariables false
theorem w64 {x : Int} (h0 : -9223372036854775808 ≤ x) (h1 : x ≤ 9223372036854775807) : wrap64 x = x := by
  unfold wrap64
  omega
theorem rd_nat (l : List Int) (i : Nat) (h : i < l.length) : rd l (i : Int) = l[i] := by
  unfold rd
  rw [List.getD_eq_getElem?_getD, show ((i : Int).toNat) = i by omega, List.getElem?_eq_getElem h]
  rfl
theorem next64 {i : Nat} (h : i ≤ 4611686018427387904) : wrap64 ((i : Int) + 1) = ((i + 1 : Nat) : Int) := by
  rw [w64 (by omega) (by omega)]
  omega

def U8 (c : List Int) : Prop := ∀ x ∈ c, 0 ≤ x ∧ x ≤ 255
theorem u8_of {c : List Int} (h : ∀ x ∈ c, (Lit.int .u8 x).wf = true) : U8 c := fun x hx => by
  have := h x hx
  simp [Lit.wf, IntKind.min, IntKind.max, IntKind.signed, IntKind.bits] at this
  omega
theorem u64_range (x : Int) : 0 ≤ IntKind.u64.wrap x ∧ IntKind.u64.wrap x < 18446744073709551616 := by
  rw [show IntKind.u64.wrap x = x % 18446744073709551616 by simp [IntKind.wrap, IntKind.bits, IntKind.signed]]
  omega
theorem and255 {x : Int} (h0 : 0 ≤ x) (h1 : x < 18446744073709551616) : 0 ≤ Go.bits .and .u64 x 255 ∧ Go.bits .and .u64 x 255 ≤ 255 := by
  obtain ⟨n, rfl⟩ : ∃ n : Nat, x = n := ⟨x.toNat, by omega⟩
  have e : Go.bits .and .u64 (n : Int) 255 = ((n &&& 255 : Nat) : Int) := bits_and_u64_nat n 255 (by omega) (by omega)
  have : n &&& 255 ≤ 255 := Nat.and_le_right
  rw [e]
  omega
theorem next_ok {c : List Int} (hc : U8 c) {p : Int} (s : Int) (h0 : 0 ≤ p) (h1 : p ≤ 1000000000000) : ∃ b s', spec_l1Cur_next.f c p s = some (b, p + 1, s') ∧ 0 ≤ b ∧ b ≤ 255 := by
  unfold spec_l1Cur_next.f
  rw [w64 (x := p + 1) (by omega) (by omega)]
  by_cases h : p < (c.length : Int)
  · have hb : 0 ≤ rd c p ∧ rd c p ≤ 255 := by
      obtain ⟨i, rfl⟩ : ∃ i : Nat, p = i := ⟨p.toNat, by omega⟩
      rw [rd_nat c i (by omega)]
      exact hc _ (List.getElem_mem _)
    rw [if_pos h, if_pos h0, if_pos (by omega), w64 (x := rd c p) (by omega) (by omega)]
    exact ⟨_, _, rfl, hb.1, hb.2⟩
  · rw [if_neg h, if_neg (by omega)]
    have hr := u64_range (IntKind.u64.wrap (IntKind.u64.wrap (s * 6364136223846793005) + 0) + 1442695040888963407)
    have hb := and255 (x := IntKind.u64.wrap (IntKind.u64.wrap (IntKind.u64.wrap (s * 6364136223846793005) + 0) + 1442695040888963407) / 1099511627776) (by omega) (by omega)
    rw [w64 (x := Go.bits .and .u64 _ 255) (by omega) (by omega)]
    exact ⟨_, _, rfl, hb.1, hb.2⟩
theorem pick_ok {c : List Int} (hc : U8 c) {p : Int} (s : Int) (n : Int) (h0 : 0 ≤ p) (h1 : p ≤ 999999999000) : ∃ r p' s', spec_l1Cur_pick.f c p s n = some (r, p', s') ∧ p ≤ p' ∧ p' ≤ p + 2 ∧ 0 ≤ r ∧ (1 ≤ n → r < n) ∧ (n ≤ 1 → r = 0) := by
  unfold spec_l1Cur_pick.f
  by_cases h : n ≤ 1
  · rw [if_pos h]
    exact ⟨0, p, s, rfl, by omega, by omega, by omega, by omega, by omega⟩
  · rw [if_neg h]
    obtain ⟨b, s1, e1, b0, b1⟩ := next_ok hc s h0 (by omega)
    rw [e1]
    simp only [Option.bind_some]
    have ht : ∀ x : Int, 0 ≤ x → 0 ≤ Int.tmod x n ∧ Int.tmod x n < n := fun x hx => by
      rw [Int.tmod_eq_emod_of_nonneg hx]
      exact ⟨Int.emod_nonneg _ (by omega), Int.emod_lt_of_pos _ (by omega)⟩
    by_cases h2 : n > 200
    · rw [if_pos h2]
      obtain ⟨d, s2, e2, d0, d1⟩ := next_ok hc s1 (p := p + 1) (by omega) (by omega)
      rw [e2]
      simp only [Option.bind_some]
      rw [if_neg (by omega), w64 (x := b * 256) (by omega) (by omega), w64 (by omega) (by omega)]
      obtain ⟨a1, a2⟩ := ht (b * 256 + d) (by omega)
      exact ⟨_, _, _, rfl, by omega, by omega, a1, fun _ => a2, by omega⟩
    · rw [if_neg h2, if_neg (by omega)]
      obtain ⟨a1, a2⟩ := ht b b0
      exact ⟨_, _, _, rfl, by omega, by omega, a1, fun _ => a2, by omega⟩
theorem among_ok {c : List Int} (hc : U8 c) {p : Int} (s : Int) (l : List Int) (hl : 0 < l.length) (h0 : 0 ≤ p) (h1 : p ≤ 999999999000) : ∃ r p' s', spec_l1Cur_among.f c p s l = some (r, p', s') ∧ p ≤ p' ∧ p' ≤ p + 2 ∧ r ∈ l := by
  unfold spec_l1Cur_among.f
  obtain ⟨r, p', s', e, a, b, r0, r1, _⟩ := pick_ok hc s (l.length : Int) h0 h1
  have hr := r1 (by omega)
  rw [e]
  simp only [Option.bind_some]
  rw [if_pos r0, if_pos hr]
  obtain ⟨i, rfl⟩ : ∃ i : Nat, r = i := ⟨r.toNat, by omega⟩
  rw [rd_nat l i (by omega)]
  exact ⟨_, _, _, rfl, a, b, List.getElem_mem _⟩
theorem one_ok {c : List Int} (hc : U8 c) {p : Int} (s : Int) (n : Int) (h0 : 0 ≤ p) (h1 : p ≤ 999999999000) : ∃ r p' s', spec_l1Cur_one.f c p s n = some (r, p', s') ∧ p ≤ p' ∧ p' ≤ p + 2 := by
  unfold spec_l1Cur_one.f
  obtain ⟨r, p', s', e, a, b, _, _, _⟩ := pick_ok hc s n h0 h1
  rw [e]
  exact ⟨_, _, _, rfl, a, b⟩

set_option linter.unusedSimpArgs false
set_option linter.unusedVariables false
theorem rd26_nat (l : List S48) (i : Nat) (h : i < l.length) : rd_T48 l (i : Int) = l[i] := by
  unfold rd_T48
  rw [List.getD_eq_getElem?_getD, show ((i : Int).toNat) = i by omega, List.getElem?_eq_getElem h]
  rfl
theorem dropS_at (l : List S48) (i : Nat) (h : i < l.length) : l.drop i = l[i] :: l.drop (i + 1) := List.drop_eq_getElem_cons h

theorem dstep_j7 {c : List Int} (hc : U8 c) (x : Int) (b : Bool) (a0 a1 a2 a3 a4 a5 s : Int) {p : Int} (h0 : 0 ≤ p) (h1 : p ≤ 999999998000) (k : Nat) (hk : 1 ≤ k) : ∃ b0 b1 b2 b3 b4 b5 p' s', spec_l1Cur_step.j7 k x b c p s a0 a1 a2 a3 a4 a5 = some (b0, b1, b2, b3, b4, b5, p', s') ∧ p ≤ p' ∧ p' ≤ p + 2 := by
  obtain ⟨k, rfl⟩ : ∃ m, k = m + 1 := ⟨k - 1, by omega⟩
  simp only [spec_l1Cur_step.j7]
  cases b with
  | false =>
    rw [if_neg Bool.false_ne_true]
    exact ⟨_, _, _, _, _, _, _, _, rfl, by omega, by omega⟩
  | true =>
    have : ∃ y, spec_l1Least.f 4 (wrap64 (x - 1)) = some y := by
      unfold spec_l1Least.f
      split <;> exact ⟨_, rfl⟩
    obtain ⟨y, hy⟩ := this
    obtain ⟨r, p1, s1, e, a, b, _⟩ := pick_ok hc s y h0 (by omega)
    rw [if_pos rfl, hy]
    simp only [Option.bind_some]
    rw [e]
    exact ⟨_, _, _, _, _, _, _, _, rfl, a, b⟩
theorem dstep_j6 {c : List Int} (hc : U8 c) (x y : Int) (b : Bool) (a0 a1 a2 a3 a4 a5 s : Int) {p : Int} (h0 : 0 ≤ p) (h1 : p ≤ 999999998000) (k : Nat) (hk : 2 ≤ k) : ∃ b0 b1 b2 b3 b4 b5 p' s', spec_l1Cur_step.j6 k x y b c p s a0 a1 a2 a3 a4 a5 = some (b0, b1, b2, b3, b4, b5, p', s') ∧ p ≤ p' ∧ p' ≤ p + 2 := by
  obtain ⟨k, rfl⟩ : ∃ m, k = m + 1 := ⟨k - 1, by omega⟩
  simp only [spec_l1Cur_step.j6]
  cases b with
  | true =>
    obtain ⟨r, p1, s1, e, a, b, _⟩ := pick_ok hc s 18 h0 (by omega)
    rw [if_pos rfl, e]
    exact ⟨_, _, _, _, _, _, _, _, rfl, a, b⟩
  | false =>
    rw [if_neg Bool.false_ne_true]
    by_cases c8 : y = 8
    · rw [if_pos c8]
      exact dstep_j7 hc x _ a0 a1 a2 a3 a4 a5 s h0 h1 k (by omega)
    · rw [if_neg c8]
      by_cases c9 : y = 9
      · rw [if_pos c9]
        exact dstep_j7 hc x _ a0 a1 a2 a3 a4 a5 s h0 h1 k (by omega)
      · rw [if_neg c9]
        exact dstep_j7 hc x _ a0 a1 a2 a3 a4 a5 s h0 h1 k (by omega)
theorem dstep_j5 {c : List Int} (hc : U8 c) (x y : Int) (b : Bool) (a0 a1 a2 a3 a4 a5 s : Int) {p : Int} (h0 : 0 ≤ p) (h1 : p ≤ 999999990000) (k : Nat) (hk : 3 ≤ k) : ∃ b0 b1 b2 b3 b4 b5 p' s', spec_l1Cur_step.j5 k x y b c p s a0 a1 a2 a3 a4 a5 = some (b0, b1, b2, b3, b4, b5, p', s') ∧ p ≤ p' ∧ p' ≤ p + 6 := by
  obtain ⟨k, rfl⟩ : ∃ m, k = m + 1 := ⟨k - 1, by omega⟩
  have h6 : ∀ b, ∃ b0 b1 b2 b3 b4 b5 p' s', spec_l1Cur_step.j6 k x y b c p s a0 a1 a2 a3 a4 a5 = some (b0, b1, b2, b3, b4, b5, p', s') ∧ p ≤ p' ∧ p' ≤ p + 6 := fun b => by
    obtain ⟨b0, b1, b2, b3, b4, b5, p', s', e, a, d⟩ := dstep_j6 hc x y b a0 a1 a2 a3 a4 a5 s h0 (by omega) k (by omega)
    exact ⟨b0, b1, b2, b3, b4, b5, p', s', e, a, by omega⟩
  simp only [spec_l1Cur_step.j5]
  cases b with
  | true =>
    obtain ⟨r, p1, s1, e, a, b, _⟩ := pick_ok hc s 20 h0 (by omega)
    obtain ⟨r2, p2, s2, e2, a2', b2', _⟩ := among_ok hc s1 [0, 1, 3, 7, 255, r] (p := p1) (by simp) (by omega) (by omega)
    rw [if_pos rfl, e]
    simp only [Option.bind_some]
    rw [e2]
    exact ⟨_, _, _, _, _, _, _, _, rfl, (by omega : p ≤ p2), (by omega : p2 ≤ p + 6)⟩
  | false =>
    rw [if_neg Bool.false_ne_true]
    by_cases c4 : y = 4
    · rw [if_pos c4]
      obtain ⟨r, p1, s1, e, a, b, _⟩ := pick_ok hc s 256 h0 (by omega)
      obtain ⟨r2, p2, s2, e2, a2', b2', _⟩ := pick_ok hc s1 250 (p := p1) (by omega) (by omega)
      obtain ⟨r3, p3, s3, e3, a3', b3', _⟩ := among_ok hc s2 [256, 65535, wrap64 (256 + (wrap64 (r * r2)))] (p := p2) (by simp) (by omega) (by omega)
      rw [e]
      simp only [Option.bind_some]
      rw [e2]
      simp only [Option.bind_some]
      rw [e3]
      exact ⟨_, _, _, _, _, _, _, _, rfl, (by omega : p ≤ p3), (by omega : p3 ≤ p + 6)⟩
    · rw [if_neg c4]
      by_cases c5 : y = 5
      · rw [if_pos c5]
        obtain ⟨r, p1, s1, e, a, b, _⟩ := pick_ok hc s 5 h0 (by omega)
        rw [e]
        exact ⟨_, _, _, _, _, _, _, _, rfl, (by omega : p ≤ p1), (by omega : p1 ≤ p + 6)⟩
      · rw [if_neg c5]
        by_cases c6 : y = 6
        · rw [if_pos c6]
          exact h6 _
        · rw [if_neg c6]
          exact h6 _
theorem dstep_j4 {c : List Int} (hc : U8 c) (x a0 a1 a2 a3 a4 a5 s : Int) {p : Int} (h0 : 0 ≤ p) (h1 : p ≤ 999999990000) (k : Nat) (hk : 4 ≤ k) : ∃ b0 b1 b2 b3 b4 b5 p' s', spec_l1Cur_step.j4 k x c p s a0 a1 a2 a3 a4 a5 = some (b0, b1, b2, b3, b4, b5, p', s') ∧ p ≤ p' ∧ p' ≤ p + 6 := by
  obtain ⟨k, rfl⟩ : ∃ m, k = m + 1 := ⟨k - 1, by omega⟩
  simp only [spec_l1Cur_step.j4]
  by_cases c2 : a0 = 2
  · rw [if_pos c2]
    exact dstep_j5 hc x _ _ a0 a1 a2 a3 a4 a5 s h0 h1 k (by omega)
  · rw [if_neg c2]
    exact dstep_j5 hc x _ _ a0 a1 a2 a3 a4 a5 s h0 h1 k (by omega)
theorem dstep_j3 {c : List Int} (hc : U8 c) (x a0 a1 a2 a3 a4 a5 s : Int) {p : Int} (h0 : 0 ≤ p) (h1 : p ≤ 999999980000) (k : Nat) (hk : 5 ≤ k) : ∃ b0 b1 b2 b3 b4 b5 p' s', spec_l1Cur_step.j3 k x c p s a0 a1 a2 a3 a4 a5 = some (b0, b1, b2, b3, b4, b5, p', s') ∧ p ≤ p' ∧ p' ≤ p + 8 := by
  obtain ⟨k, rfl⟩ : ∃ m, k = m + 1 := ⟨k - 1, by omega⟩
  have h4 : ∀ (a1 : Int) (q s : Int), p ≤ q → q ≤ p + 2 → ∃ b0 b1 b2 b3 b4 b5 p' s', spec_l1Cur_step.j4 k x c q s a0 a1 a2 a3 a4 a5 = some (b0, b1, b2, b3, b4, b5, p', s') ∧ p ≤ p' ∧ p' ≤ p + 8 := fun a1 q s g1 g2 => by
    obtain ⟨b0, b1, b2, b3, b4, b5, p', s', e, a, d⟩ := dstep_j4 hc x a0 a1 a2 a3 a4 a5 s (p := q) (by omega) (by omega) k (by omega)
    exact ⟨b0, b1, b2, b3, b4, b5, p', s', e, by omega, by omega⟩
  obtain ⟨r, p1, s1, e, a, b, _⟩ := pick_ok hc s 10 h0 (by omega)
  simp only [spec_l1Cur_step.j3]
  rw [e]
  simp only [Option.bind_some]
  by_cases c1 : a0 = 1
  · rw [if_pos c1]
    exact h4 _ _ _ a b
  · rw [if_neg c1]
    by_cases c2 : a0 = 2
    · rw [if_pos c2]
      exact h4 _ _ _ a b
    · rw [if_neg c2]
      exact h4 _ _ _ (by omega) (by omega)
theorem dstep_j2 {c : List Int} (hc : U8 c) (x a0 a1 a2 a3 a4 a5 s : Int) {p : Int} (h0 : 0 ≤ p) (h1 : p ≤ 999999970000) (k : Nat) (hk : 6 ≤ k) : ∃ b0 b1 b2 b3 b4 b5 p' s', spec_l1Cur_step.j2 k x c p s a0 a1 a2 a3 a4 a5 = some (b0, b1, b2, b3, b4, b5, p', s') ∧ p ≤ p' ∧ p' ≤ p + 10 := by
  obtain ⟨k, rfl⟩ : ∃ m, k = m + 1 := ⟨k - 1, by omega⟩
  have h4 : ∀ (a2 : Int) (q s : Int), p ≤ q → q ≤ p + 2 → ∃ b0 b1 b2 b3 b4 b5 p' s', spec_l1Cur_step.j3 k x c q s a0 a1 a2 a3 a4 a5 = some (b0, b1, b2, b3, b4, b5, p', s') ∧ p ≤ p' ∧ p' ≤ p + 10 := fun a2 q s g1 g2 => by
    obtain ⟨b0, b1, b2, b3, b4, b5, p', s', e, a, d⟩ := dstep_j3 hc x a0 a1 a2 a3 a4 a5 s (p := q) (by omega) (by omega) k (by omega)
    exact ⟨b0, b1, b2, b3, b4, b5, p', s', e, by omega, by omega⟩
  obtain ⟨r, p1, s1, e, a, b, _⟩ := pick_ok hc s 3 h0 (by omega)
  simp only [spec_l1Cur_step.j2]
  rw [e]
  simp only [Option.bind_some]
  by_cases c1 : a0 = 8
  · rw [if_pos c1]
    exact h4 _ _ _ (by omega) (by omega)
  · rw [if_neg c1]
    exact h4 _ _ _ a b
theorem dstep_j1 {c : List Int} (hc : U8 c) (x a0 a1 a2 a3 a4 a5 s : Int) {p : Int} (h0 : 0 ≤ p) (h1 : p ≤ 999999960000) (k : Nat) (hk : 7 ≤ k) : ∃ b0 b1 b2 b3 b4 b5 p' s', spec_l1Cur_step.j1 k x c p s a0 a1 a2 a3 a4 a5 = some (b0, b1, b2, b3, b4, b5, p', s') ∧ p ≤ p' ∧ p' ≤ p + 12 := by
  obtain ⟨k, rfl⟩ : ∃ m, k = m + 1 := ⟨k - 1, by omega⟩
  have h4 : ∀ (a3 : Int) (q s : Int), p ≤ q → q ≤ p + 2 → ∃ b0 b1 b2 b3 b4 b5 p' s', spec_l1Cur_step.j2 k x c q s a0 a1 a2 a3 a4 a5 = some (b0, b1, b2, b3, b4, b5, p', s') ∧ p ≤ p' ∧ p' ≤ p + 12 := fun a3 q s g1 g2 => by
    obtain ⟨b0, b1, b2, b3, b4, b5, p', s', e, a, d⟩ := dstep_j2 hc x a0 a1 a2 a3 a4 a5 s (p := q) (by omega) (by omega) k (by omega)
    exact ⟨b0, b1, b2, b3, b4, b5, p', s', e, by omega, by omega⟩
  obtain ⟨r, p1, s1, e, a, b, _⟩ := pick_ok hc s 3 h0 (by omega)
  simp only [spec_l1Cur_step.j1]
  rw [e]
  simp only [Option.bind_some]
  by_cases c1 : a0 = 1
  · rw [if_pos c1]
    exact h4 _ _ _ a b
  rw [if_neg c1]
  by_cases c2 : a0 = 5
  · rw [if_pos c2]
    exact h4 _ _ _ a b
  rw [if_neg c2]
  by_cases c3 : a0 = 9
  · rw [if_pos c3]
    exact h4 _ _ _ a b
  rw [if_neg c3]
  by_cases c4 : a0 = 10
  · rw [if_pos c4]
    exact h4 _ _ _ a b
  rw [if_neg c4]
  exact h4 _ _ _ (by omega) (by omega)
theorem dstep_ok {c : List Int} (hc : U8 c) (x s : Int) {p : Int} (h0 : 0 ≤ p) (h1 : p ≤ 999999950000) (k : Nat) (hk : 8 ≤ k) : ∃ b0 b1 b2 b3 b4 b5 p' s', spec_l1Cur_step.f k c p s x = some (b0, b1, b2, b3, b4, b5, p', s') ∧ p ≤ p' ∧ p' ≤ p + 14 := by
  obtain ⟨k, rfl⟩ : ∃ m, k = m + 1 := ⟨k - 1, by omega⟩
  obtain ⟨r, p1, s1, e, a, b, _⟩ := among_ok hc s [1, 1, 2, 2, 2, 3, 3, 4, 5, 5, 6, 7, 7, 8, 9, 10, 10] (p := p) (by simp) h0 (by omega)
  have hj : ∀ y : Bool, ∃ b0 b1 b2 b3 b4 b5 p' s', spec_l1Cur_step.j0 (k + 1) x y c p1 s1 r 0 0 0 0 0 = some (b0, b1, b2, b3, b4, b5, p', s') ∧ p ≤ p' ∧ p' ≤ p + 14 := by
    intro y
    have h4 : ∀ a0 : Int, ∃ b0 b1 b2 b3 b4 b5 p' s', spec_l1Cur_step.j1 k x c p1 s1 a0 0 0 0 0 0 = some (b0, b1, b2, b3, b4, b5, p', s') ∧ p ≤ p' ∧ p' ≤ p + 14 := fun a0 => by
      obtain ⟨b0, b1, b2, b3, b4, b5, p', s', e, a, d⟩ := dstep_j1 hc x a0 0 0 0 0 0 s1 (p := p1) (by omega) (by omega) k (by omega)
      exact ⟨b0, b1, b2, b3, b4, b5, p', s', e, by omega, by omega⟩
    simp only [spec_l1Cur_step.j0]
    cases y with
    | true =>
      rw [if_pos rfl]
      exact h4 _
    | false =>
      rw [if_neg Bool.false_ne_true]
      exact h4 _
  unfold spec_l1Cur_step.f
  rw [e]
  simp only [Option.bind_some]
  by_cases c8 : r ≥ 8
  · rw [if_pos c8]
    exact hj _
  · rw [if_neg c8]
    exact hj _
theorem dprog_l0 {c : List Int} (hc : U8 c) (N : Nat) (hN : N ≤ 100) : ∀ (n i : Nat) (k : Nat) (y : List S48) (p s : Int), i + n = N → y.length = i → 0 ≤ p → p + 14 * (n : Int) ≤ 999999900000 → n + 10 ≤ k → ∃ l p' s', spec_l1Cur_program.l0 k y (N : Int) (i : Int) c p s = some (l, p', s') ∧ l.length = N + 1 ∧ p ≤ p' ∧ p' ≤ p + 14 * (n : Int) + 20
  | 0, i, k, y, p, s, h1, h2, h0, h3, hk => by
    obtain ⟨k, rfl⟩ : ∃ m, k = m + 1 := ⟨k - 1, by omega⟩
    simp only [spec_l1Cur_program.l0]
    rw [if_neg (by omega), if_pos (by omega)]
    obtain ⟨b, p1, s1, e1, a1, b1⟩ := one_ok hc s 30 (p := p) h0 (by omega)
    have hy : (y ++ [(⟨11, 0, 0, 0, 0, 0⟩ : S48)]).length = N + 1 := by simp; omega
    simp only [Option.bind_some]
    rw [e1]
    simp only [Option.bind_some]
    cases b with
    | false =>
      rw [if_neg Bool.false_ne_true]
      exact ⟨_, _, _, rfl, hy, (by omega : p ≤ p1), (by omega : p1 ≤ p + 14 * ((0 : Nat) : Int) + 20)⟩
    | true =>
      rw [if_pos rfl]
      obtain ⟨r2, p2, s2, e2, a2, b2, c2, d2, _⟩ := pick_ok hc s1 ((y ++ [(⟨11, 0, 0, 0, 0, 0⟩ : S48)]).length : Int) (p := p1) (by omega) (by omega)
      obtain ⟨r3, p3, s3, e3, a3, b3, _⟩ := pick_ok hc s2 13 (p := p2) (by omega) (by omega)
      obtain ⟨r4, p4, s4, e4, a4, b4, _⟩ := pick_ok hc s3 3 (p := p3) (by omega) (by omega)
      obtain ⟨r5, p5, s5, e5, a5, b5, _⟩ := pick_ok hc s4 8 (p := p4) (by omega) (by omega)
      obtain ⟨r6, p6, s6, e6, a6, b6, _⟩ := among_ok hc s5 [0, 255, 256, 65536] (p := p5) (by simp) (by omega) (by omega)
      obtain ⟨r7, p7, s7, e7, a7, b7, _⟩ := pick_ok hc s6 4 (p := p6) (by omega) (by omega)
      have d2' := d2 (by omega)
      rw [e2]
      simp only [Option.bind_some]
      rw [e3]
      simp only [Option.bind_some]
      rw [e4]
      simp only [Option.bind_some]
      rw [e5]
      simp only [Option.bind_some]
      rw [e6]
      simp only [Option.bind_some]
      rw [e7]
      simp only [Option.bind_some]
      rw [if_pos c2, if_pos d2']
      exact ⟨_, _, _, rfl, by rw [List.length_set]; exact hy, (by omega : p ≤ p7), (by omega : p7 ≤ p + 14 * ((0 : Nat) : Int) + 20)⟩
  | n + 1, i, k, y, p, s, h1, h2, h0, h3, hk => by
    obtain ⟨k, rfl⟩ : ∃ m, k = m + 1 := ⟨k - 1, by omega⟩
    simp only [spec_l1Cur_program.l0]
    rw [if_pos (by omega)]
    obtain ⟨q0, q1, q2, q3, q4, q5, p1, s1, e1, a1, b1⟩ := dstep_ok hc (wrap64 ((N : Int) - (i : Int))) s (p := p) h0 (by omega) k (by omega)
    rw [e1]
    simp only [Option.bind_some]
    rw [if_pos (by omega), next64 (by omega)]
    obtain ⟨l, p2, s2, e2, hl, a2, b2⟩ := dprog_l0 hc N hN n (i + 1) k (y ++ [(⟨q0, q1, q2, q3, q4, q5⟩ : S48)]) p1 s1 (by omega) (by simp; omega) (by omega) (by omega) (by omega)
    exact ⟨l, p2, s2, e2, hl, by omega, by omega⟩
theorem program_ok {c : List Int} (hc : U8 c) (s : Int) {p : Int} (h0 : 0 ≤ p) (h1 : p ≤ 999999800000) (k : Nat) (hk : 100 ≤ k) : ∃ l p' s', spec_l1Cur_program.f k c p s = some (l, p', s') ∧ l.length ≤ 20 ∧ 1 ≤ l.length ∧ p ≤ p' ∧ p' ≤ p + 500 := by
  unfold spec_l1Cur_program.f
  obtain ⟨n, p1, s1, e1, a1, b1, n0, n1, _⟩ := pick_ok hc s 12 h0 (by omega)
  replace n1 := n1 (by omega)
  obtain ⟨b, p2, s2, e2, a2, b2⟩ := one_ok hc s1 30 (p := p1) (by omega) (by omega)
  rw [e1]
  simp only [Option.bind_some]
  rw [e2]
  simp only [Option.bind_some]
  have hj : ∀ N : Nat, N ≤ 19 → ∃ l p' s', spec_l1Cur_program.j0 k [] (N : Int) c p2 s2 = some (l, p', s') ∧ l.length ≤ 20 ∧ 1 ≤ l.length ∧ p ≤ p' ∧ p' ≤ p + 500 := by
    intro N hN
    obtain ⟨k, rfl⟩ : ∃ m, k = m + 1 := ⟨k - 1, by omega⟩
    simp only [spec_l1Cur_program.j0]
    obtain ⟨l, p3, s3, e3, hl, a3, b3⟩ := dprog_l0 hc N (by omega) N 0 k [] p2 s2 (by omega) rfl (by omega) (by omega) (by omega)
    exact ⟨l, p3, s3, e3, by omega, by omega, by omega, by omega⟩
  cases b with
  | true =>
    rw [if_pos rfl]
    exact hj 19 (by omega)
  | false =>
    rw [if_neg Bool.false_ne_true]
    obtain ⟨m, rfl⟩ : ∃ m : Nat, n = m := ⟨n.toNat, by omega⟩
    exact hj m (by omega)

theorem spoilt_j1 {c : List Int} (hc : U8 c) (z : ByteArray) (hz : 0 < z.size) (n : Nat) (hn : n ≤ 100) (a : ByteArray) (k : Nat) (p s : Int) (h1 : a.size ≤ 100000) (h0 : 0 ≤ p) (h3 : p ≤ 999999900000) (ih : ∀ (b : ByteArray) (q t : Int), b.size ≤ a.size + 1 → p ≤ q → q ≤ p + 6 → ∃ r p' s', spec_l1Cur_spoilt.l0 k b z (n : Int) c q t = some (r, p', s')) : ∃ r p' s', spec_l1Cur_spoilt.j1 (k + 1) a z ((n + 1 : Nat) : Int) (decide ((a.size : Int) > 0)) c p s = some (r, p', s') := by
  simp only [spec_l1Cur_spoilt.j1]
  by_cases ha : (a.size : Int) > 0
  · rw [decide_eq_true ha, if_pos rfl]
    obtain ⟨r1, p1, s1, e1, a1, b1, c1, d1, y1⟩ := pick_ok hc s (a.size : Int) (p := p) h0 (by omega)
    obtain ⟨r2, p2, s2, e2, a2, b2, c2, d2, y2⟩ := pick_ok hc s1 (z.size : Int) (p := p1) (by omega) (by omega)
    obtain ⟨r3, p3, s3, e3, a3, b3, y3⟩ := pick_ok hc s2 3 (p := p2) (by omega) (by omega)
    have d1' := d1 (by omega)
    have d2' := d2 (by omega)
    clear d1 d2 y1 y2 y3
    rw [e1]
    simp only [Option.bind_some]
    rw [e2]
    simp only [Option.bind_some]
    rw [e3]
    simp only [Option.bind_some]
    obtain ⟨i, rfl⟩ : ∃ i : Nat, r1 = i := ⟨r1.toNat, by omega⟩
    have e4 : wrap64 ((i : Int) + 1) = ((i + 1 : Nat) : Int) := next64 (by omega)
    have e5 : wrap64 (((n + 1 : Nat) : Int) - 1) = (n : Int) := by
      rw [w64 (by omega) (by omega)]
      omega
    have g1 : (a.extract 0 i).size = i := by rw [ByteArray.size_extract]; omega
    have g2 : (a.extract i a.size).size = a.size - i := by rw [ByteArray.size_extract]; omega
    have g3 : (a.extract (i + 1) a.size).size = a.size - (i + 1) := by rw [ByteArray.size_extract]; omega
    have g4 : (strOfNums [bt z r2]).size = 1 := by rw [strOfNums_size]; rfl
    rw [e4, e5, Int.toNat_natCast, Int.toNat_natCast, if_pos c2, if_pos d2']
    by_cases q0 : r3 = 0
    · rw [if_pos q0, if_pos (by omega), if_pos (by omega), if_pos (by omega), if_pos (by simp only [ByteArray.size_append]; omega)]
      exact ih _ _ _ (by simp only [ByteArray.size_append, g1, g2, g3, g4]; omega) (by omega) (by omega)
    · rw [if_neg q0]
      by_cases q1 : r3 = 1
      · rw [if_pos q1, if_pos (by omega), if_pos (by omega), if_pos (by omega), if_pos (by omega), if_pos (by omega), if_pos (by simp only [ByteArray.size_append]; omega)]
        exact ih _ _ _ (by simp only [ByteArray.size_append, g1, g2, g3, g4]; omega) (by omega) (by omega)
      · rw [if_neg q1, if_pos (by omega), if_pos (by omega), if_pos (by omega), if_pos (by omega), if_pos (by omega)]
        exact ih _ _ _ (by simp only [ByteArray.size_append, g1, g2, g3, g4]; omega) (by omega) (by omega)
  · rw [decide_eq_false ha, if_neg Bool.false_ne_true]
    exact ⟨_, _, _, rfl⟩
theorem spoilt_l0 {c : List Int} (hc : U8 c) (z : ByteArray) (hz : 0 < z.size) : ∀ (n : Nat) (a : ByteArray) (k : Nat) (p s : Int), n ≤ 100 → a.size + n ≤ 100000 → 0 ≤ p → p + 6 * (n : Int) ≤ 999999900000 → 2 * n + 2 ≤ k → ∃ r p' s', spec_l1Cur_spoilt.l0 k a z (n : Int) c p s = some (r, p', s')
  | 0, a, k, p, s, hn, h1, h0, h3, hk => by
    obtain ⟨k, rfl⟩ : ∃ m, k = m + 2 := ⟨k - 2, by omega⟩
    simp only [spec_l1Cur_spoilt.l0, spec_l1Cur_spoilt.j1]
    rw [if_neg (by omega), if_neg Bool.false_ne_true]
    exact ⟨_, _, _, rfl⟩
  | n + 1, a, k, p, s, hn, h1, h0, h3, hk => by
    obtain ⟨k, rfl⟩ : ∃ m, k = m + 2 := ⟨k - 2, by omega⟩
    have ih : ∀ (b : ByteArray) (q t : Int), b.size ≤ a.size + 1 → p ≤ q → q ≤ p + 6 → ∃ r p' s', spec_l1Cur_spoilt.l0 k b z (n : Int) c q t = some (r, p', s') := fun b q t x1 x2 x3 => spoilt_l0 hc z hz n b k q t (by omega) (by omega) (by omega) (by omega) (by omega)
    have h := spoilt_j1 hc z hz n (by omega) a k p s (by omega) h0 (by omega) ih
    simp only [spec_l1Cur_spoilt.l0]
    by_cases ha : (a.size : Int) > 0
    · rw [decide_eq_true ha] at h ⊢
      rw [if_pos (by omega)]
      exact h
    · rw [decide_eq_false ha] at h ⊢
      rw [if_pos (by omega)]
      exact h
theorem spoilt_ok {c : List Int} (hc : U8 c) (z : ByteArray) (hz : 0 < z.size) (hz2 : z.size ≤ 100) (a : ByteArray) (ha : a.size ≤ 1000) {p : Int} (s : Int) (h0 : 0 ≤ p) (h1 : p ≤ 999999800000) (k : Nat) (hk : 100 ≤ k) : ∃ r p' s', spec_l1Cur_spoilt.f k c p s a z = some (r, p', s') := by
  unfold spec_l1Cur_spoilt.f
  obtain ⟨n, p1, s1, e1, a1, b1, n0, n1, _⟩ := pick_ok hc s 3 h0 (by omega)
  replace n1 := n1 (by omega)
  obtain ⟨m, rfl⟩ : ∃ m : Nat, n = m := ⟨n.toNat, by omega⟩
  rw [e1]
  simp only [Option.bind_some]
  exact spoilt_l0 hc z hz m a k p1 s1 (by omega) (by omega) (by omega) (by omega) (by omega)

set_option linter.unusedSimpArgs false
set_option linter.unusedVariables false
def inB (a lo hi : Int) : Bool := decide (lo ≤ a) && decide (a ≤ hi)
theorem specIn_val (a lo hi : Int) : spec_l1In.f a lo hi = some (inB a lo hi) := by
  unfold spec_l1In.f inB
  by_cases h : lo ≤ a
  · rw [if_pos (by omega)]
    simp [h]
  · rw [if_neg (by omega)]
    simp [h]
theorem implIn_val (a lo hi : Int) : impl_in.f a lo hi = some (inB a lo hi) := by
  unfold impl_in.f inB
  by_cases h : lo ≤ a
  · rw [if_pos (by omega)]
    simp [h]
  · rw [if_neg (by omega)]
    simp [h]
def zB (a1 a2 a3 a4 a5 : Int) (f1 f2 f3 f4 f5 : Bool) : Bool := (f1 || a1 == 0) && ((f2 || a2 == 0) && ((f3 || a3 == 0) && ((f4 || a4 == 0) && (f5 || a5 == 0))))
theorem specZero_val (a0 a1 a2 a3 a4 a5 : Int) (f1 f2 f3 f4 f5 : Bool) : spec_l2Zero.f a0 a1 a2 a3 a4 a5 f1 f2 f3 f4 f5 = some (zB a1 a2 a3 a4 a5 f1 f2 f3 f4 f5) := by
  unfold spec_l2Zero.f zB
  cases f1 <;> cases f2 <;> cases f3 <;> cases f4 <;> cases f5 <;> simp only [Bool.false_eq_true, if_true, if_false, Bool.true_or, Bool.false_or, Bool.true_and, Bool.and_true] <;> (repeat' split) <;> simp [*]
/-- A step is well formed. -/
def stepB (a0_0 a0_1 a0_2 a0_3 a0_4 a0_5 : Int) : Bool := inB a0_2 0 5 && (inB a0_3 0 5 &&
  (if a0_0 = 1 then inB a0_1 1 10 && zB a0_1 a0_2 a0_3 a0_4 a0_5 true true true false false
  else if a0_0 = 2 then inB a0_1 1 10 && (inB a0_4 0 255 && zB a0_1 a0_2 a0_3 a0_4 a0_5 true true false true false)
  else if a0_0 = 3 then inB a0_4 0 255 && zB a0_1 a0_2 a0_3 a0_4 a0_5 false true false true false
  else if a0_0 = 4 then inB a0_4 256 65535 && zB a0_1 a0_2 a0_3 a0_4 a0_5 false true false true false
  else if a0_0 = 5 then inB a0_4 0 7 && zB a0_1 a0_2 a0_3 a0_4 a0_5 false true true true false
  else if a0_0 = 6 then inB a0_4 0 255 && zB a0_1 a0_2 a0_3 a0_4 a0_5 false true false true false
  else if a0_0 = 7 then inB a0_4 0 255 && zB a0_1 a0_2 a0_3 a0_4 a0_5 false true false true false
  else if a0_0 = 8 then inB a0_5 1 19 && zB a0_1 a0_2 a0_3 a0_4 a0_5 false false false false true
  else if a0_0 = 9 then inB a0_5 1 19 && zB a0_1 a0_2 a0_3 a0_4 a0_5 false true true false true
  else if a0_0 = 10 then inB a0_5 1 19 && zB a0_1 a0_2 a0_3 a0_4 a0_5 false true true false true
  else if a0_0 = 11 then zB a0_1 a0_2 a0_3 a0_4 a0_5 false false false false false
  else false))
theorem specStep_val (a0_0 a0_1 a0_2 a0_3 a0_4 a0_5 : Int) (k : Nat) (hk : 3 ≤ k) : spec_l2Step.f k a0_0 a0_1 a0_2 a0_3 a0_4 a0_5 = some (stepB a0_0 a0_1 a0_2 a0_3 a0_4 a0_5) := by
  obtain ⟨k, rfl⟩ : ∃ m, k = m + 3 := ⟨k - 3, by omega⟩
  unfold spec_l2Step.f spec_l2Reg.f stepB
  simp only [specIn_val, Option.bind_some, spec_l2Step.j0, spec_l2Step.j1, spec_l2Step.j2, specZero_val]
  cases inB a0_2 0 5 with
  | false => simp
  | true =>
    cases inB a0_3 0 5 with
    | false => simp
    | true =>
      simp only [Bool.true_and, if_true, Bool.not_true, Bool.false_eq_true, if_false]
      by_cases c1 : a0_0 = 1
      · subst c1
        cases inB a0_1 1 10 <;> cases inB a0_4 0 255 <;> cases inB a0_4 256 65535 <;> cases inB a0_4 0 7 <;> cases inB a0_5 1 19 <;> simp
      by_cases c2 : a0_0 = 2
      · subst c2
        cases inB a0_1 1 10 <;> cases inB a0_4 0 255 <;> cases inB a0_4 256 65535 <;> cases inB a0_4 0 7 <;> cases inB a0_5 1 19 <;> simp
      by_cases c3 : a0_0 = 3
      · subst c3
        cases inB a0_1 1 10 <;> cases inB a0_4 0 255 <;> cases inB a0_4 256 65535 <;> cases inB a0_4 0 7 <;> cases inB a0_5 1 19 <;> simp
      by_cases c4 : a0_0 = 4
      · subst c4
        cases inB a0_1 1 10 <;> cases inB a0_4 0 255 <;> cases inB a0_4 256 65535 <;> cases inB a0_4 0 7 <;> cases inB a0_5 1 19 <;> simp
      by_cases c5 : a0_0 = 5
      · subst c5
        cases inB a0_1 1 10 <;> cases inB a0_4 0 255 <;> cases inB a0_4 256 65535 <;> cases inB a0_4 0 7 <;> cases inB a0_5 1 19 <;> simp
      by_cases c6 : a0_0 = 6
      · subst c6
        cases inB a0_1 1 10 <;> cases inB a0_4 0 255 <;> cases inB a0_4 256 65535 <;> cases inB a0_4 0 7 <;> cases inB a0_5 1 19 <;> simp
      by_cases c7 : a0_0 = 7
      · subst c7
        cases inB a0_1 1 10 <;> cases inB a0_4 0 255 <;> cases inB a0_4 256 65535 <;> cases inB a0_4 0 7 <;> cases inB a0_5 1 19 <;> simp
      by_cases c8 : a0_0 = 8
      · subst c8
        cases inB a0_1 1 10 <;> cases inB a0_4 0 255 <;> cases inB a0_4 256 65535 <;> cases inB a0_4 0 7 <;> cases inB a0_5 1 19 <;> simp
      by_cases c9 : a0_0 = 9
      · subst c9
        cases inB a0_1 1 10 <;> cases inB a0_4 0 255 <;> cases inB a0_4 256 65535 <;> cases inB a0_4 0 7 <;> cases inB a0_5 1 19 <;> simp
      by_cases c10 : a0_0 = 10
      · subst c10
        cases inB a0_1 1 10 <;> cases inB a0_4 0 255 <;> cases inB a0_4 256 65535 <;> cases inB a0_4 0 7 <;> cases inB a0_5 1 19 <;> simp
      by_cases c11 : a0_0 = 11
      · subst c11
        cases inB a0_1 1 10 <;> cases inB a0_4 0 255 <;> cases inB a0_4 256 65535 <;> cases inB a0_4 0 7 <;> cases inB a0_5 1 19 <;> simp
      simp [c1, c2, c3, c4, c5, c6, c7, c8, c9, c10, c11]
theorem valid_round (a0_0 a0_1 a0_2 a0_3 a0_4 a0_5 : Int) (z : ByteArray) (r_1 r_2 r_3 r_4 r_5 : Int) (s_1 s_2 s_3 s_4 s_5 : Int) (x L lo hi : Int) (b : Bool) (k : Nat) (h1 : x < (z.size : Int)) (h0 : 0 ≤ x) (hx : x ≤ 100) (hL : bt z x = L) (hr : impl_Step_ranges.f k a0_0 a0_1 a0_2 a0_3 a0_4 a0_5 L = some (lo, hi)) (e1 : zr_ 1 (fieldAt_ L) r_1 = s_1) (e2 : zr_ 2 (fieldAt_ L) r_2 = s_2) (e3 : zr_ 3 (fieldAt_ L) r_3 = s_3) (e4 : zr_ 4 (fieldAt_ L) r_4 = s_4) (e5 : zr_ 5 (fieldAt_ L) r_5 = s_5)
    (hn : impl_Step_valid.l0 k a0_0 a0_1 a0_2 a0_3 a0_4 a0_5 z s_1 s_2 s_3 s_4 s_5 (x + 1) = some b) : impl_Step_valid.l0 (k + 1) a0_0 a0_1 a0_2 a0_3 a0_4 a0_5 z r_1 r_2 r_3 r_4 r_5 x = some (inB (fld_ a0_0 a0_1 a0_2 a0_3 a0_4 a0_5 (fieldAt_ L)) lo hi && b) := by
  simp only [impl_Step_valid.l0]
  rw [if_pos h1, if_pos h0, hL, hr]
  simp only [Option.bind_some]
  rw [implIn_val, e1, e2, e3, e4, e5, w64 (by omega) (by omega), hn]
  simp only [Option.bind_some]
  cases inB (fld_ a0_0 a0_1 a0_2 a0_3 a0_4 a0_5 (fieldAt_ L)) lo hi <;> rfl
theorem valid_end (a0_0 a0_1 a0_2 a0_3 a0_4 a0_5 : Int) (z : ByteArray) (r_1 r_2 r_3 r_4 r_5 : Int) (x : Int) (k : Nat) (h1 : ¬ x < (z.size : Int)) : impl_Step_valid.l0 (k + 1) a0_0 a0_1 a0_2 a0_3 a0_4 a0_5 z r_1 r_2 r_3 r_4 r_5 x = some (inB a0_0 1 11 && decide (r_1 = 0 ∧ r_2 = 0 ∧ r_3 = 0 ∧ r_4 = 0 ∧ r_5 = 0)) := by
  simp only [impl_Step_valid.l0]
  rw [if_neg h1, implIn_val]
  simp only [Option.bind_some]
  cases inB a0_0 1 11 <;> rfl
theorem ranges_o (a0_0 a0_1 a0_2 a0_3 a0_4 a0_5 : Int) (k : Nat) : impl_Step_ranges.f (k + 1) a0_0 a0_1 a0_2 a0_3 a0_4 a0_5 111 = some (1, 10) := by simp [impl_Step_ranges.f]
theorem ranges_d (a0_0 a0_1 a0_2 a0_3 a0_4 a0_5 : Int) (k : Nat) : impl_Step_ranges.f (k + 1) a0_0 a0_1 a0_2 a0_3 a0_4 a0_5 100 = some (0, 5) := by simp [impl_Step_ranges.f, impl_Step_ranges.j0]
theorem ranges_s (a0_0 a0_1 a0_2 a0_3 a0_4 a0_5 : Int) (k : Nat) : impl_Step_ranges.f (k + 1) a0_0 a0_1 a0_2 a0_3 a0_4 a0_5 115 = some (0, 5) := by simp [impl_Step_ranges.f, impl_Step_ranges.j0]
theorem ranges_t (a0_0 a0_1 a0_2 a0_3 a0_4 a0_5 : Int) (k : Nat) : impl_Step_ranges.f (k + 1) a0_0 a0_1 a0_2 a0_3 a0_4 a0_5 116 = some (1, 19) := by simp [impl_Step_ranges.f, impl_Step_ranges.j0]
def immR (a : Int) : Int × Int := if a = 4 then (256, 65535) else if a = 5 then (0, 7) else (0, 255)
theorem ranges_i (a0_0 a0_1 a0_2 a0_3 a0_4 a0_5 : Int) (k : Nat) : impl_Step_ranges.f (k + 1) a0_0 a0_1 a0_2 a0_3 a0_4 a0_5 105 = some ((immR a0_0).1, (immR a0_0).2) := by
  unfold immR
  simp only [impl_Step_ranges.f, impl_Step_ranges.j0]
  by_cases h4 : a0_0 = 4
  · simp [h4]
  · by_cases h5 : a0_0 = 5
    · simp [h5]
    · simp [h4, h5]
theorem valid_ods (a0_0 a0_1 a0_2 a0_3 a0_4 a0_5 : Int) (k : Nat) : impl_Step_valid.l0 (k + 5) a0_0 a0_1 a0_2 a0_3 a0_4 a0_5 ⟨#[111, 100, 115]⟩ a0_1 a0_2 a0_3 a0_4 a0_5 0 = some (inB a0_1 1 10 && (inB a0_2 0 5 && (inB a0_3 0 5 && (inB a0_0 1 11 && decide ((0 : Int) = 0 ∧ (0 : Int) = 0 ∧ (0 : Int) = 0 ∧ a0_4 = 0 ∧ a0_5 = 0))))) := by
  have h3 := valid_end a0_0 a0_1 a0_2 a0_3 a0_4 a0_5 ⟨#[111, 100, 115]⟩ 0 0 0 a0_4 a0_5 3 (k + 1) (by decide)
  have h2 := valid_round a0_0 a0_1 a0_2 a0_3 a0_4 a0_5 ⟨#[111, 100, 115]⟩ 0 0 a0_3 a0_4 a0_5 0 0 0 a0_4 a0_5 2 115 0 5 _ (k + 2) (by decide) (by decide) (by decide) (by rfl) (ranges_s a0_0 a0_1 a0_2 a0_3 a0_4 a0_5 _) (by rfl) (by rfl) (by rfl) (by rfl) (by rfl) h3
  have h1 := valid_round a0_0 a0_1 a0_2 a0_3 a0_4 a0_5 ⟨#[111, 100, 115]⟩ 0 a0_2 a0_3 a0_4 a0_5 0 0 a0_3 a0_4 a0_5 1 100 0 5 _ (k + 3) (by decide) (by decide) (by decide) (by rfl) (ranges_d a0_0 a0_1 a0_2 a0_3 a0_4 a0_5 _) (by rfl) (by rfl) (by rfl) (by rfl) (by rfl) h2
  have h0 := valid_round a0_0 a0_1 a0_2 a0_3 a0_4 a0_5 ⟨#[111, 100, 115]⟩ a0_1 a0_2 a0_3 a0_4 a0_5 0 a0_2 a0_3 a0_4 a0_5 0 111 1 10 _ (k + 4) (by decide) (by decide) (by decide) (by rfl) (ranges_o a0_0 a0_1 a0_2 a0_3 a0_4 a0_5 _) (by rfl) (by rfl) (by rfl) (by rfl) (by rfl) h1
  exact h0
theorem valid_odi (a0_0 a0_1 a0_2 a0_3 a0_4 a0_5 : Int) (k : Nat) : impl_Step_valid.l0 (k + 5) a0_0 a0_1 a0_2 a0_3 a0_4 a0_5 ⟨#[111, 100, 105]⟩ a0_1 a0_2 a0_3 a0_4 a0_5 0 = some (inB a0_1 1 10 && (inB a0_2 0 5 && (inB a0_4 (immR a0_0).1 (immR a0_0).2 && (inB a0_0 1 11 && decide ((0 : Int) = 0 ∧ (0 : Int) = 0 ∧ a0_3 = 0 ∧ (0 : Int) = 0 ∧ a0_5 = 0))))) := by
  have h3 := valid_end a0_0 a0_1 a0_2 a0_3 a0_4 a0_5 ⟨#[111, 100, 105]⟩ 0 0 a0_3 0 a0_5 3 (k + 1) (by decide)
  have h2 := valid_round a0_0 a0_1 a0_2 a0_3 a0_4 a0_5 ⟨#[111, 100, 105]⟩ 0 0 a0_3 a0_4 a0_5 0 0 a0_3 0 a0_5 2 105 (immR a0_0).1 (immR a0_0).2 _ (k + 2) (by decide) (by decide) (by decide) (by rfl) (ranges_i a0_0 a0_1 a0_2 a0_3 a0_4 a0_5 _) (by rfl) (by rfl) (by rfl) (by rfl) (by rfl) h3
  have h1 := valid_round a0_0 a0_1 a0_2 a0_3 a0_4 a0_5 ⟨#[111, 100, 105]⟩ 0 a0_2 a0_3 a0_4 a0_5 0 0 a0_3 a0_4 a0_5 1 100 0 5 _ (k + 3) (by decide) (by decide) (by decide) (by rfl) (ranges_d a0_0 a0_1 a0_2 a0_3 a0_4 a0_5 _) (by rfl) (by rfl) (by rfl) (by rfl) (by rfl) h2
  have h0 := valid_round a0_0 a0_1 a0_2 a0_3 a0_4 a0_5 ⟨#[111, 100, 105]⟩ a0_1 a0_2 a0_3 a0_4 a0_5 0 a0_2 a0_3 a0_4 a0_5 0 111 1 10 _ (k + 4) (by decide) (by decide) (by decide) (by rfl) (ranges_o a0_0 a0_1 a0_2 a0_3 a0_4 a0_5 _) (by rfl) (by rfl) (by rfl) (by rfl) (by rfl) h1
  exact h0
theorem valid_di (a0_0 a0_1 a0_2 a0_3 a0_4 a0_5 : Int) (k : Nat) : impl_Step_valid.l0 (k + 5) a0_0 a0_1 a0_2 a0_3 a0_4 a0_5 ⟨#[100, 105]⟩ a0_1 a0_2 a0_3 a0_4 a0_5 0 = some (inB a0_2 0 5 && (inB a0_4 (immR a0_0).1 (immR a0_0).2 && (inB a0_0 1 11 && decide (a0_1 = 0 ∧ (0 : Int) = 0 ∧ a0_3 = 0 ∧ (0 : Int) = 0 ∧ a0_5 = 0)))) := by
  have h2 := valid_end a0_0 a0_1 a0_2 a0_3 a0_4 a0_5 ⟨#[100, 105]⟩ a0_1 0 a0_3 0 a0_5 2 (k + 2) (by decide)
  have h1 := valid_round a0_0 a0_1 a0_2 a0_3 a0_4 a0_5 ⟨#[100, 105]⟩ a0_1 0 a0_3 a0_4 a0_5 a0_1 0 a0_3 0 a0_5 1 105 (immR a0_0).1 (immR a0_0).2 _ (k + 3) (by decide) (by decide) (by decide) (by rfl) (ranges_i a0_0 a0_1 a0_2 a0_3 a0_4 a0_5 _) (by rfl) (by rfl) (by rfl) (by rfl) (by rfl) h2
  have h0 := valid_round a0_0 a0_1 a0_2 a0_3 a0_4 a0_5 ⟨#[100, 105]⟩ a0_1 a0_2 a0_3 a0_4 a0_5 a0_1 0 a0_3 a0_4 a0_5 0 100 0 5 _ (k + 4) (by decide) (by decide) (by decide) (by rfl) (ranges_d a0_0 a0_1 a0_2 a0_3 a0_4 a0_5 _) (by rfl) (by rfl) (by rfl) (by rfl) (by rfl) h1
  exact h0
theorem valid_dsi (a0_0 a0_1 a0_2 a0_3 a0_4 a0_5 : Int) (k : Nat) : impl_Step_valid.l0 (k + 5) a0_0 a0_1 a0_2 a0_3 a0_4 a0_5 ⟨#[100, 115, 105]⟩ a0_1 a0_2 a0_3 a0_4 a0_5 0 = some (inB a0_2 0 5 && (inB a0_3 0 5 && (inB a0_4 (immR a0_0).1 (immR a0_0).2 && (inB a0_0 1 11 && decide (a0_1 = 0 ∧ (0 : Int) = 0 ∧ (0 : Int) = 0 ∧ (0 : Int) = 0 ∧ a0_5 = 0))))) := by
  have h3 := valid_end a0_0 a0_1 a0_2 a0_3 a0_4 a0_5 ⟨#[100, 115, 105]⟩ a0_1 0 0 0 a0_5 3 (k + 1) (by decide)
  have h2 := valid_round a0_0 a0_1 a0_2 a0_3 a0_4 a0_5 ⟨#[100, 115, 105]⟩ a0_1 0 0 a0_4 a0_5 a0_1 0 0 0 a0_5 2 105 (immR a0_0).1 (immR a0_0).2 _ (k + 2) (by decide) (by decide) (by decide) (by rfl) (ranges_i a0_0 a0_1 a0_2 a0_3 a0_4 a0_5 _) (by rfl) (by rfl) (by rfl) (by rfl) (by rfl) h3
  have h1 := valid_round a0_0 a0_1 a0_2 a0_3 a0_4 a0_5 ⟨#[100, 115, 105]⟩ a0_1 0 a0_3 a0_4 a0_5 a0_1 0 0 a0_4 a0_5 1 115 0 5 _ (k + 3) (by decide) (by decide) (by decide) (by rfl) (ranges_s a0_0 a0_1 a0_2 a0_3 a0_4 a0_5 _) (by rfl) (by rfl) (by rfl) (by rfl) (by rfl) h2
  have h0 := valid_round a0_0 a0_1 a0_2 a0_3 a0_4 a0_5 ⟨#[100, 115, 105]⟩ a0_1 a0_2 a0_3 a0_4 a0_5 a0_1 0 a0_3 a0_4 a0_5 0 100 0 5 _ (k + 4) (by decide) (by decide) (by decide) (by rfl) (ranges_d a0_0 a0_1 a0_2 a0_3 a0_4 a0_5 _) (by rfl) (by rfl) (by rfl) (by rfl) (by rfl) h1
  exact h0
theorem valid_t (a0_0 a0_1 a0_2 a0_3 a0_4 a0_5 : Int) (k : Nat) : impl_Step_valid.l0 (k + 5) a0_0 a0_1 a0_2 a0_3 a0_4 a0_5 ⟨#[116]⟩ a0_1 a0_2 a0_3 a0_4 a0_5 0 = some (inB a0_5 1 19 && (inB a0_0 1 11 && decide (a0_1 = 0 ∧ a0_2 = 0 ∧ a0_3 = 0 ∧ a0_4 = 0 ∧ (0 : Int) = 0))) := by
  have h1 := valid_end a0_0 a0_1 a0_2 a0_3 a0_4 a0_5 ⟨#[116]⟩ a0_1 a0_2 a0_3 a0_4 0 1 (k + 3) (by decide)
  have h0 := valid_round a0_0 a0_1 a0_2 a0_3 a0_4 a0_5 ⟨#[116]⟩ a0_1 a0_2 a0_3 a0_4 a0_5 a0_1 a0_2 a0_3 a0_4 0 0 116 1 19 _ (k + 4) (by decide) (by decide) (by decide) (by rfl) (ranges_t a0_0 a0_1 a0_2 a0_3 a0_4 a0_5 _) (by rfl) (by rfl) (by rfl) (by rfl) (by rfl) h1
  exact h0
theorem valid_dst (a0_0 a0_1 a0_2 a0_3 a0_4 a0_5 : Int) (k : Nat) : impl_Step_valid.l0 (k + 5) a0_0 a0_1 a0_2 a0_3 a0_4 a0_5 ⟨#[100, 115, 116]⟩ a0_1 a0_2 a0_3 a0_4 a0_5 0 = some (inB a0_2 0 5 && (inB a0_3 0 5 && (inB a0_5 1 19 && (inB a0_0 1 11 && decide (a0_1 = 0 ∧ (0 : Int) = 0 ∧ (0 : Int) = 0 ∧ a0_4 = 0 ∧ (0 : Int) = 0))))) := by
  have h3 := valid_end a0_0 a0_1 a0_2 a0_3 a0_4 a0_5 ⟨#[100, 115, 116]⟩ a0_1 0 0 a0_4 0 3 (k + 1) (by decide)
  have h2 := valid_round a0_0 a0_1 a0_2 a0_3 a0_4 a0_5 ⟨#[100, 115, 116]⟩ a0_1 0 0 a0_4 a0_5 a0_1 0 0 a0_4 0 2 116 1 19 _ (k + 2) (by decide) (by decide) (by decide) (by rfl) (ranges_t a0_0 a0_1 a0_2 a0_3 a0_4 a0_5 _) (by rfl) (by rfl) (by rfl) (by rfl) (by rfl) h3
  have h1 := valid_round a0_0 a0_1 a0_2 a0_3 a0_4 a0_5 ⟨#[100, 115, 116]⟩ a0_1 0 a0_3 a0_4 a0_5 a0_1 0 0 a0_4 a0_5 1 115 0 5 _ (k + 3) (by decide) (by decide) (by decide) (by rfl) (ranges_s a0_0 a0_1 a0_2 a0_3 a0_4 a0_5 _) (by rfl) (by rfl) (by rfl) (by rfl) (by rfl) h2
  have h0 := valid_round a0_0 a0_1 a0_2 a0_3 a0_4 a0_5 ⟨#[100, 115, 116]⟩ a0_1 a0_2 a0_3 a0_4 a0_5 a0_1 0 a0_3 a0_4 a0_5 0 100 0 5 _ (k + 4) (by decide) (by decide) (by decide) (by rfl) (ranges_d a0_0 a0_1 a0_2 a0_3 a0_4 a0_5 _) (by rfl) (by rfl) (by rfl) (by rfl) (by rfl) h1
  exact h0
theorem valid_none (a0_0 a0_1 a0_2 a0_3 a0_4 a0_5 : Int) (k : Nat) : impl_Step_valid.l0 (k + 5) a0_0 a0_1 a0_2 a0_3 a0_4 a0_5 ⟨#[]⟩ a0_1 a0_2 a0_3 a0_4 a0_5 0 = some (inB a0_0 1 11 && decide (a0_1 = 0 ∧ a0_2 = 0 ∧ a0_3 = 0 ∧ a0_4 = 0 ∧ a0_5 = 0)) := by
  have h0 := valid_end a0_0 a0_1 a0_2 a0_3 a0_4 a0_5 ⟨#[]⟩ a0_1 a0_2 a0_3 a0_4 a0_5 0 (k + 4) (by decide)
  exact h0
theorem implStep_val (a0_0 a0_1 a0_2 a0_3 a0_4 a0_5 : Int) (k : Nat) (hk : 10 ≤ k) : impl_Step_valid.f k a0_0 a0_1 a0_2 a0_3 a0_4 a0_5 = some (stepB a0_0 a0_1 a0_2 a0_3 a0_4 a0_5) := by
  obtain ⟨k, rfl⟩ : ∃ m, k = m + 5 := ⟨k - 5, by omega⟩
  unfold impl_Step_valid.f impl_fields.f stepB
  by_cases c1 : a0_0 = 1
  · subst c1
    rw [show (if (1 : Int) = 1 then (some (⟨#[111, 100, 115]⟩ : ByteArray)) else (if (1 : Int) = 2 then (some (⟨#[111, 100, 105]⟩ : ByteArray)) else (if (1 : Int) = 3 then (impl_fields.j0 (k + 5) 1 ((1 : Int) == 3)) else (if (1 : Int) = 4 then (impl_fields.j0 (k + 5) 1 ((1 : Int) == 4)) else (if (1 : Int) = 6 then (impl_fields.j0 (k + 5) 1 ((1 : Int) == 6)) else (impl_fields.j0 (k + 5) 1 ((1 : Int) == 7))))))) = some ⟨#[111, 100, 115]⟩ by simp [impl_fields.j0]]
    simp only [Option.bind_some]
    rw [valid_ods]
    congr 1
    rw [Bool.eq_iff_iff]
    simp [inB, zB, immR]
    first | done | omega
  by_cases c2 : a0_0 = 2
  · subst c2
    rw [show (if (2 : Int) = 1 then (some (⟨#[111, 100, 115]⟩ : ByteArray)) else (if (2 : Int) = 2 then (some (⟨#[111, 100, 105]⟩ : ByteArray)) else (if (2 : Int) = 3 then (impl_fields.j0 (k + 5) 2 ((2 : Int) == 3)) else (if (2 : Int) = 4 then (impl_fields.j0 (k + 5) 2 ((2 : Int) == 4)) else (if (2 : Int) = 6 then (impl_fields.j0 (k + 5) 2 ((2 : Int) == 6)) else (impl_fields.j0 (k + 5) 2 ((2 : Int) == 7))))))) = some ⟨#[111, 100, 105]⟩ by simp [impl_fields.j0]]
    simp only [Option.bind_some]
    rw [valid_odi]
    congr 1
    rw [Bool.eq_iff_iff]
    simp [inB, zB, immR]
    first | done | omega
  by_cases c3 : a0_0 = 3
  · subst c3
    rw [show (if (3 : Int) = 1 then (some (⟨#[111, 100, 115]⟩ : ByteArray)) else (if (3 : Int) = 2 then (some (⟨#[111, 100, 105]⟩ : ByteArray)) else (if (3 : Int) = 3 then (impl_fields.j0 (k + 5) 3 ((3 : Int) == 3)) else (if (3 : Int) = 4 then (impl_fields.j0 (k + 5) 3 ((3 : Int) == 4)) else (if (3 : Int) = 6 then (impl_fields.j0 (k + 5) 3 ((3 : Int) == 6)) else (impl_fields.j0 (k + 5) 3 ((3 : Int) == 7))))))) = some ⟨#[100, 105]⟩ by simp [impl_fields.j0]]
    simp only [Option.bind_some]
    rw [valid_di]
    congr 1
    rw [Bool.eq_iff_iff]
    simp [inB, zB, immR]
    first | done | omega
  by_cases c4 : a0_0 = 4
  · subst c4
    rw [show (if (4 : Int) = 1 then (some (⟨#[111, 100, 115]⟩ : ByteArray)) else (if (4 : Int) = 2 then (some (⟨#[111, 100, 105]⟩ : ByteArray)) else (if (4 : Int) = 3 then (impl_fields.j0 (k + 5) 4 ((4 : Int) == 3)) else (if (4 : Int) = 4 then (impl_fields.j0 (k + 5) 4 ((4 : Int) == 4)) else (if (4 : Int) = 6 then (impl_fields.j0 (k + 5) 4 ((4 : Int) == 6)) else (impl_fields.j0 (k + 5) 4 ((4 : Int) == 7))))))) = some ⟨#[100, 105]⟩ by simp [impl_fields.j0]]
    simp only [Option.bind_some]
    rw [valid_di]
    congr 1
    rw [Bool.eq_iff_iff]
    simp [inB, zB, immR]
    first | done | omega
  by_cases c5 : a0_0 = 5
  · subst c5
    rw [show (if (5 : Int) = 1 then (some (⟨#[111, 100, 115]⟩ : ByteArray)) else (if (5 : Int) = 2 then (some (⟨#[111, 100, 105]⟩ : ByteArray)) else (if (5 : Int) = 3 then (impl_fields.j0 (k + 5) 5 ((5 : Int) == 3)) else (if (5 : Int) = 4 then (impl_fields.j0 (k + 5) 5 ((5 : Int) == 4)) else (if (5 : Int) = 6 then (impl_fields.j0 (k + 5) 5 ((5 : Int) == 6)) else (impl_fields.j0 (k + 5) 5 ((5 : Int) == 7))))))) = some ⟨#[100, 115, 105]⟩ by simp [impl_fields.j0]]
    simp only [Option.bind_some]
    rw [valid_dsi]
    congr 1
    rw [Bool.eq_iff_iff]
    simp [inB, zB, immR]
    first | done | omega
  by_cases c6 : a0_0 = 6
  · subst c6
    rw [show (if (6 : Int) = 1 then (some (⟨#[111, 100, 115]⟩ : ByteArray)) else (if (6 : Int) = 2 then (some (⟨#[111, 100, 105]⟩ : ByteArray)) else (if (6 : Int) = 3 then (impl_fields.j0 (k + 5) 6 ((6 : Int) == 3)) else (if (6 : Int) = 4 then (impl_fields.j0 (k + 5) 6 ((6 : Int) == 4)) else (if (6 : Int) = 6 then (impl_fields.j0 (k + 5) 6 ((6 : Int) == 6)) else (impl_fields.j0 (k + 5) 6 ((6 : Int) == 7))))))) = some ⟨#[100, 105]⟩ by simp [impl_fields.j0]]
    simp only [Option.bind_some]
    rw [valid_di]
    congr 1
    rw [Bool.eq_iff_iff]
    simp [inB, zB, immR]
    first | done | omega
  by_cases c7 : a0_0 = 7
  · subst c7
    rw [show (if (7 : Int) = 1 then (some (⟨#[111, 100, 115]⟩ : ByteArray)) else (if (7 : Int) = 2 then (some (⟨#[111, 100, 105]⟩ : ByteArray)) else (if (7 : Int) = 3 then (impl_fields.j0 (k + 5) 7 ((7 : Int) == 3)) else (if (7 : Int) = 4 then (impl_fields.j0 (k + 5) 7 ((7 : Int) == 4)) else (if (7 : Int) = 6 then (impl_fields.j0 (k + 5) 7 ((7 : Int) == 6)) else (impl_fields.j0 (k + 5) 7 ((7 : Int) == 7))))))) = some ⟨#[100, 105]⟩ by simp [impl_fields.j0]]
    simp only [Option.bind_some]
    rw [valid_di]
    congr 1
    rw [Bool.eq_iff_iff]
    simp [inB, zB, immR]
    first | done | omega
  by_cases c8 : a0_0 = 8
  · subst c8
    rw [show (if (8 : Int) = 1 then (some (⟨#[111, 100, 115]⟩ : ByteArray)) else (if (8 : Int) = 2 then (some (⟨#[111, 100, 105]⟩ : ByteArray)) else (if (8 : Int) = 3 then (impl_fields.j0 (k + 5) 8 ((8 : Int) == 3)) else (if (8 : Int) = 4 then (impl_fields.j0 (k + 5) 8 ((8 : Int) == 4)) else (if (8 : Int) = 6 then (impl_fields.j0 (k + 5) 8 ((8 : Int) == 6)) else (impl_fields.j0 (k + 5) 8 ((8 : Int) == 7))))))) = some ⟨#[116]⟩ by simp [impl_fields.j0]]
    simp only [Option.bind_some]
    rw [valid_t]
    congr 1
    rw [Bool.eq_iff_iff]
    simp [inB, zB, immR]
    first | done | omega
  by_cases c9 : a0_0 = 9
  · subst c9
    rw [show (if (9 : Int) = 1 then (some (⟨#[111, 100, 115]⟩ : ByteArray)) else (if (9 : Int) = 2 then (some (⟨#[111, 100, 105]⟩ : ByteArray)) else (if (9 : Int) = 3 then (impl_fields.j0 (k + 5) 9 ((9 : Int) == 3)) else (if (9 : Int) = 4 then (impl_fields.j0 (k + 5) 9 ((9 : Int) == 4)) else (if (9 : Int) = 6 then (impl_fields.j0 (k + 5) 9 ((9 : Int) == 6)) else (impl_fields.j0 (k + 5) 9 ((9 : Int) == 7))))))) = some ⟨#[100, 115, 116]⟩ by simp [impl_fields.j0]]
    simp only [Option.bind_some]
    rw [valid_dst]
    congr 1
    rw [Bool.eq_iff_iff]
    simp [inB, zB, immR]
    first | done | omega
  by_cases c10 : a0_0 = 10
  · subst c10
    rw [show (if (10 : Int) = 1 then (some (⟨#[111, 100, 115]⟩ : ByteArray)) else (if (10 : Int) = 2 then (some (⟨#[111, 100, 105]⟩ : ByteArray)) else (if (10 : Int) = 3 then (impl_fields.j0 (k + 5) 10 ((10 : Int) == 3)) else (if (10 : Int) = 4 then (impl_fields.j0 (k + 5) 10 ((10 : Int) == 4)) else (if (10 : Int) = 6 then (impl_fields.j0 (k + 5) 10 ((10 : Int) == 6)) else (impl_fields.j0 (k + 5) 10 ((10 : Int) == 7))))))) = some ⟨#[100, 115, 116]⟩ by simp [impl_fields.j0]]
    simp only [Option.bind_some]
    rw [valid_dst]
    congr 1
    rw [Bool.eq_iff_iff]
    simp [inB, zB, immR]
    first | done | omega
  by_cases c11 : a0_0 = 11
  · subst c11
    rw [show (if (11 : Int) = 1 then (some (⟨#[111, 100, 115]⟩ : ByteArray)) else (if (11 : Int) = 2 then (some (⟨#[111, 100, 105]⟩ : ByteArray)) else (if (11 : Int) = 3 then (impl_fields.j0 (k + 5) 11 ((11 : Int) == 3)) else (if (11 : Int) = 4 then (impl_fields.j0 (k + 5) 11 ((11 : Int) == 4)) else (if (11 : Int) = 6 then (impl_fields.j0 (k + 5) 11 ((11 : Int) == 6)) else (impl_fields.j0 (k + 5) 11 ((11 : Int) == 7))))))) = some ⟨#[]⟩ by simp [impl_fields.j0]]
    simp only [Option.bind_some]
    rw [valid_none]
    congr 1
    rw [Bool.eq_iff_iff]
    simp [inB, zB, immR]
    first | done | omega
  simp only [c1, c2, c3, c4, c5, c6, c7, c8, c9, c10, c11, if_false]
  rw [show impl_fields.j0 (k + 5) a0_0 (a0_0 == 7) = some ⟨#[]⟩ by simp [impl_fields.j0, c1, c2, c3, c4, c5, c6, c7, c8, c9, c10, c11]]
  simp only [Option.bind_some]
  rw [valid_none]
  congr 1
  rw [Bool.eq_iff_iff]
  simp [inB]
  first | done | omega

theorem step_to (a0 a1 a2 a3 a4 a5 : Int) (h : stepB a0 a1 a2 a3 a4 a5 = true) : (0 ≤ a5 ∧ a5 ≤ 19) ∧ (0 < a5 ↔ a0 = 8 ∨ a0 = 9 ∨ a0 = 10) := by
  unfold stepB at h
  by_cases c1 : a0 = 1
  · subst c1
    simp [inB, zB] at h
    omega
  by_cases c2 : a0 = 2
  · subst c2
    simp [inB, zB] at h
    omega
  by_cases c3 : a0 = 3
  · subst c3
    simp [inB, zB] at h
    omega
  by_cases c4 : a0 = 4
  · subst c4
    simp [inB, zB] at h
    omega
  by_cases c5 : a0 = 5
  · subst c5
    simp [inB, zB] at h
    omega
  by_cases c6 : a0 = 6
  · subst c6
    simp [inB, zB] at h
    omega
  by_cases c7 : a0 = 7
  · subst c7
    simp [inB, zB] at h
    omega
  by_cases c8 : a0 = 8
  · subst c8
    simp [inB, zB] at h
    omega
  by_cases c9 : a0 = 9
  · subst c9
    simp [inB, zB] at h
    omega
  by_cases c10 : a0 = 10
  · subst c10
    simp [inB, zB] at h
    omega
  by_cases c11 : a0 = 11
  · subst c11
    simp [inB, zB] at h
    omega
  simp [c1, c2, c3, c4, c5, c6, c7, c8, c9, c10, c11] at h
def stepS (x : S48) : Bool := stepB x.f0 x.f1 x.f2 x.f3 x.f4 x.f5
def okFrom (n : Nat) : Nat → List S48 → Bool
  | _, [] => true
  | i, x :: r => stepS x && ((!(decide (0 < x.f5) && decide ((n : Int) ≤ (i : Int) + x.f5 + 1))) && okFrom n (i + 1) r)
def lastB (l : List S48) : Bool := (rd_T48 l ((l.length : Int) - 1)).f0 == 11
def goodP (l : List S48) : Bool := inB (l.length : Int) 1 20 && (lastB l && okFrom l.length 0 l)
theorem specGoodP_l (l : List S48) (hl : l.length ≤ 1048576) : ∀ (d i k : Nat), i + d = l.length → d + 10 < k → spec_GoodProgram.l0 k l l (l.length : Int) (i : Int) = some (okFrom l.length i (l.drop i) && (inB (l.length : Int) 1 20 && lastB l))
  | 0, i, k, h1, hk => by
    obtain ⟨k, rfl⟩ : ∃ m, k = m + 1 := ⟨k - 1, by omega⟩
    simp only [spec_GoodProgram.l0]
    rw [if_neg (by omega), specIn_val, List.drop_of_length_le (by omega), okFrom]
    simp only [Option.bind_some, Bool.true_and]
    cases hin : inB (l.length : Int) 1 20 with
    | false => simp
    | true =>
      simp [inB] at hin
      rw [if_pos rfl, w64 (by omega) (by omega), if_pos (by omega), if_pos (by omega)]
      simp [lastB]
  | d + 1, i, k, h1, hk => by
    obtain ⟨k, rfl⟩ : ∃ m, k = m + 1 := ⟨k - 1, by omega⟩
    simp only [spec_GoodProgram.l0]
    rw [if_pos (by omega), if_pos (by omega), if_pos (by omega), rd26_nat l i (by omega), specStep_val _ _ _ _ _ _ k (by omega), dropS_at l i (by omega), okFrom, show stepB l[i].f0 l[i].f1 l[i].f2 l[i].f3 l[i].f4 l[i].f5 = stepS l[i] from rfl]
    simp only [Option.bind_some]
    cases hs : stepS l[i] with
    | false => simp
    | true =>
      obtain ⟨hr, _⟩ := step_to _ _ _ _ _ _ hs
      rw [if_pos rfl, w64 (x := (i : Int) + l[i].f5) (by omega) (by omega), w64 (by omega) (by omega), next64 (by omega), specGoodP_l l hl d (i + 1) k (by omega) (by omega)]
      by_cases c5 : 0 < l[i].f5
      · rw [if_pos (show l[i].f5 > 0 from c5), decide_eq_true c5]
        by_cases c6 : (l.length : Int) ≤ (i : Int) + l[i].f5 + 1
        · rw [if_pos (show (i : Int) + l[i].f5 + 1 ≥ (l.length : Int) from c6), decide_eq_true c6]
          simp
        · rw [if_neg (show ¬ (i : Int) + l[i].f5 + 1 ≥ (l.length : Int) from c6), decide_eq_false c6]
          simp
      · rw [if_neg (show ¬ l[i].f5 > 0 from c5), decide_eq_false c5]
        simp
theorem specGoodP_val (l : List S48) (hl : l.length ≤ 1048576) (k : Nat) (hk : l.length + 10 < k) : spec_GoodProgram.f k l = some (goodP l) := by
  unfold spec_GoodProgram.f goodP
  have := specGoodP_l l hl l.length 0 k (by omega) (by omega)
  rw [show ((0 : Nat) : Int) = 0 from rfl] at this
  rw [this, List.drop_zero]
  cases okFrom l.length 0 l <;> cases inB (l.length : Int) 1 20 <;> cases lastB l <;> rfl
theorem implGoodP_l (l : List S48) (hl : l.length ≤ 1048576) : ∀ (d i k : Nat), i + d = l.length → d + 20 < k → impl_GoodProgram.l0 k l l (l.length : Int) (i : Int) = some (okFrom l.length i (l.drop i))
  | 0, i, k, h1, hk => by
    obtain ⟨k, rfl⟩ : ∃ m, k = m + 1 := ⟨k - 1, by omega⟩
    simp only [impl_GoodProgram.l0]
    rw [if_neg (by omega), List.drop_of_length_le (by omega), okFrom]
  | d + 1, i, k, h1, hk => by
    obtain ⟨k, rfl⟩ : ∃ m, k = m + 1 := ⟨k - 1, by omega⟩
    simp only [impl_GoodProgram.l0]
    rw [if_pos (by omega), if_pos (by omega), if_pos (by omega), rd26_nat l i (by omega), implStep_val _ _ _ _ _ _ k (by omega), dropS_at l i (by omega), okFrom, show stepB l[i].f0 l[i].f1 l[i].f2 l[i].f3 l[i].f4 l[i].f5 = stepS l[i] from rfl]
    simp only [Option.bind_some]
    cases hs : stepS l[i] with
    | false => simp
    | true =>
      obtain ⟨hr, hj⟩ := step_to _ _ _ _ _ _ hs
      have hjm : impl_Step_jumps.f l[i].f0 l[i].f1 l[i].f2 l[i].f3 l[i].f4 l[i].f5 = some (decide (0 < l[i].f5)) := by
        unfold impl_Step_jumps.f
        by_cases c8 : l[i].f0 = 8
        · rw [if_pos c8, decide_eq_true (hj.2 (Or.inl c8))]
        · rw [if_neg c8]
          by_cases c9 : l[i].f0 = 9
          · rw [if_pos c9, decide_eq_true (hj.2 (Or.inr (Or.inl c9)))]
          · rw [if_neg c9]
            by_cases c10 : l[i].f0 = 10
            · rw [decide_eq_true (hj.2 (Or.inr (Or.inr c10)))]
              simp [c10]
            · rw [decide_eq_false (fun h => by rcases hj.1 h with h | h | h <;> contradiction)]
              simp [c10]
      rw [if_pos rfl, hjm, w64 (x := (i : Int) + l[i].f5) (by omega) (by omega), w64 (by omega) (by omega), next64 (by omega), implGoodP_l l hl d (i + 1) k (by omega) (by omega)]
      simp only [Option.bind_some]
      by_cases c5 : 0 < l[i].f5
      · rw [decide_eq_true c5, if_pos rfl]
        by_cases c6 : (l.length : Int) ≤ (i : Int) + l[i].f5 + 1
        · rw [if_pos (show (i : Int) + l[i].f5 + 1 ≥ (l.length : Int) from c6), decide_eq_true c6]
          simp
        · rw [if_neg (show ¬ (i : Int) + l[i].f5 + 1 ≥ (l.length : Int) from c6), decide_eq_false c6]
          simp
      · rw [decide_eq_false c5]
        simp
theorem implGoodP_val (l : List S48) (hl : l.length ≤ 1048576) (k : Nat) (hk : l.length + 30 < k) : impl_GoodProgram.f k l = some (goodP l) := by
  obtain ⟨k, rfl⟩ : ∃ m, k = m + 1 := ⟨k - 1, by omega⟩
  unfold impl_GoodProgram.f goodP
  rw [implIn_val]
  simp only [Option.bind_some]
  cases hin : inB (l.length : Int) 1 20 with
  | false => simp [impl_GoodProgram.j0]
  | true =>
    simp [inB] at hin
    rw [if_pos rfl, w64 (by omega) (by omega), if_pos (by omega), if_pos (by omega), show ((rd_T48 l ((l.length : Int) - 1)).f0 != 11) = !(lastB l) from rfl]
    cases lastB l with
    | false => simp [impl_GoodProgram.j0]
    | true =>
      have := implGoodP_l l hl l.length 0 k (by omega) (by omega)
      rw [show ((0 : Nat) : Int) = 0 from rfl, List.drop_zero] at this
      simp [impl_GoodProgram.j0, this]

def stepNums (a0_0 a0_1 a0_2 a0_3 a0_4 a0_5 : Int) : List Int := [(wrap64 (a0_0 + (wrap64 (16 * a0_1)))) % 256, (wrap64 ((wrap64 (16 * a0_2)) + a0_3)) % 256, (a0_5) % 256, (Int.tmod a0_4 256) % 256] ++ (if a0_0 = 4 then [0, 0, 0, (wrap64 (Int.tdiv a0_4 256)) % 256] else [])
theorem specBytes_val (a0_0 a0_1 a0_2 a0_3 a0_4 a0_5 : Int) : spec_l2Bytes.f a0_0 a0_1 a0_2 a0_3 a0_4 a0_5 = some (strOfNums (stepNums a0_0 a0_1 a0_2 a0_3 a0_4 a0_5)) := by
  unfold spec_l2Bytes.f stepNums
  simp only [Option.bind_some]
  by_cases h : a0_0 = 4
  · rw [if_pos h, if_pos h, if_pos (by simp)]
  · rw [if_neg h, if_neg h, List.append_nil]
theorem implBytes_val (a0_0 a0_1 a0_2 a0_3 a0_4 a0_5 : Int) : impl_Step_bytes.f a0_0 a0_1 a0_2 a0_3 a0_4 a0_5 = some (stepNums a0_0 a0_1 a0_2 a0_3 a0_4 a0_5) := by
  unfold impl_Step_bytes.f stepNums
  simp only [Option.bind_some]
  by_cases h : a0_0 = 4
  · rw [if_pos h, if_pos h, if_pos (by simp)]
  · rw [if_neg h, if_neg h, List.append_nil]
theorem stepNums_length (a0_0 a0_1 a0_2 a0_3 a0_4 a0_5 : Int) : (stepNums a0_0 a0_1 a0_2 a0_3 a0_4 a0_5).length ≤ 8 := by
  unfold stepNums
  split <;> simp

def numsS (x : S48) : List Int := stepNums x.f0 x.f1 x.f2 x.f3 x.f4 x.f5

def rB (a : ByteArray) (x i : Nat) : Int := bt a ((x + i : Nat) : Int)
def rSt (a : ByteArray) (x long : Nat) : S48 := ⟨rB a x 0 % 16, rB a x 0 / 16, rB a x 1 / 16, rB a x 1 % 16, if long = 8 then rB a x 3 + 256 * rB a x 7 else rB a x 3, rB a x 2⟩
def rLong (a : ByteArray) (x : Nat) : Nat := if rB a x 0 % 16 = 4 then 8 else 4
def rpF : Nat → ByteArray → List S48 → Nat → List S48 × Int × Bool
  | 0, _, _, _ => ([], 0, false)
  | f + 1, a, p, x => if x < a.size then (if a.size - x < rLong a x then ([], 1, false) else (if stepS (rSt a x (rLong a x)) = true then (if (strOfNums (numsS (rSt a x (rLong a x)))).toList = (a.extract x (x + rLong a x)).toList then rpF f a (p ++ [rSt a x (rLong a x)]) (x + rLong a x) else ([], 2, false)) else ([], 2, false))) else (if goodP p = true then (p, 0, true) else ([], 3, false))
theorem rLong_cases (a : ByteArray) (x : Nat) : rLong a x = 4 ∨ rLong a x = 8 := by
  unfold rLong
  split <;> simp
theorem rpF_length : ∀ (f : Nat) (a : ByteArray) (p : List S48) (x : Nat), (rpF f a p x).1.length ≤ p.length + f
  | 0, a, p, x => by simp [rpF]
  | f + 1, a, p, x => by
    unfold rpF
    split
    · split
      · simp
      · split
        · split
          · have := rpF_length f a (p ++ [rSt a x (rLong a x)]) (x + rLong a x)
            rw [List.length_append] at this
            simp at this
            omega
          · simp
        · simp
    · split
      · simp
      · simp
theorem rB_range (a : ByteArray) (x i : Nat) : 0 ≤ rB a x i ∧ rB a x i ≤ 255 := bt_range a _
theorem tm_ (b : Int) (h : 0 ≤ b ∧ b ≤ 255) : Int.tmod b 16 = b % 16 := Int.tmod_eq_emod_of_nonneg h.1
theorem td_ (b : Int) (h : 0 ≤ b ∧ b ≤ 255) : Int.tdiv b 16 = b / 16 := Int.tdiv_eq_ediv_of_nonneg h.1
theorem specRP_l (a : ByteArray) (ha : a.size ≤ 160) : ∀ (f x k : Nat) (p : List S48), x ≤ a.size → a.size - x < 4 * f → p.length ≤ x → 2 * f + 1048700 ≤ k → spec_ReadProgram.l0 k a p (x : Int) = some (rpF f a p x)
  | 0, x, k, p, h1, h2, h3, hk => by omega
  | f + 1, x, k, p, h1, h2, h3, hk => by
    obtain ⟨k, rfl⟩ : ∃ m, k = m + 2 := ⟨k - 2, by omega⟩
    simp only [spec_ReadProgram.l0]
    unfold rpF
    by_cases c1 : x < a.size
    · have r0 := rB_range a x 0
      have r1 := rB_range a x 1
      have r2 := rB_range a x 2
      have r3 := rB_range a x 3
      have r7 := rB_range a x 7
      rw [if_pos (by omega), if_pos c1, w64 (x := (a.size : Int) - (x : Int)) (by omega) (by omega), show wrap64 ((x : Int) + 1) = ((x + 1 : Nat) : Int) by rw [w64 (by omega) (by omega)]; omega, show wrap64 ((x : Int) + 2) = ((x + 2 : Nat) : Int) by rw [w64 (by omega) (by omega)]; omega, show wrap64 ((x : Int) + 3) = ((x + 3 : Nat) : Int) by rw [w64 (by omega) (by omega)]; omega, show wrap64 ((x : Int) + 7) = ((x + 7 : Nat) : Int) by rw [w64 (by omega) (by omega)]; omega, show bt a (x : Int) = rB a x 0 from rfl, show bt a ((x + 1 : Nat) : Int) = rB a x 1 from rfl, show bt a ((x + 2 : Nat) : Int) = rB a x 2 from rfl, show bt a ((x + 3 : Nat) : Int) = rB a x 3 from rfl, show bt a ((x + 7 : Nat) : Int) = rB a x 7 from rfl]
      rw [w64 (x := rB a x 0) (by omega) (by omega), w64 (x := rB a x 1) (by omega) (by omega), w64 (x := rB a x 2) (by omega) (by omega), w64 (x := rB a x 3) (by omega) (by omega), w64 (x := rB a x 7) (by omega) (by omega), tm_ _ r0, tm_ _ r1, td_ _ r0, td_ _ r1, w64 (x := rB a x 0 / 16) (by omega) (by omega), w64 (x := rB a x 1 / 16) (by omega) (by omega), w64 (x := 256 * rB a x 7) (by omega) (by omega), w64 (x := rB a x 3 + 256 * rB a x 7) (by omega) (by omega)]
      have hj : ∀ (g : Nat), rLong a x = g → ¬ a.size - x < g → spec_ReadProgram.j1 (k + 1) a p (x : Int) (g : Int) (rB a x 0 % 16) (rB a x 0 / 16) (rB a x 1 / 16) (rB a x 1 % 16) (if g = 8 then rB a x 3 + 256 * rB a x 7 else rB a x 3) (rB a x 2) = some (if stepS (rSt a x (rLong a x)) = true then (if (strOfNums (numsS (rSt a x (rLong a x)))).toList = (a.extract x (x + rLong a x)).toList then rpF f a (p ++ [rSt a x (rLong a x)]) (x + rLong a x) else ([], 2, false)) else ([], 2, false)) := by
        intro g hg hs
        have hg48 := rLong_cases a x
        rw [hg] at hg48 ⊢
        have e : wrap64 ((x : Int) + (g : Int)) = ((x + g : Nat) : Int) := by rw [w64 (by omega) (by omega)]; omega
        simp only [spec_ReadProgram.j1]
        rw [specStep_val _ _ _ _ _ _ k (by omega), specBytes_val, show stepB (rB a x 0 % 16) (rB a x 0 / 16) (rB a x 1 / 16) (rB a x 1 % 16) (if g = 8 then rB a x 3 + 256 * rB a x 7 else rB a x 3) (rB a x 2) = stepS (rSt a x g) from rfl, show stepNums (rB a x 0 % 16) (rB a x 0 / 16) (rB a x 1 / 16) (rB a x 1 % 16) (if g = 8 then rB a x 3 + 256 * rB a x 7 else rB a x 3) (rB a x 2) = numsS (rSt a x g) from rfl, e]
        simp only [Option.bind_some]
        clear e
        rw [Int.toNat_natCast, Int.toNat_natCast]
        generalize (strOfNums (numsS (rSt a x g))).toList = T1
        generalize (a.extract x (x + g)).toList = T2
        rw [if_pos (show (0 : Int) ≤ (x : Int) by omega), if_pos (show (x : Int) ≤ ((x + g : Nat) : Int) by omega), if_pos (show ((x + g : Nat) : Int) ≤ (a.size : Int) by omega), if_pos (show p.length < 2932031007402 by omega), specRP_l a ha f (x + g) k _ (by omega) (by omega) (by rw [List.length_append]; simp; omega) (by omega)]
        cases stepS (rSt a x g) with
        | false => simp
        | true =>
          rw [if_pos rfl, if_pos rfl]
          by_cases ct : T1 = T2
          · rw [if_pos ct, if_pos ct]
            rfl
          · rw [if_neg ct, if_neg ct]
      by_cases c4 : a.size - x < 4
      · rw [if_pos (by omega), if_pos (by have := rLong_cases a x; omega)]
      · rw [if_neg (by omega), if_pos (by omega), if_pos (by omega), if_pos (by omega), if_pos (by omega), if_pos (by omega), if_pos (by omega), if_pos (by omega)]
        by_cases c8 : rB a x 0 % 16 = 4
        · have hl : rLong a x = 8 := by unfold rLong; rw [if_pos c8]
          rw [if_pos c8, hl]
          by_cases c9 : a.size - x < 8
          · rw [if_pos (by omega), if_pos c9]
          · have := hj 8 hl c9
            rw [if_pos rfl, hl] at this
            rw [if_neg (by omega), if_neg c9, if_pos (by omega), if_pos (by omega)]
            exact this
        · have hl : rLong a x = 4 := by unfold rLong; rw [if_neg c8]
          have := hj 4 hl c4
          rw [if_neg (by decide), hl] at this
          rw [if_neg c8, hl, if_neg c4]
          exact this
    · rw [if_neg (by omega), if_neg c1, specGoodP_val p (by omega) (k + 1) (by omega)]
      simp only [Option.bind_some]
      cases goodP p <;> rfl
theorem ext_bt (a : ByteArray) (x i : Nat) : bt (a.extract x a.size) (i : Int) = rB a x i := by
  unfold rB bt
  simp only [Int.toNat_natCast]
  by_cases h : i < (a.extract x a.size).size
  · have h' := h
    rw [ByteArray.size_extract] at h'
    rw [dif_pos h, dif_pos (by omega), ByteArray.getElem_extract]
  · have h' := h
    rw [ByteArray.size_extract] at h'
    rw [dif_neg h, dif_neg (by omega)]
theorem data_nil (s : ByteArray) : s.data.toList = [] ↔ s.size = 0 := by
  constructor
  · intro h
    show s.data.size = 0
    rw [← Array.length_toList, h]
    rfl
  · intro h
    exact List.eq_nil_of_length_eq_zero (by rw [Array.length_toList]; exact h)
theorem implRP_l (a : ByteArray) (ha : a.size ≤ 160) : ∀ (f x k : Nat) (p : List S48), x ≤ a.size → a.size - x < 4 * f → p.length ≤ x → 3 * f + 1048700 ≤ k → impl_ReadProgram.l0 k (a.extract x a.size) p = some (rpF f a p x)
  | 0, x, k, p, h1, h2, h3, hk => by omega
  | f + 1, x, k, p, h1, h2, h3, hk => by
    obtain ⟨k, rfl⟩ : ∃ m, k = m + 3 := ⟨k - 3, by omega⟩
    have hsz : (a.extract x a.size).size = a.size - x := by rw [ByteArray.size_extract]; omega
    have hnil : (a.extract x a.size).toList = ([] : List UInt8) ↔ a.size - x = 0 := by
      rw [Go.Lib.toList_data, ← hsz]
      exact data_nil _
    simp only [impl_ReadProgram.l0]
    unfold rpF
    by_cases c1 : x < a.size
    · have r0 := rB_range a x 0
      have r1 := rB_range a x 1
      have r2 := rB_range a x 2
      have r3 := rB_range a x 3
      have r7 := rB_range a x 7
      have b0 : bt (a.extract x a.size) 0 = rB a x 0 := ext_bt a x 0
      have b1 : bt (a.extract x a.size) 1 = rB a x 1 := ext_bt a x 1
      have b2 : bt (a.extract x a.size) 2 = rB a x 2 := ext_bt a x 2
      have b3 : bt (a.extract x a.size) 3 = rB a x 3 := ext_bt a x 3
      have b7 : bt (a.extract x a.size) 7 = rB a x 7 := ext_bt a x 7
      rw [if_neg (by rw [hnil]; omega), if_pos c1, hsz, if_pos (by omega), b0, tm_ _ r0]
      have hj : ∀ (g : Nat), rLong a x = g → impl_ReadProgram.j1 (k + 2) (a.extract x a.size) p (g : Int) = some (if a.size - x < rLong a x then ([], 1, false) else (if stepS (rSt a x (rLong a x)) = true then (if (strOfNums (numsS (rSt a x (rLong a x)))).toList = (a.extract x (x + rLong a x)).toList then rpF f a (p ++ [rSt a x (rLong a x)]) (x + rLong a x) else ([], 2, false)) else ([], 2, false))) := by
        intro g hg
        have hg48 := rLong_cases a x
        rw [hg] at hg48 ⊢
        have hj2 : ¬ a.size - x < g → impl_ReadProgram.j2 (k + 1) (a.extract x a.size) p (g : Int) (rB a x 0 % 16) (rB a x 0 / 16) (rB a x 1 / 16) (rB a x 1 % 16) (if g = 8 then rB a x 3 + 256 * rB a x 7 else rB a x 3) (rB a x 2) = some (if stepS (rSt a x g) = true then (if (strOfNums (numsS (rSt a x g))).toList = (a.extract x (x + g)).toList then rpF f a (p ++ [rSt a x g]) (x + g) else ([], 2, false)) else ([], 2, false)) := by
          intro hs
          simp only [impl_ReadProgram.j2]
          rw [implStep_val _ _ _ _ _ _ k (by omega), implBytes_val, show stepB (rB a x 0 % 16) (rB a x 0 / 16) (rB a x 1 / 16) (rB a x 1 % 16) (if g = 8 then rB a x 3 + 256 * rB a x 7 else rB a x 3) (rB a x 2) = stepS (rSt a x g) from rfl, show stepNums (rB a x 0 % 16) (rB a x 0 / 16) (rB a x 1 / 16) (rB a x 1 % 16) (if g = 8 then rB a x 3 + 256 * rB a x 7 else rB a x 3) (rB a x 2) = numsS (rSt a x g) from rfl]
          simp only [Option.bind_some]
          rw [hsz, Int.toNat_natCast, ByteArray.extract_extract, ByteArray.extract_extract, show min (x + g) a.size = x + g by omega, show min (x + (a.size - x)) a.size = a.size by omega, Nat.add_zero]
          generalize (strOfNums (numsS (rSt a x g))).toList = T1
          generalize (a.extract x (x + g)).toList = T2
          rw [if_pos (show (0 : Int) ≤ (g : Int) by omega), if_pos (show (g : Int) ≤ ((a.size - x : Nat) : Int) by omega), if_pos (show p.length < 2932031007402 by omega), implRP_l a ha f (x + g) k _ (by omega) (by omega) (by rw [List.length_append]; simp; omega) (by omega)]
          cases stepS (rSt a x g) with
          | false => simp
          | true =>
            rw [if_pos rfl, if_pos rfl]
            by_cases ct : T1 = T2
            · rw [if_pos ct, if_pos ct]
              rfl
            · rw [if_neg ct, if_neg ct]
        simp only [impl_ReadProgram.j1]
        rw [hsz, b0, b1, b2, b3, b7, tm_ _ r0, tm_ _ r1, td_ _ r0, td_ _ r1, w64 (x := rB a x 0 % 16) (by omega) (by omega), w64 (x := rB a x 1 % 16) (by omega) (by omega), w64 (x := rB a x 2) (by omega) (by omega), w64 (x := rB a x 3) (by omega) (by omega), w64 (x := rB a x 7) (by omega) (by omega), w64 (x := 256 * rB a x 7) (by omega) (by omega), w64 (x := rB a x 3 + 256 * rB a x 7) (by omega) (by omega), show rB a x 0 / 16 % 256 = rB a x 0 / 16 by omega, show rB a x 1 / 16 % 256 = rB a x 1 / 16 by omega, w64 (x := rB a x 0 / 16) (by omega) (by omega), w64 (x := rB a x 1 / 16) (by omega) (by omega)]
        by_cases c4 : a.size - x < g
        · rw [if_pos (by omega), if_pos c4]
        · have h2 := hj2 c4
          rw [if_neg (by omega), if_neg c4, if_pos (by omega), if_pos (by omega), if_pos (by omega), if_pos (by omega)]
          by_cases c8 : g = 8
          · rw [if_pos c8] at h2
            rw [if_pos (by omega), if_pos (by omega)]
            exact h2
          · rw [if_neg c8] at h2
            rw [if_neg (by omega)]
            exact h2
      by_cases c8 : rB a x 0 % 16 = 4
      · rw [if_pos c8]
        exact hj 8 (by unfold rLong; rw [if_pos c8])
      · rw [if_neg c8]
        exact hj 4 (by unfold rLong; rw [if_neg c8])
    · rw [if_pos (by rw [hnil]; omega), if_neg c1, implGoodP_val p (by omega) (k + 2) (by omega)]
      simp only [Option.bind_some]
      cases goodP p <;> rfl
def rpR (a : ByteArray) : List S48 × Int × Bool := if a.size > 160 then ([], 0, false) else rpF 41 a [] 0
theorem specRP_val (a : ByteArray) (k : Nat) (hk : 1049000 ≤ k) : spec_ReadProgram.f k a = some (rpR a) := by
  unfold spec_ReadProgram.f rpR
  by_cases h : a.size > 160
  · rw [if_pos (by omega), if_pos h]
  · rw [if_neg (by omega), if_neg h]
    exact specRP_l a (by omega) 41 0 k [] (by omega) (by omega) (by simp) (by omega)
theorem implRP_val (a : ByteArray) (k : Nat) (hk : 1049000 ≤ k) : impl_ReadProgram.f k a = some (rpR a) := by
  unfold impl_ReadProgram.f rpR
  by_cases h : a.size > 160
  · rw [if_pos (by omega), if_pos h]
  · rw [if_neg (by omega), if_neg h]
    have := implRP_l a (by omega) 41 0 k [] (by omega) (by omega) (by simp) (by omega)
    rw [ByteArray.extract_zero_size] at this
    exact this
theorem rpR_length (a : ByteArray) : (rpR a).1.length ≤ 41 := by
  unfold rpR
  split
  · simp
  · have := rpF_length 41 a [] 0
    simpa using this

def numsAll : List S48 → List Int
  | [] => []
  | x :: r => numsS x ++ numsAll r
theorem strOfNums_app (a b : List Int) : strOfNums a ++ strOfNums b = strOfNums (a ++ b) := by
  apply ByteArray.ext
  simp [strOfNums]
theorem specPB_l (l : List S48) (hl : l.length ≤ 1048576) : ∀ (d i k : Nat) (y : List Int), i + d = l.length → y.length ≤ 8 * i → d < k → spec_ProgramBytes.l0 k (strOfNums y) l (l.length : Int) (i : Int) = some (strOfNums (y ++ numsAll (l.drop i)), true)
  | 0, i, k, y, h1, h2, hk => by
    obtain ⟨k, rfl⟩ : ∃ m, k = m + 1 := ⟨k - 1, by omega⟩
    simp only [spec_ProgramBytes.l0]
    rw [if_neg (by omega), List.drop_of_length_le (by omega), numsAll, List.append_nil]
  | d + 1, i, k, y, h1, h2, hk => by
    obtain ⟨k, rfl⟩ : ∃ m, k = m + 1 := ⟨k - 1, by omega⟩
    have h8 := stepNums_length (l[i]).f0 (l[i]).f1 (l[i]).f2 (l[i]).f3 (l[i]).f4 (l[i]).f5
    simp only [spec_ProgramBytes.l0]
    rw [if_pos (by omega), if_pos (by omega), if_pos (by omega), rd26_nat l i (by omega), specBytes_val]
    simp only [Option.bind_some]
    rw [strOfNums_size, strOfNums_size, if_pos (by omega), strOfNums_app, next64 (by omega), specPB_l l hl d (i + 1) k _ (by omega) (by rw [List.length_append]; omega) (by omega), dropS_at l i (by omega), numsAll, List.append_assoc]
    rfl
theorem implPB_l (l : List S48) (hl : l.length ≤ 1048576) : ∀ (d i k : Nat) (y : List Int), i + d = l.length → y.length ≤ 8 * i → d < k → impl_ProgramBytes.l0 k y l (l.length : Int) (i : Int) = some (strOfNums (y ++ numsAll (l.drop i)), true)
  | 0, i, k, y, h1, h2, hk => by
    obtain ⟨k, rfl⟩ : ∃ m, k = m + 1 := ⟨k - 1, by omega⟩
    simp only [impl_ProgramBytes.l0]
    rw [if_neg (by omega), List.drop_of_length_le (by omega), numsAll, List.append_nil]
  | d + 1, i, k, y, h1, h2, hk => by
    obtain ⟨k, rfl⟩ : ∃ m, k = m + 1 := ⟨k - 1, by omega⟩
    have h8 := stepNums_length (l[i]).f0 (l[i]).f1 (l[i]).f2 (l[i]).f3 (l[i]).f4 (l[i]).f5
    simp only [impl_ProgramBytes.l0]
    rw [if_pos (by omega), if_pos (by omega), if_pos (by omega), rd26_nat l i (by omega), implBytes_val]
    simp only [Option.bind_some]
    rw [if_pos (by omega), next64 (by omega), implPB_l l hl d (i + 1) k _ (by omega) (by rw [List.length_append]; omega) (by omega), dropS_at l i (by omega), numsAll, List.append_assoc]
    rfl
def pbR (l : List S48) : ByteArray × Bool := if goodP l = true then (strOfNums (numsAll l), true) else (⟨#[]⟩, false)
theorem specPB_val (l : List S48) (hll : l.length ≤ 1048576) (k : Nat) (hk : 1048700 ≤ k) : spec_ProgramBytes.f k l = some (pbR l) := by
  unfold spec_ProgramBytes.f pbR
  rw [specGoodP_val l hll k (by omega)]
  simp only [Option.bind_some]
  cases hg : goodP l with
  | false => rfl
  | true =>
    have := specPB_l l hll l.length 0 k [] (by omega) (by simp) (by omega)
    rw [if_pos rfl, if_pos rfl]
    rw [List.nil_append, List.drop_zero] at this
    exact this
theorem implPB_val (l : List S48) (hll : l.length ≤ 1048576) (k : Nat) (hk : 1048700 ≤ k) : impl_ProgramBytes.f k l = some (pbR l) := by
  unfold impl_ProgramBytes.f pbR
  rw [implGoodP_val l hll k (by omega)]
  simp only [Option.bind_some]
  cases hg : goodP l with
  | false => rfl
  | true =>
    have := implPB_l l hll l.length 0 k [] (by omega) (by simp) (by omega)
    rw [if_pos rfl, if_pos rfl]
    rw [List.nil_append, List.drop_zero] at this
    exact this

def slotsFrom : Int → List S48 → List Int
  | _, [] => []
  | a, x :: r => a :: slotsFrom (wrap64 (a + wrap64 (((numsS x).length : Int) / 4))) r
theorem slotsFrom_length : ∀ (l : List S48) (a : Int), (slotsFrom a l).length = l.length
  | [], a => rfl
  | x :: r, a => by
    rw [slotsFrom, List.length_cons, List.length_cons, slotsFrom_length r]
theorem implSlots_l (l : List S48) (hl : l.length ≤ 1048576) : ∀ (d i k : Nat) (a : Int) (y : List Int), i + d = l.length → y.length = i → d < k → impl_SlotsOf.l0 k y a l (l.length : Int) (i : Int) = some (y ++ slotsFrom a (l.drop i), true)
  | 0, i, k, a, y, h1, h2, hk => by
    obtain ⟨k, rfl⟩ : ∃ m, k = m + 1 := ⟨k - 1, by omega⟩
    simp only [impl_SlotsOf.l0]
    rw [if_neg (by omega), List.drop_of_length_le (by omega), slotsFrom, List.append_nil]
  | d + 1, i, k, a, y, h1, h2, hk => by
    obtain ⟨k, rfl⟩ : ∃ m, k = m + 1 := ⟨k - 1, by omega⟩
    simp only [impl_SlotsOf.l0]
    rw [if_pos (by omega), if_pos (by omega), if_pos (by omega), if_pos (by omega), rd26_nat l i (by omega), implBytes_val]
    simp only [Option.bind_some]
    rw [next64 (by omega), implSlots_l l hl d (i + 1) k _ _ (by omega) (by simp [h2]) (by omega), dropS_at l i (by omega), slotsFrom, List.append_assoc]
    rfl
def slotsR (l : List S48) : List Int × Bool := if goodP l = true then (slotsFrom 0 l, true) else ([], false)
theorem implSlotsOf_val (l : List S48) (hll : l.length ≤ 1048576) (k : Nat) (hk : 1048700 ≤ k) : impl_SlotsOf.f k l = some (slotsR l) := by
  unfold impl_SlotsOf.f slotsR
  rw [implGoodP_val l hll k (by omega)]
  simp only [Option.bind_some]
  cases hg : goodP l with
  | false => rfl
  | true =>
    have := implSlots_l l hll l.length 0 k 0 [] (by omega) rfl (by omega)
    rw [if_pos rfl, if_pos rfl]
    simpa using this
theorem step_bd (a0 a1 a2 a3 a4 a5 : Int) (h : stepB a0 a1 a2 a3 a4 a5 = true) : (1 ≤ a0 ∧ a0 ≤ 11) ∧ (0 ≤ a1 ∧ a1 ≤ 10) ∧ (0 ≤ a2 ∧ a2 ≤ 5) ∧ (0 ≤ a3 ∧ a3 ≤ 5) ∧ (0 ≤ a4 ∧ a4 ≤ 65535) ∧ (0 ≤ a5 ∧ a5 ≤ 19) ∧ (a0 ≠ 4 → a4 ≤ 255) := by
  unfold stepB at h
  by_cases c1 : a0 = 1
  · subst c1
    simp [inB, zB] at h
    omega
  by_cases c2 : a0 = 2
  · subst c2
    simp [inB, zB] at h
    omega
  by_cases c3 : a0 = 3
  · subst c3
    simp [inB, zB] at h
    omega
  by_cases c4 : a0 = 4
  · subst c4
    simp [inB, zB] at h
    omega
  by_cases c5 : a0 = 5
  · subst c5
    simp [inB, zB] at h
    omega
  by_cases c6 : a0 = 6
  · subst c6
    simp [inB, zB] at h
    omega
  by_cases c7 : a0 = 7
  · subst c7
    simp [inB, zB] at h
    omega
  by_cases c8 : a0 = 8
  · subst c8
    simp [inB, zB] at h
    omega
  by_cases c9 : a0 = 9
  · subst c9
    simp [inB, zB] at h
    omega
  by_cases c10 : a0 = 10
  · subst c10
    simp [inB, zB] at h
    omega
  by_cases c11 : a0 = 11
  · subst c11
    simp [inB, zB] at h
    omega
  simp [c1, c2, c3, c4, c5, c6, c7, c8, c9, c10, c11] at h
/-- The code of a step that is well formed. -/
theorem nums_step {s : S48} (h : stepS s = true) : numsS s = [s.f0 + 16 * s.f1, 16 * s.f2 + s.f3, s.f5, s.f4 % 256] ++ (if s.f0 = 4 then [0, 0, 0, s.f4 / 256] else []) := by
  obtain ⟨h0, h1, h2, h3, h4, h5, h6⟩ := step_bd _ _ _ _ _ _ h
  unfold numsS stepNums
  rw [w64 (x := 16 * s.f1) (by omega) (by omega), w64 (x := s.f0 + 16 * s.f1) (by omega) (by omega), w64 (x := 16 * s.f2) (by omega) (by omega), w64 (x := 16 * s.f2 + s.f3) (by omega) (by omega), Int.tmod_eq_emod_of_nonneg h4.1, Int.tdiv_eq_ediv_of_nonneg h4.1, w64 (x := s.f4 / 256) (by omega) (by omega)]
  rw [show (s.f0 + 16 * s.f1) % 256 = s.f0 + 16 * s.f1 by omega, show (16 * s.f2 + s.f3) % 256 = 16 * s.f2 + s.f3 by omega, show s.f5 % 256 = s.f5 by omega, show s.f4 % 256 % 256 = s.f4 % 256 by omega, show s.f4 / 256 % 256 = s.f4 / 256 by omega]
theorem nums_len {s : S48} (h : stepS s = true) : (numsS s).length = if s.f0 = 4 then 8 else 4 := by
  rw [nums_step h]
  by_cases h4 : s.f0 = 4
  · rw [if_pos h4, if_pos h4]
    rfl
  · rw [if_neg h4, if_neg h4]
    rfl
theorem nums_byte {s : S48} (h : stepS s = true) : ∀ n ∈ numsS s, 0 ≤ n ∧ n ≤ 255 := by
  obtain ⟨h0, h1, h2, h3, h4, h5, h6⟩ := step_bd _ _ _ _ _ _ h
  rw [nums_step h]
  intro n hn
  by_cases c : s.f0 = 4
  · rw [if_pos c] at hn
    simp at hn
    omega
  · rw [if_neg c] at hn
    simp at hn
    omega
theorem bt_str (n : List Int) (j : Nat) (hj : j < n.length) (h : 0 ≤ n[j] ∧ n[j] ≤ 255) : bt (strOfNums n) (j : Int) = n[j] := by
  unfold bt
  rw [dif_pos (by rw [strOfNums_size]; omega)]
  have e : (strOfNums n)[(j : Int).toNat]'(by rw [strOfNums_size]; omega) = UInt8.ofNat (n[j]).toNat := by
    have : ((j : Int).toNat) = j := by omega
    simp only [this]
    show (strOfNums n).data[j]'_ = _
    simp [strOfNums]
  rw [e]
  simp only [UInt8.toNat_ofNat']
  omega
theorem numsAll_app : ∀ (a b : List S48), numsAll (a ++ b) = numsAll a ++ numsAll b
  | [], b => rfl
  | x :: r, b => by
    show numsS x ++ numsAll (r ++ b) = (numsS x ++ numsAll r) ++ numsAll b
    rw [numsAll_app r b, List.append_assoc]
theorem okFrom_all (n : Nat) : ∀ (l : List S48) (i : Nat), okFrom n i l = true → ∀ x ∈ l, stepS x = true
  | [], _, _, x, hx => by cases hx
  | y :: r, i, h, x, hx => by
    unfold okFrom at h
    simp only [Bool.and_eq_true] at h
    rcases List.mem_cons.1 hx with rfl | hx
    · exact h.1
    · exact okFrom_all n r (i + 1) h.2.2 x hx
theorem goodP_all {l : List S48} (h : goodP l = true) : (∀ x ∈ l, stepS x = true) ∧ 1 ≤ l.length ∧ l.length ≤ 20 := by
  unfold goodP inB at h
  simp only [Bool.and_eq_true, decide_eq_true_eq] at h
  exact ⟨okFrom_all _ l 0 h.2.2, by omega, by omega⟩
theorem numsAll_len {l : List S48} (h : ∀ x ∈ l, stepS x = true) : (numsAll l).length ≤ 8 * l.length ∧ 4 * l.length ≤ (numsAll l).length := by
  induction l with
  | nil => simp [numsAll]
  | cons x r ih =>
    have h1 := ih (fun y hy => h y (List.mem_cons_of_mem _ hy))
    have h2 := nums_len (h x List.mem_cons_self)
    unfold numsAll
    rw [List.length_append, List.length_cons]
    split at h2 <;> omega
theorem nums_split (l : List S48) (i : Nat) (h : i < l.length) : numsAll l = numsAll (l.take i) ++ (numsS l[i] ++ numsAll (l.drop (i + 1))) := by
  have : l = l.take i ++ (l[i] :: l.drop (i + 1)) := by rw [← List.drop_eq_getElem_cons h, List.take_append_drop]
  conv => lhs; rw [this]
  rw [numsAll_app]
  rfl
theorem bt_at {l : List S48} (hs : ∀ x ∈ l, stepS x = true) (i : Nat) (h : i < l.length) (j : Nat) (hj : j < (numsS l[i]).length) : rB (strOfNums (numsAll l)) (numsAll (l.take i)).length j = (numsS l[i])[j] := by
  have hb := nums_byte (hs _ (List.getElem_mem h))
  have hl : (numsAll (l.take i)).length + j < (numsAll l).length := by
    rw [nums_split l i h, List.length_append, List.length_append]
    omega
  have e : (numsAll l)[(numsAll (l.take i)).length + j] = (numsS l[i])[j] := by
    have h1 : (numsAll l)[(numsAll (l.take i)).length + j]? = some (numsS l[i])[j] := by
      rw [nums_split l i h, List.getElem?_append_right (by omega), List.getElem?_append_left (by omega), Nat.add_sub_cancel_left, List.getElem?_eq_getElem hj]
    rw [List.getElem?_eq_getElem hl] at h1
    exact Option.some.inj h1
  unfold rB
  rw [bt_str _ _ hl (by rw [e]; exact hb _ (List.getElem_mem hj)), e]
theorem step_back {l : List S48} (hs : ∀ x ∈ l, stepS x = true) (i : Nat) (h : i < l.length) : rLong (strOfNums (numsAll l)) (numsAll (l.take i)).length = (numsS l[i]).length ∧ rSt (strOfNums (numsAll l)) (numsAll (l.take i)).length (numsS l[i]).length = l[i] := by
  have hv := hs _ (List.getElem_mem h)
  obtain ⟨h0, h1, h2, h3, h4, h5, h6⟩ := step_bd _ _ _ _ _ _ hv
  have hn := nums_step hv
  have hl := nums_len hv
  have hl4 : 4 ≤ (numsS l[i]).length := by rw [hl]; split <;> omega
  have b0 := bt_at hs i h 0 (by omega)
  have b1 := bt_at hs i h 1 (by omega)
  have b2 := bt_at hs i h 2 (by omega)
  have b3 := bt_at hs i h 3 (by omega)
  have g : ∀ (j : Nat) (hj : j < (numsS l[i]).length) (z : Int), ([l[i].f0 + 16 * l[i].f1, 16 * l[i].f2 + l[i].f3, l[i].f5, l[i].f4 % 256] ++ (if l[i].f0 = 4 then [0, 0, 0, l[i].f4 / 256] else []))[j]? = some z → (numsS l[i])[j] = z := by
    intro j hj z hz
    rw [← hn, List.getElem?_eq_getElem hj] at hz
    exact Option.some.inj hz
  rw [g 0 (by omega) _ rfl] at b0
  rw [g 1 (by omega) _ rfl] at b1
  rw [g 2 (by omega) _ rfl] at b2
  rw [g 3 (by omega) _ rfl] at b3
  unfold rLong rSt
  rw [b0, b1, b2, b3]
  have e0 : (l[i].f0 + 16 * l[i].f1) % 16 = l[i].f0 := by omega
  have e1 : (l[i].f0 + 16 * l[i].f1) / 16 = l[i].f1 := by omega
  have e2 : (16 * l[i].f2 + l[i].f3) / 16 = l[i].f2 := by omega
  have e3 : (16 * l[i].f2 + l[i].f3) % 16 = l[i].f3 := by omega
  rw [e0, e1, e2, e3]
  by_cases c : l[i].f0 = 4
  · rw [if_pos c] at hl
    have b7 := bt_at hs i h 7 (by omega)
    rw [g 7 (by omega) (l[i].f4 / 256) (by rw [if_pos c]; rfl)] at b7
    rw [if_pos c, hl, if_pos rfl, b7]
    refine ⟨rfl, ?_⟩
    rw [show l[i].f4 % 256 + 256 * (l[i].f4 / 256) = l[i].f4 by omega]
  · rw [if_neg c] at hl
    rw [if_neg c, hl, if_neg (by decide)]
    refine ⟨rfl, ?_⟩
    have := h6 c
    rw [show l[i].f4 % 256 = l[i].f4 by omega]
theorem str_extract (a b c : List Int) : (strOfNums (a ++ (b ++ c))).extract a.length (a.length + b.length) = strOfNums b := by
  apply ByteArray.ext
  apply Array.ext'
  rw [ByteArray.data_extract, Array.toList_extract, strOfNums_data, strOfNums_data, List.map_append, List.map_append]
  simp [List.extract]
theorem bytes_ext {a b : ByteArray} (h : a.toList = b.toList) : a = b := by
  rw [Go.Lib.toList_data, Go.Lib.toList_data] at h
  apply ByteArray.ext
  exact Array.ext' h
/-- What a program's code is read as. -/
theorem rp_code {l : List S48} (hg : goodP l = true) : ∀ (d i f : Nat), i + d = l.length → d < f → rpF f (strOfNums (numsAll l)) (l.take i) (numsAll (l.take i)).length = (l, 0, true)
  | 0, i, f, h1, hf => by
    obtain ⟨f, rfl⟩ : ∃ m, f = m + 1 := ⟨f - 1, by omega⟩
    unfold rpF
    rw [List.take_of_length_le (by omega), strOfNums_size, if_neg (by omega), if_pos hg]
  | d + 1, i, f, h1, hf => by
    obtain ⟨f, rfl⟩ : ∃ m, f = m + 1 := ⟨f - 1, by omega⟩
    obtain ⟨hs, _, _⟩ := goodP_all hg
    have hi : i < l.length := by omega
    obtain ⟨e1, e2⟩ := step_back hs i hi
    have hv := hs _ (List.getElem_mem hi)
    have hl := nums_len hv
    have hsp := nums_split l i hi
    have hsz : (strOfNums (numsAll l)).size = (numsAll (l.take i)).length + ((numsS l[i]).length + (numsAll (l.drop (i + 1))).length) := by rw [strOfNums_size, hsp, List.length_append, List.length_append]
    have hx : (strOfNums (numsAll l)).extract (numsAll (l.take i)).length ((numsAll (l.take i)).length + (numsS l[i]).length) = strOfNums (numsS l[i]) := by
      conv => lhs; rw [hsp]
      exact str_extract _ _ _
    have hn : l.take i ++ [l[i]] = l.take (i + 1) := by rw [List.take_add_one, List.getElem?_eq_getElem hi]; rfl
    have hnl : (numsAll (l.take i)).length + (numsS l[i]).length = (numsAll (l.take (i + 1))).length := by
      rw [← hn, numsAll_app, List.length_append]
      simp [numsAll]
    unfold rpF
    rw [e1, e2, hx, if_pos (by split at hl <;> omega), if_neg (by omega), if_pos hv, if_pos rfl, hn, hnl]
    exact rp_code hg d (i + 1) f (by omega) (by omega)
theorem rpR_code {l : List S48} (hg : goodP l = true) : rpR (strOfNums (numsAll l)) = (l, 0, true) := by
  obtain ⟨hs, _, h20⟩ := goodP_all hg
  have := (numsAll_len hs).1
  unfold rpR
  rw [if_neg (by rw [strOfNums_size]; omega)]
  exact rp_code hg l.length 0 41 (by omega) (by omega)
/-- A program that is read has the code it was read from. -/
theorem rp_back (a : ByteArray) : ∀ (f x : Nat) (p r : List S48) (c : Int), x ≤ a.size → rpF f a p x = (r, c, true) → goodP r = true ∧ strOfNums (numsAll r) = strOfNums (numsAll p) ++ a.extract x a.size
  | 0, x, p, r, c, hx, h => by
    unfold rpF at h
    cases h
  | f + 1, x, p, r, c, hx, h => by
    unfold rpF at h
    by_cases c1 : x < a.size
    · rw [if_pos c1] at h
      by_cases c2 : a.size - x < rLong a x
      · rw [if_pos c2] at h
        cases h
      · rw [if_neg c2] at h
        by_cases c3 : stepS (rSt a x (rLong a x)) = true
        · rw [if_pos c3] at h
          by_cases c4 : (strOfNums (numsS (rSt a x (rLong a x)))).toList = (a.extract x (x + rLong a x)).toList
          · rw [if_pos c4] at h
            obtain ⟨g1, g2⟩ := rp_back a f (x + rLong a x) _ r c (by omega) h
            refine ⟨g1, ?_⟩
            rw [g2, numsAll_app, show numsAll [rSt a x (rLong a x)] = numsS (rSt a x (rLong a x)) by simp [numsAll], ← strOfNums_app, bytes_ext c4, ByteArray.append_assoc, ByteArray.extract_append_extract]
            rw [show min x (x + rLong a x) = x by omega, show max (x + rLong a x) a.size = a.size by omega]
          · rw [if_neg c4] at h
            cases h
        · rw [if_neg c3] at h
          cases h
    · rw [if_neg c1] at h
      by_cases hg : goodP p = true
      · rw [if_pos hg] at h
        have e1 : p = r := by
          injection h
        rw [← e1, show x = a.size by omega]
        refine ⟨hg, ?_⟩
        apply ByteArray.ext
        apply Array.ext'
        simp
      · rw [if_neg hg] at h
        cases h
theorem rpR_back {a : ByteArray} {r : List S48} {c : Int} (h : rpR a = (r, c, true)) : goodP r = true ∧ strOfNums (numsAll r) = a := by
  unfold rpR at h
  by_cases hb : a.size > 160
  · rw [if_pos hb] at h
    cases h
  · rw [if_neg hb] at h
    obtain ⟨h1, h2⟩ := rp_back a 41 0 [] r c (by omega) h
    refine ⟨h1, ?_⟩
    rw [h2, ByteArray.extract_zero_size]
    apply ByteArray.ext
    apply Array.ext'
    simp [numsAll, strOfNums]
theorem slots_at : ∀ (l : List S48) (a : Int) (i : Nat) (h : i < (slotsFrom a l).length), (∀ x ∈ l, stepS x = true) → 0 ≤ a → a + 2 * l.length ≤ 100000 → 4 * (slotsFrom a l)[i] = 4 * a + ((numsAll (l.take i)).length : Int) ∧ 0 ≤ (slotsFrom a l)[i]
  | [], a, i, h, _, _, _ => by simp [slotsFrom] at h
  | x :: r, a, 0, h, _, _, _ => by simp [slotsFrom, numsAll]; omega
  | x :: r, a, i + 1, h, hs, h0, h1 => by
    have hx := nums_len (hs x List.mem_cons_self)
    rw [List.length_cons] at h1
    have e : wrap64 (a + wrap64 (((numsS x).length : Int) / 4)) = a + ((numsS x).length : Int) / 4 := by
      have : (numsS x).length = 4 ∨ (numsS x).length = 8 := by split at hx <;> omega
      rw [w64 (x := ((numsS x).length : Int) / 4) (by omega) (by omega), w64 (by omega) (by omega)]
    have e2 : (slotsFrom a (x :: r)) = a :: slotsFrom (a + ((numsS x).length : Int) / 4) r := by rw [slotsFrom, e]
    have h' : i < (slotsFrom (a + ((numsS x).length : Int) / 4) r).length := by
      rw [slotsFrom_length] at h ⊢
      rw [List.length_cons] at h
      omega
    have h8 : (numsS x).length = 4 ∨ (numsS x).length = 8 := by split at hx <;> omega
    obtain ⟨g1, g2⟩ := slots_at r (a + ((numsS x).length : Int) / 4) i h' (fun y hy => hs y (List.mem_cons_of_mem _ hy)) (by omega) (by omega)
    have e3 : (slotsFrom a (x :: r))[i + 1] = (slotsFrom (a + ((numsS x).length : Int) / 4) r)[i] := by
      simp only [e2]
      rfl
    rw [e3, List.take_succ_cons]
    unfold numsAll
    rw [List.length_append]
    omega

theorem sameSteps_l (l : List S48) (hl : l.length ≤ 1048576) : ∀ (d i k : Nat), i + d = l.length → d < k → laws_sameSteps.l0 k l l (l.length : Int) (i : Int) = some true
  | 0, i, k, h1, hk => by
    obtain ⟨k, rfl⟩ : ∃ m, k = m + 1 := ⟨k - 1, by omega⟩
    simp only [laws_sameSteps.l0]
    rw [if_neg (by omega)]
  | d + 1, i, k, h1, hk => by
    obtain ⟨k, rfl⟩ : ∃ m, k = m + 1 := ⟨k - 1, by omega⟩
    simp only [laws_sameSteps.l0, BEq.rfl, Bool.not_true, Bool.or_false]
    rw [if_pos (by omega), if_pos (by omega), if_pos (by omega), if_pos (by omega), if_neg Bool.false_ne_true, next64 (by omega)]
    exact sameSteps_l l hl d (i + 1) k (by omega) (by omega)
theorem sameSteps_refl (l : List S48) (hl : l.length ≤ 1048576) (k : Nat) (hk : l.length < k) : laws_sameSteps.f k l l = some true := by
  unfold laws_sameSteps.f
  rw [if_pos rfl]
  exact sameSteps_l l hl l.length 0 k (by omega) hk

theorem drawRead_ok {c : List Int} (hc : U8 c) (k : Nat) (hk : 2000000 ≤ k) : ∃ t, spec_DrawReadProgram.f k c = some t := by
  obtain ⟨l, p1, s1, e1, hl, _, a1, b1⟩ := program_ok hc 0 (p := 0) (by omega) (by omega) k (by omega)
  obtain ⟨b, p2, s2, e2, a2, b2⟩ := one_ok hc s1 3 (p := p1) (by omega) (by omega)
  unfold spec_DrawReadProgram.f
  rw [e1]
  simp only [Option.bind_some]
  rw [specPB_val l (by omega) k (by omega)]
  simp only [Option.bind_some]
  rw [e2]
  simp only [Option.bind_some]
  cases b with
  | false =>
    rw [if_neg Bool.false_ne_true]
    exact ⟨_, rfl⟩
  | true =>
    have hsz : (pbR l).1.size ≤ 1000 := by
      unfold pbR
      by_cases hg : goodP l = true
      · obtain ⟨hs, _, _⟩ := goodP_all hg
        have := (numsAll_len hs).1
        rw [if_pos hg]
        show (strOfNums (numsAll l)).size ≤ 1000
        rw [strOfNums_size]
        omega
      · rw [if_neg hg]
        show (0 : Nat) ≤ 1000
        omega
    rw [if_pos rfl]
    obtain ⟨r, p3, s3, e3⟩ := spoilt_ok hc ⟨#[0, 1, 11, 3]⟩ (by decide) (by decide) (pbR l).1 hsz s2 (p := p2) (by omega) (by omega) k (by omega)
    rw [e3]
    exact ⟨_, rfl⟩
theorem program_j3 {d : List Int} (hd : U8 d) (k : Nat) (hk : 3000000 ≤ k) : laws_FnProgram.j3 k d = some true := by
  obtain ⟨k, rfl⟩ : ∃ m, k = m + 2 := ⟨k - 2, by omega⟩
  obtain ⟨t, ht⟩ := drawRead_ok hd (k + 1) (by omega)
  have hr := rpR_length t
  simp only [laws_FnProgram.j3]
  rw [ht]
  simp only [Option.bind_some]
  rw [implRP_val t (k + 1) (by omega), specRP_val t (k + 1) (by omega)]
  simp only [Option.bind_some, bne_self_eq_false]
  rw [if_neg Bool.false_ne_true, if_pos (by trivial), sameSteps_refl _ (by omega) (k + 1) (by omega)]
  simp only [Option.bind_some, Bool.not_true, laws_FnProgram.j4]
  rw [if_neg Bool.false_ne_true]
  obtain ⟨⟨r, c, ok⟩, hre⟩ : ∃ r, r = rpR t := ⟨_, rfl⟩
  rw [← hre] at hr ⊢
  cases ok with
  | false =>
    show (if false = true then _ else _) = _
    rw [if_neg Bool.false_ne_true]
  | true =>
    obtain ⟨hg, hb⟩ := rpR_back hre.symm
    show (if true = true then _ else _) = _
    rw [if_pos rfl, implPB_val r (by simp only at hr; omega) k (by omega)]
    unfold pbR
    rw [if_pos hg]
    simp only [Option.bind_some]
    rw [if_pos (by trivial), hb, BEq.rfl]
theorem slot_facts {A B C Z : Nat} {y : Int} (q : 0 ≤ y) (hz : Z = A + (B + C)) : ¬ y < 0 ∧ ¬ ((A + B : Nat) : Int) > (Z : Int) ∧ (0 : Int) ≤ (A : Int) ∧ (A : Int) ≤ ((A + B : Nat) : Int) ∧ ((A + B : Nat) : Int) ≤ (Z : Int) := by omega
theorem slot_wrap {A : Nat} {y : Int} (q : 4 * y = 4 * 0 + (A : Int)) (h : A ≤ 160) : wrap64 (4 * y) = (A : Int) := by
  rw [w64 (by omega) (by omega)]
  omega
theorem slot_wrap2 {A B : Nat} (h : A ≤ 160) (h8 : B ≤ 8) : wrap64 ((A : Int) + (B : Int)) = ((A + B : Nat) : Int) := by
  rw [w64 (by omega) (by omega)]
  omega
theorem program_l0 {d : List Int} (hd : U8 d) {l : List S48} (hg : goodP l = true) : ∀ (n i k : Nat), i + n = (slotsFrom 0 l).length → 4000000 + n ≤ k → laws_FnProgram.l0 k d l (strOfNums (numsAll l)) (slotsFrom 0 l) ((slotsFrom 0 l).length : Int) (i : Int) = some true
  | 0, i, k, h1, hk => by
    obtain ⟨k, rfl⟩ : ∃ m, k = m + 1 := ⟨k - 1, by omega⟩
    simp only [laws_FnProgram.l0]
    rw [if_neg (by omega)]
    exact program_j3 hd k (by omega)
  | n + 1, i, k, h1, hk => by
    obtain ⟨k, rfl⟩ : ∃ m, k = m + 1 := ⟨k - 1, by omega⟩
    obtain ⟨hs, _, h20⟩ := goodP_all hg
    have hsl := slotsFrom_length l 0
    have hi : i < (slotsFrom 0 l).length := by omega
    have hil : i < l.length := by omega
    have hv := hs _ (List.getElem_mem hil)
    have hn := nums_len hv
    have hn8 : (numsS l[i]).length ≤ 8 := by split at hn <;> omega
    clear hn
    obtain ⟨q1, q2⟩ := slots_at l 0 i hi hs (by omega) (by omega)
    have hsp := nums_split l i hil
    have hsz : (strOfNums (numsAll l)).size = (numsAll (l.take i)).length + ((numsS l[i]).length + (numsAll (l.drop (i + 1))).length) := by rw [strOfNums_size, hsp, List.length_append, List.length_append]
    have htk := (numsAll_len (l := l.take i) (fun x hx => hs x (List.mem_of_mem_take hx))).1
    rw [List.length_take] at htk
    have hA : (numsAll (l.take i)).length ≤ 160 := by omega
    clear htk
    have hx : (strOfNums (numsAll l)).extract (numsAll (l.take i)).length ((numsAll (l.take i)).length + (numsS l[i]).length) = strOfNums (numsS l[i]) := by
      conv => lhs; rw [hsp]
      exact str_extract _ _ _
    clear hsp
    have hst : impl_StepBytes.f k l[i].f0 l[i].f1 l[i].f2 l[i].f3 l[i].f4 l[i].f5 = some (strOfNums (numsS l[i]), true) := by
      unfold impl_StepBytes.f
      rw [implStep_val _ _ _ _ _ _ k (by omega), show stepB l[i].f0 l[i].f1 l[i].f2 l[i].f3 l[i].f4 l[i].f5 = true from hv]
      simp only [Option.bind_some]
      rw [if_pos (by trivial), implBytes_val]
      rfl
    have e4 := slot_wrap q1 hA
    have e5 := slot_wrap2 hA hn8
    have ih := program_l0 hd hg n (i + 1) k (by omega) (by omega)
    simp only [laws_FnProgram.l0]
    rw [if_pos (by omega), if_pos (by omega), if_pos (by omega), if_pos (by omega), rd26_nat l i hil, rd_nat _ i hi, hst]
    simp only [Option.bind_some]
    obtain ⟨c1, c2, c3, c4, c5⟩ := slot_facts q2 hsz
    have c6 : wrap64 ((i : Int) + 1) = ((i + 1 : Nat) : Int) := next64 (by omega)
    rw [strOfNums_size (numsS l[i]), e4, e5, c6, if_neg c1, if_neg c2, if_pos c3, if_pos c4, if_pos c5, Int.toNat_natCast, Int.toNat_natCast, hx, ih]
    simp
  termination_by structural n => n

theorem FnProgram : laws_FnProgram.Pure := by
  intro c d hc0 hc1 hc2 hd0 hd1 hd2
  obtain ⟨k, hk⟩ : ∃ k : Nat, 20000000 ≤ k := ⟨_, Nat.le_refl _⟩
  refine ⟨k + 2, ?_⟩
  have hc := u8_of hc2
  have hd := u8_of hd2
  unfold laws_FnProgram.f
  by_cases hbig : wrap64 ((c.length : Int) + (d.length : Int)) > 1048576
  · rw [if_pos hbig]
  · rw [if_neg hbig]
    obtain ⟨l, p1, s1, e1, hl, _, a1, b1⟩ := program_ok hc 0 (p := 0) (by omega) (by omega) (k + 2) (by omega)
    have hdraw : spec_DrawProgramBytes.f (k + 2) c = some l := by
      unfold spec_DrawProgramBytes.f spec_DrawGoodProgram.f
      rw [e1]
      rfl
    rw [hdraw]
    simp only [Option.bind_some]
    rw [implPB_val l (by omega) (k + 2) (by omega), specPB_val l (by omega) (k + 2) (by omega)]
    simp only [Option.bind_some, bne_self_eq_false]
    rw [if_neg Bool.false_ne_true, if_pos (by trivial), implGoodP_val l (by omega) (k + 2) (by omega)]
    simp only [Option.bind_some]
    unfold pbR
    by_cases hg : goodP l = true
    · rw [if_pos hg, hg]
      simp only [bne_self_eq_false, laws_FnProgram.j0]
      obtain ⟨hs, _, _⟩ := goodP_all hg
      rw [if_neg Bool.false_ne_true, if_pos (by trivial), implRP_val _ (k + 1) (by omega), rpR_code hg, implSlotsOf_val l (by omega) (k + 1) (by omega)]
      unfold slotsR
      rw [if_pos hg]
      simp only [Option.bind_some]
      rw [if_pos (by trivial), if_pos (by trivial), sameSteps_refl l (by omega) (k + 1) (by omega)]
      simp only [Option.bind_some, Bool.not_true, laws_FnProgram.j1]
      rw [if_pos (by trivial), if_neg Bool.false_ne_true, if_neg (by rw [slotsFrom_length]; omega)]
      exact program_l0 hd hg (slotsFrom 0 l).length 0 k (by omega) (by rw [slotsFrom_length]; omega)
    · have hf : goodP l = false := by simpa using hg
      rw [if_neg hg, hf]
      simp only [bne_self_eq_false, laws_FnProgram.j0]
      rw [if_neg Bool.false_ne_true, if_neg Bool.false_ne_true]
      exact program_j3 hd (k + 1) (by omega)

end Go.Proofs.Ytpkbjgmeejlchaa.Pure
