/- The pure statement of the law FnWords: the printed functions of the program and of the reference give the same answers, at every input that the statement's guards let in. -/
import Derived.Test.YtpkbjgmeejlchaaPFnWordsx3
import Derived.Laws.Bits128
import Derived.Laws.Bits64b
namespace Go.Proofs.Ytpkbjgmeejlchaa.Pure
open Go.RowKit Go.Proofs.Ytpkbjgmeejlchaa.PFnWords Go.Proofs.YtpkbjgmeejlchaaW.PrintWords Go.Proofs.YtpkbjgmeejlchaaW.PrintLast Go.Proofs.YtpkbjgmeejlchaaW.PrintMore
set_option linter.unusedSimpArgs false
set_option linter.unusedVariables false
theorem w64 {x : Int} (h0 : -9223372036854775808 ≤ x) (h1 : x ≤ 9223372036854775807) : wrap64 x = x := by
  unfold wrap64
  omega
theorem l64 {a : Int} (h : (Lit.int .i64 a).wf = true) : -9223372036854775808 ≤ a ∧ a ≤ 9223372036854775807 := by
  simp only [Lit.wf, IntKind.min, IntKind.max, IntKind.signed, IntKind.bits, Bool.and_eq_true, decide_eq_true_eq, if_true] at h
  omega
theorem rd_nat (l : List Int) (i : Nat) (h : i < l.length) : rd l (i : Int) = l[i] := by
  unfold rd
  rw [List.getD_eq_getElem?_getD, show ((i : Int).toNat) = i by omega, List.getElem?_eq_getElem h]
  rfl
theorem next64 {i : Nat} (h : i ≤ 4611686018427387904) : wrap64 ((i : Int) + 1) = ((i + 1 : Nat) : Int) := by
  rw [w64 (by omega) (by omega)]
  omega

def U8 (c : List Int) : Prop := ∀ x ∈ c, 0 ≤ x ∧ x ≤ 255
theorem u8_of {c : List Int} (h : ∀ x ∈ c, (Lit.int .u8 x).wf = true) : U8 c := fun x hx => by
  have := h x hx
  simp [Lit.wf, IntKind.min, IntKind.max, IntKind.signed, IntKind.bits] at this
  omega
theorem u64_range (x : Int) : 0 ≤ IntKind.u64.wrap x ∧ IntKind.u64.wrap x < 18446744073709551616 := by
  rw [show IntKind.u64.wrap x = x % 18446744073709551616 by simp [IntKind.wrap, IntKind.bits, IntKind.signed]]
  omega
theorem and255 {x : Int} (h0 : 0 ≤ x) (h1 : x < 18446744073709551616) : 0 ≤ Go.bits .and .u64 x 255 ∧ Go.bits .and .u64 x 255 ≤ 255 := by
  obtain ⟨n, rfl⟩ : ∃ n : Nat, x = n := ⟨x.toNat, by omega⟩
  have e : Go.bits .and .u64 (n : Int) 255 = ((n &&& 255 : Nat) : Int) := bits_and_u64_nat n 255 (by omega) (by omega)
  have : n &&& 255 ≤ 255 := Nat.and_le_right
  rw [e]
  omega
theorem next_ok {c : List Int} (hc : U8 c) {p : Int} (s : Int) (h0 : 0 ≤ p) (h1 : p ≤ 1000000000000) : ∃ b s', spec_l1Cur_next.f c p s = some (b, p + 1, s') ∧ 0 ≤ b ∧ b ≤ 255 := by
  unfold spec_l1Cur_next.f
  rw [w64 (x := p + 1) (by omega) (by omega)]
  by_cases h : p < (c.length : Int)
  · have hb : 0 ≤ rd c p ∧ rd c p ≤ 255 := by
      obtain ⟨i, rfl⟩ : ∃ i : Nat, p = i := ⟨p.toNat, by omega⟩
      rw [rd_nat c i (by omega)]
      exact hc _ (List.getElem_mem _)
    rw [if_pos h, if_pos h0, if_pos (by omega), w64 (x := rd c p) (by omega) (by omega)]
    exact ⟨_, _, rfl, hb.1, hb.2⟩
  · rw [if_neg h, if_neg (by omega)]
    have hr := u64_range (IntKind.u64.wrap (IntKind.u64.wrap (s * 6364136223846793005) + 0) + 1442695040888963407)
    have hb := and255 (x := IntKind.u64.wrap (IntKind.u64.wrap (IntKind.u64.wrap (s * 6364136223846793005) + 0) + 1442695040888963407) / 1099511627776) (by omega) (by omega)
    rw [w64 (x := Go.bits .and .u64 _ 255) (by omega) (by omega)]
    exact ⟨_, _, rfl, hb.1, hb.2⟩
theorem pick_ok {c : List Int} (hc : U8 c) {p : Int} (s : Int) (n : Int) (h0 : 0 ≤ p) (h1 : p ≤ 999999999000) : ∃ r p' s', spec_l1Cur_pick.f c p s n = some (r, p', s') ∧ p ≤ p' ∧ p' ≤ p + 2 ∧ 0 ≤ r ∧ (1 ≤ n → r < n) ∧ (n ≤ 1 → r = 0) := by
  unfold spec_l1Cur_pick.f
  by_cases h : n ≤ 1
  · rw [if_pos h]
    exact ⟨0, p, s, rfl, by omega, by omega, by omega, by omega, by omega⟩
  · rw [if_neg h]
    obtain ⟨b, s1, e1, b0, b1⟩ := next_ok hc s h0 (by omega)
    rw [e1]
    simp only [Option.bind_some]
    have ht : ∀ x : Int, 0 ≤ x → 0 ≤ Int.tmod x n ∧ Int.tmod x n < n := fun x hx => by
      rw [Int.tmod_eq_emod_of_nonneg hx]
      exact ⟨Int.emod_nonneg _ (by omega), Int.emod_lt_of_pos _ (by omega)⟩
    by_cases h2 : n > 200
    · rw [if_pos h2]
      obtain ⟨d, s2, e2, d0, d1⟩ := next_ok hc s1 (p := p + 1) (by omega) (by omega)
      rw [e2]
      simp only [Option.bind_some]
      rw [if_neg (by omega), w64 (x := b * 256) (by omega) (by omega), w64 (by omega) (by omega)]
      obtain ⟨a1, a2⟩ := ht (b * 256 + d) (by omega)
      exact ⟨_, _, _, rfl, by omega, by omega, a1, fun _ => a2, by omega⟩
    · rw [if_neg h2, if_neg (by omega)]
      obtain ⟨a1, a2⟩ := ht b b0
      exact ⟨_, _, _, rfl, by omega, by omega, a1, fun _ => a2, by omega⟩
theorem among_ok {c : List Int} (hc : U8 c) {p : Int} (s : Int) (l : List Int) (hl : 0 < l.length) (h0 : 0 ≤ p) (h1 : p ≤ 999999999000) : ∃ r p' s', spec_l1Cur_among.f c p s l = some (r, p', s') ∧ p ≤ p' ∧ p' ≤ p + 2 ∧ r ∈ l := by
  unfold spec_l1Cur_among.f
  obtain ⟨r, p', s', e, a, b, r0, r1, _⟩ := pick_ok hc s (l.length : Int) h0 h1
  have hr := r1 (by omega)
  rw [e]
  simp only [Option.bind_some]
  rw [if_pos r0, if_pos hr]
  obtain ⟨i, rfl⟩ : ∃ i : Nat, r = i := ⟨r.toNat, by omega⟩
  rw [rd_nat l i (by omega)]
  exact ⟨_, _, _, rfl, a, b, List.getElem_mem _⟩
theorem one_ok {c : List Int} (hc : U8 c) {p : Int} (s : Int) (n : Int) (h0 : 0 ≤ p) (h1 : p ≤ 999999999000) : ∃ r p' s', spec_l1Cur_one.f c p s n = some (r, p', s') ∧ p ≤ p' ∧ p' ≤ p + 2 := by
  unfold spec_l1Cur_one.f
  obtain ⟨r, p', s', e, a, b, _, _, _⟩ := pick_ok hc s n h0 h1
  rw [e]
  exact ⟨_, _, _, rfl, a, b⟩

theorem word_ok {c : List Int} (hc : U8 c) {p : Int} (s : Int) (h0 : 0 ≤ p) (h1 : p ≤ 999999998000) : ∃ r p' s', spec_l1Cur_word.f c p s = some (r, p', s') ∧ p ≤ p' ∧ p' ≤ p + 12 ∧ 0 ≤ r ∧ r ≤ 65535 := by
  unfold spec_l1Cur_word.f
  obtain ⟨r1, p1, s1, e1, a1, b1, c1, d1, _⟩ := pick_ok hc s 256 h0 (by omega)
  obtain ⟨r2, p2, s2, e2, a2, b2, c2, d2, _⟩ := pick_ok hc s1 256 (p := p1) (by omega) (by omega)
  obtain ⟨r3, p3, s3, e3, a3, b3, c3, d3, _⟩ := pick_ok hc s2 256 (p := p2) (by omega) (by omega)
  obtain ⟨r4, p4, s4, e4, a4, b4, c4, d4, _⟩ := pick_ok hc s3 256 (p := p3) (by omega) (by omega)
  obtain ⟨r5, p5, s5, e5, a5, b5, c5, d5, _⟩ := pick_ok hc s4 20 (p := p4) (by omega) (by omega)
  replace d1 := d1 (by omega)
  replace d2 := d2 (by omega)
  replace d3 := d3 (by omega)
  replace d4 := d4 (by omega)
  replace d5 := d5 (by omega)
  rw [e1]
  simp only [Option.bind_some]
  rw [e2]
  simp only [Option.bind_some]
  rw [e3]
  simp only [Option.bind_some]
  rw [e4]
  simp only [Option.bind_some]
  rw [e5]
  simp only [Option.bind_some]
  rw [w64 (x := r1 * 256) (by omega) (by omega), w64 (x := r1 * 256 + r2) (by omega) (by omega), w64 (x := r3 * 256) (by omega) (by omega), w64 (x := r3 * 256 + r4) (by omega) (by omega)]
  obtain ⟨r, p6, s6, e6, a6, b6, hm⟩ := among_ok hc s5 [0, 1, 2, 255, 256, 32767, 32768, 65535, r1 * 256 + r2, r3 * 256 + r4, r5] (p := p5) (by simp) (by omega) (by omega)
  rw [e6]
  refine ⟨_, _, _, rfl, by simp only; omega, by simp only; omega, ?_⟩
  simp only [List.mem_cons, List.not_mem_nil, or_false] at hm
  simp only
  omega
theorem rawWord_ok {c : List Int} (hc : U8 c) {p : Int} (s : Int) (h0 : 0 ≤ p) (h1 : p ≤ 999999997000) : ∃ r p' s', spec_l1Cur_rawWord.f c p s = some (r, p', s') ∧ p ≤ p' ∧ p' ≤ p + 20 ∧ -1 ≤ r ∧ r ≤ 65536 := by
  unfold spec_l1Cur_rawWord.f
  obtain ⟨b, p1, s1, e1, a1, b1⟩ := one_ok hc s 20 h0 (by omega)
  rw [e1]
  simp only [Option.bind_some]
  cases b with
  | true =>
    obtain ⟨r, p6, s6, e6, a6, b6, hm⟩ := among_ok hc s1 [(-1), 65536] (p := p1) (by simp) (by omega) (by omega)
    rw [if_pos rfl, e6]
    refine ⟨_, _, _, rfl, by simp only; omega, by simp only; omega, ?_⟩
    simp only [List.mem_cons, List.not_mem_nil, or_false] at hm
    simp only
    omega
  | false =>
    obtain ⟨r, p6, s6, e6, a6, b6, r0, r1⟩ := word_ok hc s1 (p := p1) (by omega) (by omega)
    rw [if_neg Bool.false_ne_true, e6]
    exact ⟨_, _, _, rfl, by simp only; omega, by simp only; omega, by simp only; omega, by simp only; omega⟩

theorem lwrap_val (a : Int) : Int.tmod (wrap64 ((Int.tmod a 65536) + 65536)) 65536 = a % 65536 := by
  unfold wrap64
  have h1 := Int.tmod_eq_emod (a := a) (b := 65536)
  have h2 : ∀ x : Int, 0 ≤ x → Int.tmod x 65536 = x % 65536 := fun x hx => Int.tmod_eq_emod_of_nonneg hx
  split at h1 <;> (rw [h2 _ (by omega)]; omega)
theorem and65535 {a : Int} (h : -9223372036854775808 ≤ a ∧ a ≤ 9223372036854775807) : Go.bits .and .i64 a 65535 = a % 65536 := by
  have e : BitVec.ofInt 64 a &&& BitVec.ofInt 64 65535 = BitVec.ofInt 64 (a % 65536) := by
    apply BitVec.eq_of_toNat_eq
    rw [BitVec.toNat_and]
    have h1 : (BitVec.ofInt 64 (65535 : Int)).toNat = 2 ^ 16 - 1 := by decide
    rw [h1, Nat.and_two_pow_sub_one_eq_mod]
    simp only [BitVec.toNat_ofInt]
    omega
  show IntKind.i64.wrap ((BitVec.ofInt 64 a &&& BitVec.ofInt 64 65535).toNat : Int) = _
  rw [e, BitVec.toNat_ofInt, IntKind.wrap_i64]
  omega

def wB (x : Int) : Bool := decide (0 ≤ x ∧ x ≤ 65535)
def sg (x : Int) : Int := if x ≥ 32768 then x - 65536 else x
theorem specWordB_val (x : Int) : spec_l1Word.f x = some (wB x) := by
  unfold spec_l1Word.f spec_l1In.f wB
  split <;> simp [*] <;> omega
theorem implWordB_val (x : Int) : impl_isWord.f x = some (wB x) := by
  unfold impl_isWord.f impl_in.f wB
  split <;> simp [*] <;> omega
theorem wB_iff {x : Int} : wB x = true ↔ 0 ≤ x ∧ x ≤ 65535 := by simp [wB]

theorem shl_wf (x y : Int) : (Lit.int .i64 (shl .i64 x y)).wf = true := by
  unfold shl
  rw [IntKind.wrap_i64]
  have h := wrap64_wf (x * 2 ^ min y.toNat IntKind.i64.bits)
  unfold wrap64 at h
  exact h
theorem mod16 (b : Int) (h : 0 ≤ b) : IntKind.u64.wrap (Int.tmod b 16) = Int.tmod b 16 := by
  rw [Int.tmod_eq_emod_of_nonneg h]
  simp [IntKind.wrap, IntKind.bits, IntKind.signed]
  omega
theorem mod16_nonneg (b : Int) (h : 0 ≤ b) : 0 ≤ Int.tmod b 16 := by
  rw [Int.tmod_eq_emod_of_nonneg h]; omega
theorem do_same (op a b : Int) (hb : 0 ≤ b) : impl_do.f op a b = spec_l1Do.f op a b := by
  have w := fun x => and65535 (l64 (wrap64_wf x))
  have w2 := fun x y => and65535 (l64 (shl_wf x y))
  simp only [impl_do.f, spec_l1Do.f, impl_WordOf.f, spec_l1Wrap.f, lwrap_val, w, w2, mod16 b hb]
theorem do_some (op a b : Int) (hb : 0 ≤ b) : ∃ y, spec_l1Do.f op a b = some y := by
  have h0 := mod16_nonneg b hb
  simp only [spec_l1Do.f, spec_l1Wrap.f, mod16 b hb, Option.bind_some, if_pos h0]
  repeat' split
  all_goals exact ⟨_, rfl⟩
theorem word_val (x : Int) : spec_l1Word.f x = some (decide (0 ≤ x ∧ x ≤ 65535)) := by
  unfold spec_l1Word.f spec_l1In.f
  split <;> simp [*] <;> omega
theorem doop_val (op a b : Int) : (∃ r, spec_DoOp.f op a b = some r) ∧ impl_DoOp.f op a b = spec_DoOp.f op a b := by
  have e1 : impl_isWord.f = spec_l1Word.f := rfl
  have e2 : ∀ x, impl_isOp.f x = spec_l1In.f x 1 10 := by
    intro x
    unfold impl_isOp.f impl_in.f spec_l1In.f
    split <;> rfl
  have e3 : ∃ z, spec_l1In.f op 1 10 = some z := by
    unfold spec_l1In.f
    split <;> exact ⟨_, rfl⟩
  obtain ⟨z, hz⟩ := e3
  unfold impl_DoOp.f spec_DoOp.f
  simp only [e1, e2, hz, word_val, Option.bind_some]
  by_cases hb : 0 ≤ b
  · obtain ⟨y, hy⟩ := do_some op a b hb
    simp only [do_same op a b hb, hy, Option.bind_some, and_true]
    repeat' split
    all_goals exact ⟨_, rfl⟩
  · have hf : ¬ (decide (0 ≤ b ∧ b ≤ 65535) = true) := by simp; omega
    simp only [if_neg hf, and_true]
    repeat' split
    all_goals exact ⟨_, rfl⟩

def pc_ : Nat → Nat → Nat
  | 0, _ => 0
  | k + 1, x => x % 2 + pc_ k (x / 2)
def c1_ (x : Nat) : Nat := (x / 2 &&& 6148914691236517205) + (x &&& 6148914691236517205)
def c2_ (x : Nat) : Nat := (x / 4 &&& 3689348814741910323) + (x &&& 3689348814741910323)
def c3_ (x : Nat) : Nat := (x / 16 + x) &&& 1085102592571150095
def c4_ (x : Nat) : Nat := x + x / 256
def c5_ (x : Nat) : Nat := x + x / 65536
def c6_ (x : Nat) : Nat := x + x / 4294967296
def cb_ (x : Nat) : Nat := c6_ (c5_ (c4_ (c3_ (c2_ (c1_ x))))) % 128
def all_ : Nat → Nat → Bool
  | 0, _ => true
  | n + 1, s => Nat.beq (cb_ (s + n)) (pc_ 16 (s + n)) && all_ n s
def alls_ : Nat → Nat → Bool
  | 0, _ => true
  | n + 1, s => all_ 256 (256 * n + s) && alls_ n s
theorem chunk_0 : alls_ 8 0 = true := by decide +kernel
theorem chunk_1 : alls_ 8 2048 = true := by decide +kernel
theorem chunk_2 : alls_ 8 4096 = true := by decide +kernel
theorem chunk_3 : alls_ 8 6144 = true := by decide +kernel
theorem chunk_4 : alls_ 8 8192 = true := by decide +kernel
theorem chunk_5 : alls_ 8 10240 = true := by decide +kernel
theorem chunk_6 : alls_ 8 12288 = true := by decide +kernel
theorem chunk_7 : alls_ 8 14336 = true := by decide +kernel
theorem chunk_8 : alls_ 8 16384 = true := by decide +kernel
theorem chunk_9 : alls_ 8 18432 = true := by decide +kernel
theorem chunk_10 : alls_ 8 20480 = true := by decide +kernel
theorem chunk_11 : alls_ 8 22528 = true := by decide +kernel
theorem chunk_12 : alls_ 8 24576 = true := by decide +kernel
theorem chunk_13 : alls_ 8 26624 = true := by decide +kernel
theorem chunk_14 : alls_ 8 28672 = true := by decide +kernel
theorem chunk_15 : alls_ 8 30720 = true := by decide +kernel
theorem chunk_16 : alls_ 8 32768 = true := by decide +kernel
theorem chunk_17 : alls_ 8 34816 = true := by decide +kernel
theorem chunk_18 : alls_ 8 36864 = true := by decide +kernel
theorem chunk_19 : alls_ 8 38912 = true := by decide +kernel
theorem chunk_20 : alls_ 8 40960 = true := by decide +kernel
theorem chunk_21 : alls_ 8 43008 = true := by decide +kernel
theorem chunk_22 : alls_ 8 45056 = true := by decide +kernel
theorem chunk_23 : alls_ 8 47104 = true := by decide +kernel
theorem chunk_24 : alls_ 8 49152 = true := by decide +kernel
theorem chunk_25 : alls_ 8 51200 = true := by decide +kernel
theorem chunk_26 : alls_ 8 53248 = true := by decide +kernel
theorem chunk_27 : alls_ 8 55296 = true := by decide +kernel
theorem chunk_28 : alls_ 8 57344 = true := by decide +kernel
theorem chunk_29 : alls_ 8 59392 = true := by decide +kernel
theorem chunk_30 : alls_ 8 61440 = true := by decide +kernel
theorem chunk_31 : alls_ 8 63488 = true := by decide +kernel
theorem chunk_all : ∀ i : Nat, i < 32 → alls_ 8 (2048 * i) = true
  | 0, _ => chunk_0
  | 1, _ => chunk_1
  | 2, _ => chunk_2
  | 3, _ => chunk_3
  | 4, _ => chunk_4
  | 5, _ => chunk_5
  | 6, _ => chunk_6
  | 7, _ => chunk_7
  | 8, _ => chunk_8
  | 9, _ => chunk_9
  | 10, _ => chunk_10
  | 11, _ => chunk_11
  | 12, _ => chunk_12
  | 13, _ => chunk_13
  | 14, _ => chunk_14
  | 15, _ => chunk_15
  | 16, _ => chunk_16
  | 17, _ => chunk_17
  | 18, _ => chunk_18
  | 19, _ => chunk_19
  | 20, _ => chunk_20
  | 21, _ => chunk_21
  | 22, _ => chunk_22
  | 23, _ => chunk_23
  | 24, _ => chunk_24
  | 25, _ => chunk_25
  | 26, _ => chunk_26
  | 27, _ => chunk_27
  | 28, _ => chunk_28
  | 29, _ => chunk_29
  | 30, _ => chunk_30
  | 31, _ => chunk_31
  | n + 32, h => absurd h (by omega)
theorem all_le {n s i : Nat} (h : all_ n s = true) (hi : i < n) : cb_ (s + i) = pc_ 16 (s + i) := by
  induction n with
  | zero => omega
  | succ n ih =>
    unfold all_ at h
    rw [Bool.and_eq_true] at h
    by_cases e : i = n
    · subst e
      exact Nat.eq_of_beq_eq_true h.1
    · exact ih h.2 (by omega)
theorem alls_le {n s j i : Nat} (h : alls_ n s = true) (hj : j < n) (hi : i < 256) : cb_ (256 * j + s + i) = pc_ 16 (256 * j + s + i) := by
  induction n with
  | zero => omega
  | succ n ih =>
    unfold alls_ at h
    rw [Bool.and_eq_true] at h
    by_cases e : j = n
    · subst e
      exact all_le h.1 hi
    · exact ih h.2 (by omega)
theorem cb_val (x : Nat) (h : x < 65536) : cb_ x = pc_ 16 x := by
  have := alls_le (n := 8) (s := 2048 * (x / 2048)) (j := x % 2048 / 256) (i := x % 256) (chunk_all (x / 2048) (by omega)) (by omega) (by omega)
  rw [show 256 * (x % 2048 / 256) + 2048 * (x / 2048) + x % 256 = x by omega] at this
  exact this
def i1_ (a : Int) : Int := IntKind.u64.wrap (Go.bits .and .u64 (a / 2) 6148914691236517205 + Go.bits .and .u64 a 6148914691236517205)
def i2_ (a : Int) : Int := IntKind.u64.wrap (Go.bits .and .u64 (a / 4) 3689348814741910323 + Go.bits .and .u64 a 3689348814741910323)
def i3_ (a : Int) : Int := Go.bits .and .u64 (IntKind.u64.wrap (a / 16 + a)) 1085102592571150095
def i4_ (a : Int) : Int := IntKind.u64.wrap (a + a / 256)
def i5_ (a : Int) : Int := IntKind.u64.wrap (a + a / 65536)
def i6_ (a : Int) : Int := IntKind.u64.wrap (a + a / 4294967296)
theorem ones_def (a : Int) : bits_OnesCount64.f a = some (Go.bits .and .i64 (wrap64 (i6_ (i5_ (i4_ (i3_ (i2_ (i1_ a))))))) 127) := rfl
theorem wrap_nat (n : Nat) (h : n < 18446744073709551616) : IntKind.u64.wrap (n : Int) = (n : Int) := by
  rw [show IntKind.u64.wrap (n : Int) = (n : Int) % 18446744073709551616 by simp [IntKind.wrap, IntKind.bits, IntKind.signed]]
  omega
theorem i1_val (x : Nat) (h : x < 18446744073709551616) : i1_ (x : Int) = (c1_ x : Int) ∧ c1_ x < 18446744073709551616 := by
  have b1 : x / 2 &&& 6148914691236517205 ≤ 6148914691236517205 := Nat.and_le_right
  have b2 : x &&& 6148914691236517205 ≤ 6148914691236517205 := Nat.and_le_right
  have e1 := bits_and_u64_nat (x / 2) 6148914691236517205 (by omega) (by omega)
  have e2 := bits_and_u64_nat x 6148914691236517205 (by omega) (by omega)
  rw [Int.natCast_ediv] at e1
  unfold i1_ c1_
  refine ⟨?_, by omega⟩
  have e3 : Go.bits .and .u64 ((x : Int) / 2) 6148914691236517205 = ((x / 2 &&& 6148914691236517205 : Nat) : Int) := e1
  have e4 : Go.bits .and .u64 (x : Int) 6148914691236517205 = ((x &&& 6148914691236517205 : Nat) : Int) := e2
  rw [e3, e4, ← Int.natCast_add, wrap_nat _ (by omega)]
theorem i2_val (x : Nat) (h : x < 18446744073709551616) : i2_ (x : Int) = (c2_ x : Int) ∧ c2_ x < 18446744073709551616 / 2 := by
  have b1 : x / 4 &&& 3689348814741910323 ≤ 3689348814741910323 := Nat.and_le_right
  have b2 : x &&& 3689348814741910323 ≤ 3689348814741910323 := Nat.and_le_right
  have e1 := bits_and_u64_nat (x / 4) 3689348814741910323 (by omega) (by omega)
  have e2 := bits_and_u64_nat x 3689348814741910323 (by omega) (by omega)
  rw [Int.natCast_ediv] at e1
  unfold i2_ c2_
  refine ⟨?_, by omega⟩
  have e3 : Go.bits .and .u64 ((x : Int) / 4) 3689348814741910323 = ((x / 4 &&& 3689348814741910323 : Nat) : Int) := e1
  have e4 : Go.bits .and .u64 (x : Int) 3689348814741910323 = ((x &&& 3689348814741910323 : Nat) : Int) := e2
  rw [e3, e4, ← Int.natCast_add, wrap_nat _ (by omega)]
theorem i3_val (x : Nat) (h : x < 18446744073709551616 / 2) : i3_ (x : Int) = (c3_ x : Int) ∧ c3_ x ≤ 1085102592571150095 := by
  have b1 : x / 16 + x &&& 1085102592571150095 ≤ 1085102592571150095 := Nat.and_le_right
  have e1 := bits_and_u64_nat (x / 16 + x) 1085102592571150095 (by omega) (by omega)
  unfold i3_ c3_
  refine ⟨?_, b1⟩
  rw [show (x : Int) / 16 + (x : Int) = ((x / 16 + x : Nat) : Int) by omega, wrap_nat _ (by omega)]
  exact e1
theorem i456_val (x : Nat) (h : x ≤ 1085102592571150095) : i6_ (i5_ (i4_ (x : Int))) = (c6_ (c5_ (c4_ x)) : Int) ∧ c6_ (c5_ (c4_ x)) < 9223372036854775808 := by
  have e4 : i4_ (x : Int) = (c4_ x : Int) := by
    unfold i4_ c4_
    rw [show (x : Int) + (x : Int) / 256 = ((x + x / 256 : Nat) : Int) by omega, wrap_nat _ (by omega)]
  have b4 : c4_ x ≤ 2 * 1085102592571150095 := by unfold c4_; omega
  generalize c4_ x = y at *
  have e5 : i5_ (y : Int) = (c5_ y : Int) := by
    unfold i5_ c5_
    rw [show (y : Int) + (y : Int) / 65536 = ((y + y / 65536 : Nat) : Int) by omega, wrap_nat _ (by omega)]
  have b5 : c5_ y ≤ 3 * 1085102592571150095 := by unfold c5_; omega
  rw [e4, e5]
  generalize c5_ y = z at *
  unfold i6_ c6_
  rw [show (z : Int) + (z : Int) / 4294967296 = ((z + z / 4294967296 : Nat) : Int) by omega, wrap_nat _ (by omega)]
  exact ⟨rfl, by omega⟩
theorem ones_val (x : Nat) (h : x < 65536) : bits_OnesCount.f (x : Int) = some ((pc_ 16 x : Nat) : Int) := by
  have h1 := i1_val x (by omega)
  have h2 := i2_val (c1_ x) h1.2
  have h3 := i3_val (c2_ (c1_ x)) h2.2
  have h4 := i456_val (c3_ (c2_ (c1_ x))) h3.2
  unfold bits_OnesCount.f
  rw [ones_def, h1.1, h2.1, h3.1, h4.1, i64_and127, w64 (by omega) (by omega), Option.bind_some, ← cb_val x h]
  congr 1
theorem pc_zero : ∀ k, pc_ k 0 = 0 := by
  intro k
  induction k with
  | zero => rfl
  | succ k ih => unfold pc_; simpa using ih
theorem l0_val (k : Nat) : ∀ (x n : Nat), x < 2 ^ k → x < 65536 → n + k < 1000 → spec_CountBits.l0 (k + 1) (x : Int) (n : Int) = some (((n + pc_ k x : Nat) : Int), true) := by
  induction k with
  | zero =>
    intro x n h _ _
    have : x = 0 := by omega
    subst this
    unfold spec_CountBits.l0
    rw [if_neg (by omega)]
    simp [pc_]
  | succ k ih =>
    intro x n h hx hn
    have hp : (2 : Nat) ^ (k + 1) = 2 * 2 ^ k := by rw [Nat.pow_succ]; omega
    unfold spec_CountBits.l0
    by_cases c : x = 0
    · subst c
      rw [if_neg (by omega), pc_zero]
      simp
    · rw [if_pos (by omega)]
      rw [show Int.tdiv (x : Int) 2 = ((x / 2 : Nat) : Int) by rw [Int.tdiv_eq_ediv_of_nonneg (by omega)]; omega, show Int.tmod (x : Int) 2 = ((x % 2 : Nat) : Int) by rw [Int.tmod_eq_emod_of_nonneg (by omega)]; omega, ← Int.natCast_add, w64 (by omega) (by omega), w64 (by omega) (by omega), ih (x / 2) (n + x % 2) (by omega) (by omega) (by omega)]
      rw [show pc_ (k + 1) x = x % 2 + pc_ k (x / 2) from rfl, show n + x % 2 + pc_ k (x / 2) = n + (x % 2 + pc_ k (x / 2)) by omega]

theorem u16 (x : Nat) (h : x < 65536) : (BitVec.ofInt 64 (x : Int)).toNat = x := by
  rw [BitVec.toNat_ofInt]
  omega
theorem wrap_i (x : Nat) (h : x < 65536) : IntKind.i64.wrap (x : Int) = (x : Int) := by
  rw [IntKind.wrap_i64]
  omega
theorem bit_and (x y : Nat) (hx : x < 65536) (hy : y < 65536) : Go.bits .and .i64 (x : Int) (y : Int) = ((x &&& y : Nat) : Int) ∧ x &&& y < 65536 := by
  have h : x &&& y < 2 ^ 16 := Nat.and_lt_two_pow x (by omega)
  refine ⟨?_, by omega⟩
  show IntKind.i64.wrap (((BitVec.ofInt 64 (x : Int)) &&& (BitVec.ofInt 64 (y : Int))).toNat : Int) = _
  rw [BitVec.toNat_and, u16 x hx, u16 y hy, wrap_i _ (by omega)]
theorem bit_or (x y : Nat) (hx : x < 65536) (hy : y < 65536) : Go.bits .or .i64 (x : Int) (y : Int) = ((x ||| y : Nat) : Int) ∧ x ||| y < 65536 := by
  have h : x ||| y < 2 ^ 16 := Nat.or_lt_two_pow (by omega) (by omega)
  refine ⟨?_, by omega⟩
  show IntKind.i64.wrap (((BitVec.ofInt 64 (x : Int)) ||| (BitVec.ofInt 64 (y : Int))).toNat : Int) = _
  rw [BitVec.toNat_or, u16 x hx, u16 y hy, wrap_i _ (by omega)]
theorem bit_xor (x y : Nat) (hx : x < 65536) (hy : y < 65536) : Go.bits .xor .i64 (x : Int) (y : Int) = ((x ^^^ y : Nat) : Int) ∧ x ^^^ y < 65536 := by
  have h : x ^^^ y < 2 ^ 16 := Nat.xor_lt_two_pow (by omega) (by omega)
  refine ⟨?_, by omega⟩
  show IntKind.i64.wrap (((BitVec.ofInt 64 (x : Int)) ^^^ (BitVec.ofInt 64 (y : Int))).toNat : Int) = _
  rw [BitVec.toNat_xor, u16 x hx, u16 y hy, wrap_i _ (by omega)]
theorem low_bits (x y : Nat) : (x &&& y) % 2 + (x ||| y) % 2 = x % 2 + y % 2 := by
  have h1 := @Nat.and_mod_two_eq_one x y
  have h2 := @Nat.or_mod_two_eq_one x y
  omega
theorem and_or_sum : ∀ (k x y : Nat), x < 2 ^ k → y < 2 ^ k → (x &&& y) + (x ||| y) = x + y
  | 0, x, y, hx, hy => by
    obtain rfl : x = 0 := by omega
    obtain rfl : y = 0 := by omega
    rfl
  | k + 1, x, y, hx, hy => by
    have h := and_or_sum k (x / 2) (y / 2) (by rw [Nat.pow_succ] at hx; omega) (by rw [Nat.pow_succ] at hy; omega)
    rw [← Nat.and_div_two, ← Nat.or_div_two] at h
    have := low_bits x y
    omega
theorem pc_sum : ∀ (k x y : Nat), pc_ k (x &&& y) + pc_ k (x ||| y) = pc_ k x + pc_ k y
  | 0, x, y => rfl
  | k + 1, x, y => by
    unfold pc_
    have h := pc_sum k (x / 2) (y / 2)
    rw [← Nat.and_div_two, ← Nat.or_div_two] at h
    have := low_bits x y
    omega
theorem pc_le : ∀ (k x : Nat), pc_ k x ≤ k
  | 0, x => Nat.le_refl _
  | k + 1, x => by
    unfold pc_
    have := pc_le k (x / 2)
    omega
theorem wN (x : Nat) (h : x < 65536) : wB (x : Int) = true := wB_iff.2 (by omega)
theorem doop_w (op : Int) (x y : Nat) (ho : impl_isOp.f op = some true) (hx : x < 65536) (hy : y < 65536) (r : Int) (h : impl_do.f op x y = some r) : impl_DoOp.f op x y = some (r, true) := by
  unfold impl_DoOp.f
  rw [ho]
  simp only [Option.bind_some, if_true]
  rw [implWordB_val, wN x hx]
  simp only [Option.bind_some, if_true]
  rw [implWordB_val, wN y hy]
  simp only [Option.bind_some, if_true]
  rw [h]
  rfl
theorem isOp_ (op : Int) (h0 : 1 ≤ op) (h1 : op ≤ 10) : impl_isOp.f op = some true := by
  unfold impl_isOp.f impl_in.f
  rw [if_pos h0, decide_eq_true h1]
  rfl
theorem do1 (x y : Nat) (hx : x < 65536) (hy : y < 65536) : impl_DoOp.f 1 x y = some ((((x + y) % 65536 : Nat) : Int), true) := doop_w 1 x y (isOp_ 1 (by omega) (by omega)) hx hy _ (by
  unfold impl_do.f impl_WordOf.f
  rw [if_pos rfl, w64 (by omega) (by omega), and65535 (by omega)]
  simp)
theorem do2 (x y : Nat) (hx : x < 65536) (hy : y < 65536) : impl_DoOp.f 2 x y = some ((((x : Int) - y) % 65536), true) := doop_w 2 x y (isOp_ 2 (by omega) (by omega)) hx hy _ (by
  unfold impl_do.f impl_WordOf.f
  rw [if_neg (by omega), if_pos rfl, w64 (by omega) (by omega), and65535 (by omega)]
  rfl)
theorem do3 (x y : Nat) (hx : x < 65536) (hy : y < 65536) : impl_DoOp.f 3 x y = some ((((x * y) % 65536 : Nat) : Int), true) := doop_w 3 x y (isOp_ 3 (by omega) (by omega)) hx hy _ (by
  have hm : x * y ≤ 65535 * 65535 := Nat.mul_le_mul (by omega) (by omega)
  unfold impl_do.f impl_WordOf.f
  rw [if_neg (by omega), if_neg (by omega), if_pos rfl, show (x : Int) * (y : Int) = ((x * y : Nat) : Int) by simp, w64 (by omega) (by omega), and65535 (by omega)]
  simp)
theorem do4 (x y : Nat) (hx : x < 65536) (hy : y < 65536) : impl_DoOp.f 4 x y = some (((x / y : Nat) : Int), true) := doop_w 4 x y (isOp_ 4 (by omega) (by omega)) hx hy _ (by
  unfold impl_do.f
  rw [if_neg (by omega), if_neg (by omega), if_neg (by omega), if_pos rfl]
  by_cases h : y = 0
  · subst h
    rw [if_pos (by omega), Nat.div_zero]
    rfl
  · have h2 := Nat.div_le_self x y
    rw [if_neg (by omega), Int.tdiv_eq_ediv_of_nonneg (by omega), ← Int.natCast_ediv]
    generalize x / y = q at *
    rw [w64 (by omega) (by omega)])
theorem do5 (x y : Nat) (hx : x < 65536) (hy : y < 65536) : impl_DoOp.f 5 x y = some (((x % y : Nat) : Int), true) := doop_w 5 x y (isOp_ 5 (by omega) (by omega)) hx hy _ (by
  unfold impl_do.f
  rw [if_neg (by omega), if_neg (by omega), if_neg (by omega), if_neg (by omega), if_pos rfl]
  by_cases h : y = 0
  · subst h
    simp
  · rw [if_neg (by omega), Int.tmod_eq_emod_of_nonneg (by omega), ← Int.natCast_emod])
theorem do6 (x y : Nat) (hx : x < 65536) (hy : y < 65536) : impl_DoOp.f 6 x y = some (((x &&& y : Nat) : Int), true) := doop_w 6 x y (isOp_ 6 (by omega) (by omega)) hx hy _ (by
  unfold impl_do.f
  rw [if_neg (by omega), if_neg (by omega), if_neg (by omega), if_neg (by omega), if_neg (by omega), if_pos rfl, (bit_and x y hx hy).1])
theorem do7 (x y : Nat) (hx : x < 65536) (hy : y < 65536) : impl_DoOp.f 7 x y = some (((x ||| y : Nat) : Int), true) := doop_w 7 x y (isOp_ 7 (by omega) (by omega)) hx hy _ (by
  unfold impl_do.f
  rw [if_neg (by omega), if_neg (by omega), if_neg (by omega), if_neg (by omega), if_neg (by omega), if_neg (by omega), if_pos rfl, (bit_or x y hx hy).1])
theorem do8 (x y : Nat) (hx : x < 65536) (hy : y < 65536) : impl_DoOp.f 8 x y = some (((x ^^^ y : Nat) : Int), true) := doop_w 8 x y (isOp_ 8 (by omega) (by omega)) hx hy _ (by
  unfold impl_do.f
  rw [if_neg (by omega), if_neg (by omega), if_neg (by omega), if_neg (by omega), if_neg (by omega), if_neg (by omega), if_neg (by omega), if_pos rfl, (bit_xor x y hx hy).1])
theorem implCount_n (x : Nat) (h : x < 65536) : impl_CountBits.f x = some (((pc_ 16 x : Nat) : Int), true) := by
  unfold impl_CountBits.f
  rw [implWordB_val, wN x h]
  simp only [Option.bind_some, if_true]
  rw [wrap_nat x (by omega), ones_val x h]
  rfl
theorem specCount_n (x : Nat) (h : x < 65536) : spec_CountBits.f 17 x = some (((pc_ 16 x : Nat) : Int), true) := by
  unfold spec_CountBits.f
  rw [specWordB_val, wN x h]
  simp only [Option.bind_some, if_true]
  have hc := l0_val 16 x 0 (by omega) (by omega) (by omega)
  simpa using hc
theorem swap_n (x : Nat) (h : x < 65536) : impl_SwapBytes.f x = some (((x % 256 * 256 + x / 256 : Nat) : Int), true) := by
  unfold impl_SwapBytes.f
  rw [implWordB_val, wN x h]
  simp only [Option.bind_some, if_true]
  rw [Int.tmod_eq_emod_of_nonneg (by omega), Int.tdiv_eq_ediv_of_nonneg (by omega), w64 (x := (x : Int) % 256 * 256) (by omega) (by omega), w64 (x := (x : Int) / 256) (by omega) (by omega), w64 (by omega) (by omega)]
  simp
theorem wNot {w : Int} (h : wB w = false) : impl_SwapBytes.f w = some (0, false) ∧ spec_SwapBytes.f w = some (0, false) ∧ impl_CountBits.f w = some (0, false) ∧ ∀ k, spec_CountBits.f k w = some (0, false) := by
  unfold impl_SwapBytes.f spec_SwapBytes.f impl_CountBits.f
  refine ⟨?_, ?_, ?_, fun k => ?_⟩
  · rw [implWordB_val, h]
    rfl
  · rw [specWordB_val, h]
    rfl
  · rw [implWordB_val, h]
    rfl
  · unfold spec_CountBits.f
    rw [specWordB_val, h]
    rfl
theorem drawSwap_ok {c : List Int} (hc : U8 c) : ∃ r, spec_DrawSwapBytes.f c = some r := by
  obtain ⟨r, p, s, e, _, _, h0, h1⟩ := rawWord_ok hc 0 (p := 0) (by omega) (by omega)
  unfold spec_DrawSwapBytes.f spec_DrawSignedOf.f
  rw [e]
  exact ⟨r, rfl⟩
theorem drawWordOf_ok {c : List Int} (hc : U8 c) : ∃ r, spec_DrawWordOf.f c = some r ∧ -9223372036854775808 ≤ r ∧ r ≤ 9223372036854775807 := by
  obtain ⟨r, p, s, e, a1, b1, h0, h1⟩ := word_ok hc 0 (p := 0) (by omega) (by omega)
  obtain ⟨q, p2, s2, e2, _, _, hm⟩ := among_ok hc s [(-65537), (-65536), (-1), 0, 65535, 65536, 1099511627776, (-1099511627776), r] (p := p) (by simp) (by omega) (by omega)
  unfold spec_DrawWordOf.f
  rw [e]
  simp only [Option.bind_some]
  rw [e2]
  simp only [List.mem_cons, List.not_mem_nil, or_false] at hm
  exact ⟨q, rfl, by omega, by omega⟩
theorem drawDo_ok {c : List Int} (hc : U8 c) : ∃ r, spec_DrawDoOp.f c = some r := by
  obtain ⟨r1, p1, s1, e1, a1, b1, _⟩ := pick_ok hc 0 10 (p := 0) (by omega) (by omega)
  obtain ⟨r2, p2, s2, e2, a2, b2, _⟩ := pick_ok hc s1 20 (p := p1) (by omega) (by omega)
  obtain ⟨r3, p3, s3, e3, a3, b3, _⟩ := rawWord_ok hc s2 (p := p2) (by omega) (by omega)
  obtain ⟨r4, p4, s4, e4, a4, b4, _⟩ := rawWord_ok hc s3 (p := p3) (by omega) (by omega)
  unfold spec_DrawDoOp.f
  rw [e1]
  simp only [Option.bind_some]
  rw [e2]
  simp only [Option.bind_some]
  rw [e3]
  simp only [Option.bind_some]
  rw [e4]
  exact ⟨_, rfl⟩
theorem word_facts (x y : Nat) (hx : x < 65536) (hy : y < 65536) : ((((x + y) % 65536 : Nat) : Int) - (y : Int)) % 65536 = (x : Int) ∧ wrap64 (((x / y * y % 65536 : Nat) : Int) + ((x % y : Nat) : Int)) = (x : Int) ∧ x / y < 65536 := by
  have h1 := Nat.div_le_self x y
  have h2 := Nat.div_add_mod x y
  have h3 : x / y * y ≤ x := Nat.div_mul_le_self x y
  have h4 : y * (x / y) = x / y * y := Nat.mul_comm _ _
  rw [h4] at h2
  refine ⟨by omega, ?_, by omega⟩
  generalize x / y * y = m at *
  generalize x % y = r at *
  rw [w64 (by omega) (by omega)]
  omega
theorem bit_sums (x y : Nat) (hx : x < 65536) (hy : y < 65536) : wrap64 (((x &&& y : Nat) : Int) + ((x ||| y : Nat) : Int)) = wrap64 ((x : Int) + (y : Int)) ∧ wrap64 (((pc_ 16 (x &&& y) : Nat) : Int) + ((pc_ 16 (x ||| y) : Nat) : Int)) = wrap64 (((pc_ 16 x : Nat) : Int) + ((pc_ 16 y : Nat) : Int)) := by
  have h1 := and_or_sum 16 x y hx hy
  have h2 := pc_sum 16 x y
  rw [← Int.natCast_add, h1, ← Int.natCast_add, ← Int.natCast_add, h2, ← Int.natCast_add]
  exact ⟨rfl, rfl⟩
theorem count_four (x y : Nat) (hx : x < 65536) (hy : y < 65536) : ∃ n1 : Int, impl_CountBits.f ((x &&& y : Nat) : Int) = some (n1, true) ∧ ∃ n2 : Int, impl_CountBits.f ((x ||| y : Nat) : Int) = some (n2, true) ∧ ∃ n3 : Int, impl_CountBits.f (x : Int) = some (n3, true) ∧ ∃ n4 : Int, impl_CountBits.f (y : Int) = some (n4, true) ∧ wrap64 (n1 + n2) = wrap64 (n3 + n4) :=
  ⟨_, implCount_n _ (bit_and x y hx hy).2, _, implCount_n _ (bit_or x y hx hy).2, _, implCount_n x hx, _, implCount_n y hy, (bit_sums x y hx hy).2⟩
theorem bnd_ {α β : Type} {o : Option α} {a : α} {f : α → Option β} {r : Option β} (h : o = some a) (h2 : f a = r) : o.bind f = r := by
  rw [h]
  exact h2

theorem FnWords : laws_FnWords.Pure := by
  intro c d hc0 hc1 hc2 hd0 hd1 hd2
  obtain ⟨k, hk⟩ : ∃ k : Nat, k = 17 := ⟨_, rfl⟩
  have hcs : ∀ x : Nat, x < 65536 → spec_CountBits.f k x = some (((pc_ 16 x : Nat) : Int), true) := fun x hx => by rw [hk]; exact specCount_n x hx
  clear hk
  refine ⟨k, ?_⟩
  have hc := u8_of hc2
  have hd := u8_of hd2
  unfold laws_FnWords.f
  by_cases hbig : wrap64 ((c.length : Int) + (d.length : Int)) > 1048576
  · rw [if_pos hbig]
  · rw [if_neg hbig]
    obtain ⟨⟨op, a, b⟩, hdraw⟩ := drawDo_ok hc
    obtain ⟨⟨r, hr⟩, hsame⟩ := doop_val op a b
    obtain ⟨w, hw⟩ := drawSwap_ok hd
    obtain ⟨q, hq, hq0, hq1⟩ := drawWordOf_ok hd
    have hlast : ((spec_DrawWordOf.f d).bind fun t266 => ((impl_WordOf.f t266).bind fun t267 => ((spec_WordOf.f t266).bind fun t268 => (some (t267 == t268))))) = some true := by
      rw [hq]
      simp only [Option.bind_some, impl_WordOf.f, spec_WordOf.f, spec_l1Wrap.f]
      rw [lwrap_val, and65535 ⟨hq0, hq1⟩]
      simp
    have hfin : ((spec_DrawSwapBytes.f d).bind fun t252 => ((impl_SwapBytes.f t252).bind fun bt253 => ((spec_SwapBytes.f t252).bind fun bt255 => ((impl_CountBits.f t252).bind fun bt257 => ((spec_CountBits.f k t252).bind fun bt259 => (if (bt253.2 != bt255.2) = true then (none) else (if bt253.1 = bt255.1 then (if (bt257.2 != bt259.2) = true then (none) else (if bt257.1 = bt259.1 then (if bt253.2 = true then ((impl_SwapBytes.f bt253.1).bind fun bt261 => (if bt261.2 = true then (if bt261.1 = t252 then ((spec_DrawWordOf.f d).bind fun t263 => ((impl_WordOf.f t263).bind fun t264 => ((spec_WordOf.f t263).bind fun t265 => (some (t264 == t265))))) else (none)) else (none))) else ((spec_DrawWordOf.f d).bind fun t266 => ((impl_WordOf.f t266).bind fun t267 => ((spec_WordOf.f t266).bind fun t268 => (some (t267 == t268)))))) else (none))) else (none)))))))) = some true := by
      rw [hw]
      simp only [Option.bind_some]
      cases hb : wB w with
      | false =>
        obtain ⟨h1, h2, h3, h4⟩ := wNot hb
        rw [h1, h2, h3, h4]
        simp only [Option.bind_some, bne_self_eq_false, Bool.false_eq_true, if_false, if_true]
        exact hlast
      | true =>
        obtain ⟨x, rfl⟩ : ∃ x : Nat, w = x := ⟨w.toNat, by have := wB_iff.1 hb; omega⟩
        have hx : x < 65536 := by have := wB_iff.1 hb; omega
        have h2 : spec_SwapBytes.f (x : Int) = some (((x % 256 * 256 + x / 256 : Nat) : Int), true) := swap_n x hx
        rw [swap_n x hx, h2, implCount_n x hx, hcs x hx]
        simp only [Option.bind_some, bne_self_eq_false, Bool.false_eq_true, if_false, if_true]
        rw [swap_n _ (by omega)]
        simp only [Option.bind_some, if_true]
        rw [if_pos (by omega)]
        exact hlast
    rw [hdraw]
    simp only [Option.bind_some]
    rw [hsame, hr]
    simp only [Option.bind_some, bne_self_eq_false, Bool.false_eq_true, if_false, if_true]
    by_cases hrt : r.2 = true
    · rw [if_pos hrt]
      have hab : wB a = true ∧ wB b = true := by
        rw [← hsame] at hr
        unfold impl_DoOp.f at hr
        cases ho : impl_isOp.f op with
        | none => rw [ho] at hr; cases hr
        | some o =>
          rw [ho] at hr
          simp only [Option.bind_some] at hr
          rw [implWordB_val, implWordB_val] at hr
          simp only [Option.bind_some] at hr
          revert hr
          cases o <;> cases wB a <;> cases wB b <;> simp <;> (rintro rfl; cases hrt)
      obtain ⟨ha, hb⟩ := hab
      obtain ⟨x, rfl⟩ : ∃ x : Nat, a = x := ⟨a.toNat, by have := wB_iff.1 ha; omega⟩
      obtain ⟨y, rfl⟩ : ∃ y : Nat, b = y := ⟨b.toNat, by have := wB_iff.1 hb; omega⟩
      have hx : x < 65536 := by have := wB_iff.1 ha; omega
      have hy : y < 65536 := by have := wB_iff.1 hb; omega
      obtain ⟨hsub, hdm, hdml⟩ := word_facts x y hx hy
      have hand := bit_and x y hx hy
      have hor := bit_or x y hx hy
      have hxor := bit_xor x y hx hy
      have hs1 := (bit_sums x y hx hy).1
      have hxx : (((x ^^^ y) ^^^ y : Nat) : Int) = (x : Int) := by rw [Nat.xor_assoc, Nat.xor_self, Nat.xor_zero]
      rw [do1 x y hx hy]
      simp only [Option.bind_some, if_true]
      rw [do2 _ y (Nat.mod_lt _ (by decide)) hy, do4 x y hx hy]
      simp only [Option.bind_some, if_true]
      rw [do3 _ y hdml hy, do5 x y hx hy, do8 x y hx hy]
      simp only [Option.bind_some, if_true]
      rw [do8 _ y hxor.2 hy]
      simp only [Option.bind_some, if_true]
      rw [hsub, if_pos rfl, hdm, if_pos rfl, hxx, if_pos rfl]
      rw [do6 x y hx hy, do7 x y hx hy]
      simp only [Option.bind_some, if_true]
      obtain ⟨n1, c1, n2, c2, n3, c3, n4, c4, hs2⟩ := count_four x y hx hy
      refine bnd_ c1 (bnd_ c2 (bnd_ c3 (bnd_ c4 ?_)))
      refine (if_pos rfl).trans ((if_pos rfl).trans ((if_pos rfl).trans ((if_pos rfl).trans ((if_pos hs1).trans ((if_pos hs2).trans ?_)))))
      exact hfin
    · rw [if_neg hrt]
      exact hfin

end Go.Proofs.Ytpkbjgmeejlchaa.Pure
