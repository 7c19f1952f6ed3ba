/- The pure statement of the law FnSigns: the printed functions of the program and of the reference give the same answers, at every input that the statement's guards let in. -/
import Derived.Test.YtpkbjgmeejlchaaPFnSignsx2
namespace Go.Proofs.Ytpkbjgmeejlchaa.Pure
open Go.RowKit Go.Proofs.Ytpkbjgmeejlchaa.PFnSigns Go.Proofs.YtpkbjgmeejlchaaW.PrintWords Go.Proofs.YtpkbjgmeejlchaaW.PrintLast Go.Proofs.YtpkbjgmeejlchaaW.PrintMore
set_option linter.unusedSimpArgs false
set_option linter.unusedVariables false
theorem w64 {x : Int} (h0 : -9223372036854775808 ≤ x) (h1 : x ≤ 9223372036854775807) : wrap64 x = x := by
  unfold wrap64
  omega
theorem l64 {a : Int} (h : (Lit.int .i64 a).wf = true) : -9223372036854775808 ≤ a ∧ a ≤ 9223372036854775807 := by
  simp only [Lit.wf, IntKind.min, IntKind.max, IntKind.signed, IntKind.bits, Bool.and_eq_true, decide_eq_true_eq, if_true] at h
  omega
theorem rd_nat (l : List Int) (i : Nat) (h : i < l.length) : rd l (i : Int) = l[i] := by
  unfold rd
  rw [List.getD_eq_getElem?_getD, show ((i : Int).toNat) = i by omega, List.getElem?_eq_getElem h]
  rfl
theorem next64 {i : Nat} (h : i ≤ 4611686018427387904) : wrap64 ((i : Int) + 1) = ((i + 1 : Nat) : Int) := by
  rw [w64 (by omega) (by omega)]
  omega

def U8 (c : List Int) : Prop := ∀ x ∈ c, 0 ≤ x ∧ x ≤ 255
theorem u8_of {c : List Int} (h : ∀ x ∈ c, (Lit.int .u8 x).wf = true) : U8 c := fun x hx => by
  have := h x hx
  simp [Lit.wf, IntKind.min, IntKind.max, IntKind.signed, IntKind.bits] at this
  omega
theorem u64_range (x : Int) : 0 ≤ IntKind.u64.wrap x ∧ IntKind.u64.wrap x < 18446744073709551616 := by
  rw [show IntKind.u64.wrap x = x % 18446744073709551616 by simp [IntKind.wrap, IntKind.bits, IntKind.signed]]
  omega
theorem and255 {x : Int} (h0 : 0 ≤ x) (h1 : x < 18446744073709551616) : 0 ≤ Go.bits .and .u64 x 255 ∧ Go.bits .and .u64 x 255 ≤ 255 := by
  obtain ⟨n, rfl⟩ : ∃ n : Nat, x = n := ⟨x.toNat, by omega⟩
  have e : Go.bits .and .u64 (n : Int) 255 = ((n &&& 255 : Nat) : Int) := bits_and_u64_nat n 255 (by omega) (by omega)
  have : n &&& 255 ≤ 255 := Nat.and_le_right
  rw [e]
  omega
theorem next_ok {c : List Int} (hc : U8 c) {p : Int} (s : Int) (h0 : 0 ≤ p) (h1 : p ≤ 1000000000000) : ∃ b s', spec_l1Cur_next.f c p s = some (b, p + 1, s') ∧ 0 ≤ b ∧ b ≤ 255 := by
  unfold spec_l1Cur_next.f
  rw [w64 (x := p + 1) (by omega) (by omega)]
  by_cases h : p < (c.length : Int)
  · have hb : 0 ≤ rd c p ∧ rd c p ≤ 255 := by
      obtain ⟨i, rfl⟩ : ∃ i : Nat, p = i := ⟨p.toNat, by omega⟩
      rw [rd_nat c i (by omega)]
      exact hc _ (List.getElem_mem _)
    rw [if_pos h, if_pos h0, if_pos (by omega), w64 (x := rd c p) (by omega) (by omega)]
    exact ⟨_, _, rfl, hb.1, hb.2⟩
  · rw [if_neg h, if_neg (by omega)]
    have hr := u64_range (IntKind.u64.wrap (IntKind.u64.wrap (s * 6364136223846793005) + 0) + 1442695040888963407)
    have hb := and255 (x := IntKind.u64.wrap (IntKind.u64.wrap (IntKind.u64.wrap (s * 6364136223846793005) + 0) + 1442695040888963407) / 1099511627776) (by omega) (by omega)
    rw [w64 (x := Go.bits .and .u64 _ 255) (by omega) (by omega)]
    exact ⟨_, _, rfl, hb.1, hb.2⟩
theorem pick_ok {c : List Int} (hc : U8 c) {p : Int} (s : Int) (n : Int) (h0 : 0 ≤ p) (h1 : p ≤ 999999999000) : ∃ r p' s', spec_l1Cur_pick.f c p s n = some (r, p', s') ∧ p ≤ p' ∧ p' ≤ p + 2 ∧ 0 ≤ r ∧ (1 ≤ n → r < n) ∧ (n ≤ 1 → r = 0) := by
  unfold spec_l1Cur_pick.f
  by_cases h : n ≤ 1
  · rw [if_pos h]
    exact ⟨0, p, s, rfl, by omega, by omega, by omega, by omega, by omega⟩
  · rw [if_neg h]
    obtain ⟨b, s1, e1, b0, b1⟩ := next_ok hc s h0 (by omega)
    rw [e1]
    simp only [Option.bind_some]
    have ht : ∀ x : Int, 0 ≤ x → 0 ≤ Int.tmod x n ∧ Int.tmod x n < n := fun x hx => by
      rw [Int.tmod_eq_emod_of_nonneg hx]
      exact ⟨Int.emod_nonneg _ (by omega), Int.emod_lt_of_pos _ (by omega)⟩
    by_cases h2 : n > 200
    · rw [if_pos h2]
      obtain ⟨d, s2, e2, d0, d1⟩ := next_ok hc s1 (p := p + 1) (by omega) (by omega)
      rw [e2]
      simp only [Option.bind_some]
      rw [if_neg (by omega), w64 (x := b * 256) (by omega) (by omega), w64 (by omega) (by omega)]
      obtain ⟨a1, a2⟩ := ht (b * 256 + d) (by omega)
      exact ⟨_, _, _, rfl, by omega, by omega, a1, fun _ => a2, by omega⟩
    · rw [if_neg h2, if_neg (by omega)]
      obtain ⟨a1, a2⟩ := ht b b0
      exact ⟨_, _, _, rfl, by omega, by omega, a1, fun _ => a2, by omega⟩
theorem among_ok {c : List Int} (hc : U8 c) {p : Int} (s : Int) (l : List Int) (hl : 0 < l.length) (h0 : 0 ≤ p) (h1 : p ≤ 999999999000) : ∃ r p' s', spec_l1Cur_among.f c p s l = some (r, p', s') ∧ p ≤ p' ∧ p' ≤ p + 2 ∧ r ∈ l := by
  unfold spec_l1Cur_among.f
  obtain ⟨r, p', s', e, a, b, r0, r1, _⟩ := pick_ok hc s (l.length : Int) h0 h1
  have hr := r1 (by omega)
  rw [e]
  simp only [Option.bind_some]
  rw [if_pos r0, if_pos hr]
  obtain ⟨i, rfl⟩ : ∃ i : Nat, r = i := ⟨r.toNat, by omega⟩
  rw [rd_nat l i (by omega)]
  exact ⟨_, _, _, rfl, a, b, List.getElem_mem _⟩
theorem one_ok {c : List Int} (hc : U8 c) {p : Int} (s : Int) (n : Int) (h0 : 0 ≤ p) (h1 : p ≤ 999999999000) : ∃ r p' s', spec_l1Cur_one.f c p s n = some (r, p', s') ∧ p ≤ p' ∧ p' ≤ p + 2 := by
  unfold spec_l1Cur_one.f
  obtain ⟨r, p', s', e, a, b, _, _, _⟩ := pick_ok hc s n h0 h1
  rw [e]
  exact ⟨_, _, _, rfl, a, b⟩

theorem word_ok {c : List Int} (hc : U8 c) {p : Int} (s : Int) (h0 : 0 ≤ p) (h1 : p ≤ 999999998000) : ∃ r p' s', spec_l1Cur_word.f c p s = some (r, p', s') ∧ p ≤ p' ∧ p' ≤ p + 12 ∧ 0 ≤ r ∧ r ≤ 65535 := by
  unfold spec_l1Cur_word.f
  obtain ⟨r1, p1, s1, e1, a1, b1, c1, d1, _⟩ := pick_ok hc s 256 h0 (by omega)
  obtain ⟨r2, p2, s2, e2, a2, b2, c2, d2, _⟩ := pick_ok hc s1 256 (p := p1) (by omega) (by omega)
  obtain ⟨r3, p3, s3, e3, a3, b3, c3, d3, _⟩ := pick_ok hc s2 256 (p := p2) (by omega) (by omega)
  obtain ⟨r4, p4, s4, e4, a4, b4, c4, d4, _⟩ := pick_ok hc s3 256 (p := p3) (by omega) (by omega)
  obtain ⟨r5, p5, s5, e5, a5, b5, c5, d5, _⟩ := pick_ok hc s4 20 (p := p4) (by omega) (by omega)
  replace d1 := d1 (by omega)
  replace d2 := d2 (by omega)
  replace d3 := d3 (by omega)
  replace d4 := d4 (by omega)
  replace d5 := d5 (by omega)
  rw [e1]
  simp only [Option.bind_some]
  rw [e2]
  simp only [Option.bind_some]
  rw [e3]
  simp only [Option.bind_some]
  rw [e4]
  simp only [Option.bind_some]
  rw [e5]
  simp only [Option.bind_some]
  rw [w64 (x := r1 * 256) (by omega) (by omega), w64 (x := r1 * 256 + r2) (by omega) (by omega), w64 (x := r3 * 256) (by omega) (by omega), w64 (x := r3 * 256 + r4) (by omega) (by omega)]
  obtain ⟨r, p6, s6, e6, a6, b6, hm⟩ := among_ok hc s5 [0, 1, 2, 255, 256, 32767, 32768, 65535, r1 * 256 + r2, r3 * 256 + r4, r5] (p := p5) (by simp) (by omega) (by omega)
  rw [e6]
  refine ⟨_, _, _, rfl, by simp only; omega, by simp only; omega, ?_⟩
  simp only [List.mem_cons, List.not_mem_nil, or_false] at hm
  simp only
  omega
theorem rawWord_ok {c : List Int} (hc : U8 c) {p : Int} (s : Int) (h0 : 0 ≤ p) (h1 : p ≤ 999999997000) : ∃ r p' s', spec_l1Cur_rawWord.f c p s = some (r, p', s') ∧ p ≤ p' ∧ p' ≤ p + 20 ∧ -1 ≤ r ∧ r ≤ 65536 := by
  unfold spec_l1Cur_rawWord.f
  obtain ⟨b, p1, s1, e1, a1, b1⟩ := one_ok hc s 20 h0 (by omega)
  rw [e1]
  simp only [Option.bind_some]
  cases b with
  | true =>
    obtain ⟨r, p6, s6, e6, a6, b6, hm⟩ := among_ok hc s1 [(-1), 65536] (p := p1) (by simp) (by omega) (by omega)
    rw [if_pos rfl, e6]
    refine ⟨_, _, _, rfl, by simp only; omega, by simp only; omega, ?_⟩
    simp only [List.mem_cons, List.not_mem_nil, or_false] at hm
    simp only
    omega
  | false =>
    obtain ⟨r, p6, s6, e6, a6, b6, r0, r1⟩ := word_ok hc s1 (p := p1) (by omega) (by omega)
    rw [if_neg Bool.false_ne_true, e6]
    exact ⟨_, _, _, rfl, by simp only; omega, by simp only; omega, by simp only; omega, by simp only; omega⟩

theorem lwrap_val (a : Int) : Int.tmod (wrap64 ((Int.tmod a 65536) + 65536)) 65536 = a % 65536 := by
  unfold wrap64
  have h1 := Int.tmod_eq_emod (a := a) (b := 65536)
  have h2 : ∀ x : Int, 0 ≤ x → Int.tmod x 65536 = x % 65536 := fun x hx => Int.tmod_eq_emod_of_nonneg hx
  split at h1 <;> (rw [h2 _ (by omega)]; omega)
theorem and65535 {a : Int} (h : -9223372036854775808 ≤ a ∧ a ≤ 9223372036854775807) : Go.bits .and .i64 a 65535 = a % 65536 := by
  have e : BitVec.ofInt 64 a &&& BitVec.ofInt 64 65535 = BitVec.ofInt 64 (a % 65536) := by
    apply BitVec.eq_of_toNat_eq
    rw [BitVec.toNat_and]
    have h1 : (BitVec.ofInt 64 (65535 : Int)).toNat = 2 ^ 16 - 1 := by decide
    rw [h1, Nat.and_two_pow_sub_one_eq_mod]
    simp only [BitVec.toNat_ofInt]
    omega
  show IntKind.i64.wrap ((BitVec.ofInt 64 a &&& BitVec.ofInt 64 65535).toNat : Int) = _
  rw [e, BitVec.toNat_ofInt, IntKind.wrap_i64]
  omega

def wB (x : Int) : Bool := decide (0 ≤ x ∧ x ≤ 65535)
def sg (x : Int) : Int := if x ≥ 32768 then x - 65536 else x
theorem specWordB_val (x : Int) : spec_l1Word.f x = some (wB x) := by
  unfold spec_l1Word.f spec_l1In.f wB
  split <;> simp [*] <;> omega
theorem implWordB_val (x : Int) : impl_isWord.f x = some (wB x) := by
  unfold impl_isWord.f impl_in.f wB
  split <;> simp [*] <;> omega
theorem wB_iff {x : Int} : wB x = true ↔ 0 ≤ x ∧ x ≤ 65535 := by simp [wB]

theorem implSignedOf_val (x : Int) : impl_SignedOf.f x = some (if wB x = true then (sg x, true) else (0, false)) := by
  unfold impl_SignedOf.f impl_signed.f
  rw [implWordB_val]
  simp only [Option.bind_some]
  by_cases h : wB x = true
  · rw [if_pos h, if_pos h]
    have := wB_iff.1 h
    unfold sg
    split
    · rw [w64 (by omega) (by omega)]
      rfl
    · rfl
  · rw [if_neg h, if_neg h]
theorem specSignedOf_val (x : Int) : spec_SignedOf.f x = some (if wB x = true then (sg x, true) else (0, false)) := implSignedOf_val x
theorem implLess_val (k : Nat) (x y : Int) : impl_LessSigned.f (k + 1) x y = some (if wB x = true then (if wB y = true then (decide (sg x < sg y), true) else (false, false)) else (false, false)) := by
  have hs : ∀ z, wB z = true → impl_signed.f z = some (sg z) := fun z h => by
    have := wB_iff.1 h
    unfold impl_signed.f sg
    split
    · rw [w64 (by omega) (by omega)]
    · rfl
  unfold impl_LessSigned.f
  rw [implWordB_val]
  simp only [Option.bind_some, impl_LessSigned.j0]
  by_cases h : wB x = true
  · rw [if_pos h, if_pos h, implWordB_val]
    simp only [Option.bind_some]
    by_cases h2 : wB y = true
    · rw [h2, hs x h, hs y h2]
      simp
    · rw [if_neg h2, show wB y = false by simpa using h2]
      simp
  · rw [if_neg h, if_neg h]
    simp
theorem specLess_val (k : Nat) (x y : Int) : spec_LessSigned.f (k + 1) x y = some (if wB x = true then (if wB y = true then (decide (sg x < sg y), true) else (false, false)) else (false, false)) := by
  have hs : ∀ z, wB z = true → spec_l1Signed.f z = some (sg z) := fun z h => by
    have := wB_iff.1 h
    unfold spec_l1Signed.f sg
    split
    · rw [w64 (by omega) (by omega)]
    · rfl
  unfold spec_LessSigned.f
  rw [specWordB_val]
  simp only [Option.bind_some, spec_LessSigned.j0]
  by_cases h : wB x = true
  · rw [if_pos h, if_pos h, specWordB_val]
    simp only [Option.bind_some]
    by_cases h2 : wB y = true
    · rw [h2, hs x h, hs y h2]
      simp
    · rw [if_neg h2, show wB y = false by simpa using h2]
      simp
  · rw [if_neg h, if_neg h]
    simp
theorem implNegate_val (x : Int) : impl_NegateWord.f x = some (if wB x = true then ((-x) % 65536, true) else (0, false)) := by
  unfold impl_NegateWord.f impl_WordOf.f
  rw [implWordB_val]
  simp only [Option.bind_some]
  by_cases h : wB x = true
  · have := wB_iff.1 h
    rw [if_pos h, if_pos h, w64 (by omega) (by omega), and65535 (by omega)]
  · rw [if_neg h, if_neg h]
theorem specNegate_val (x : Int) : spec_NegateWord.f x = some (if wB x = true then ((-x) % 65536, true) else (0, false)) := by
  unfold spec_NegateWord.f spec_l1Wrap.f
  rw [specWordB_val]
  simp only [Option.bind_some]
  by_cases h : wB x = true
  · have := wB_iff.1 h
    rw [if_pos h, if_pos h, w64 (x := -x) (by omega) (by omega), lwrap_val]
  · rw [if_neg h, if_neg h]
def eb (x : Int) : Int := if x % 256 ≥ 128 then x % 256 + 65280 else x % 256
theorem implExtend_val (x : Int) : impl_ExtendByte.f x = some (if wB x = true then (eb x, true) else (0, false)) := by
  unfold impl_ExtendByte.f
  rw [implWordB_val]
  simp only [Option.bind_some]
  by_cases h : wB x = true
  · have := wB_iff.1 h
    rw [if_pos h, if_pos h, Int.tmod_eq_emod_of_nonneg (by omega)]
    unfold eb
    split
    · rw [w64 (by omega) (by omega)]
    · rfl
  · rw [if_neg h, if_neg h]
theorem specExtend_val (x : Int) : spec_ExtendByte.f x = some (if wB x = true then (eb x, true) else (0, false)) := implExtend_val x

theorem drawSigned_ok {c : List Int} (hc : U8 c) : ∃ r, spec_DrawSignedOf.f c = some r ∧ -1 ≤ r ∧ r ≤ 65536 := by
  obtain ⟨r, p, s, e, _, _, h0, h1⟩ := rawWord_ok hc 0 (p := 0) (by omega) (by omega)
  unfold spec_DrawSignedOf.f
  rw [e]
  exact ⟨r, rfl, h0, h1⟩

theorem FnSigns : laws_FnSigns.Pure := by
  intro c d hc0 hc1 hc2 hd0 hd1 hd2
  refine ⟨1, ?_⟩
  have hc := u8_of hc2
  have hd := u8_of hd2
  unfold laws_FnSigns.f
  by_cases hbig : wrap64 ((c.length : Int) + (d.length : Int)) > 1048576
  · rw [if_pos hbig]
  · rw [if_neg hbig]
    obtain ⟨a, p1, s1, e1, a1, b1, a0, a2⟩ := rawWord_ok hc 0 (p := 0) (by omega) (by omega)
    obtain ⟨b, p2, s2, e2, _, _, b0, b2⟩ := rawWord_ok hc s1 (p := p1) (by omega) (by omega)
    have hdraw : spec_DrawLessSigned.f c = some (a, b) := by
      unfold spec_DrawLessSigned.f
      rw [e1]
      simp only [Option.bind_some]
      rw [e2]
      rfl
    obtain ⟨w, hw, w0, w1⟩ := drawSigned_ok hd
    have hext : spec_DrawExtendByte.f d = some w := by
      unfold spec_DrawExtendByte.f
      rw [hw]
      rfl
    rw [hdraw]
    simp only [Option.bind_some]
    rw [implLess_val 0, specLess_val 0]
    simp only [Option.bind_some, bne_self_eq_false]
    rw [if_neg Bool.false_ne_true, if_neg Bool.false_ne_true]
    have hfin : ((spec_DrawExtendByte.f d).bind fun t225 => ((impl_ExtendByte.f t225).bind fun bt226 => ((spec_ExtendByte.f t225).bind fun bt228 => ((impl_SignedOf.f t225).bind fun bt230 => ((spec_SignedOf.f t225).bind fun bt232 => ((impl_NegateWord.f t225).bind fun bt234 => ((spec_NegateWord.f t225).bind fun bt236 => (if (bt226.2 != bt228.2) = true then (none) else (if bt226.1 = bt228.1 then (if (bt230.2 != bt232.2) = true then (none) else (if bt230.1 = bt232.1 then (if (bt234.2 != bt236.2) = true then (none) else (if bt234.1 = bt236.1 then (if bt226.2 = true then ((impl_SignedOf.f bt226.1).bind fun bt238 => (if bt238.2 = true then (if bt238.1 ≥ (-128) then (if bt238.1 ≤ 127 then (some ((Int.tmod bt226.1 256) == (Int.tmod t225 256))) else (none)) else (none)) else (none))) else (some true)) else (none))) else (none))) else (none)))))))))) = some true := by
      rw [hext]
      simp only [Option.bind_some]
      rw [implExtend_val, specExtend_val, implSignedOf_val, specSignedOf_val, implNegate_val, specNegate_val]
      simp only [Option.bind_some, bne_self_eq_false]
      simp only [Bool.false_eq_true, if_false, if_true]
      cases hw' : wB w with
      | false => rfl
      | true =>
        have := wB_iff.1 hw'
        have he : wB (eb w) = true := wB_iff.2 (by unfold eb; split <;> omega)
        simp only [if_true]
        rw [implSignedOf_val, he]
        simp only [Option.bind_some, if_true]
        have h1 : -128 ≤ sg (eb w) ∧ sg (eb w) ≤ 127 := by unfold sg eb; split <;> split <;> omega
        rw [if_pos (by omega), if_pos (by omega), Int.tmod_eq_emod_of_nonneg (by have := wB_iff.1 he; omega), Int.tmod_eq_emod_of_nonneg (by omega)]
        have h2 : eb w % 256 = w % 256 := by unfold eb; split <;> omega
        rw [h2]
        simp
    cases ha : wB a with
    | false =>
      simp only [Bool.false_eq_true, if_false]
      exact hfin
    | true =>
      cases hb : wB b with
      | false =>
        simp only [Bool.false_eq_true, if_false, if_true]
        exact hfin
      | true =>
        have ha' := wB_iff.1 ha
        have hn : wB (-a % 65536) = true := wB_iff.2 (by omega)
        simp only [if_true]
        rw [implSignedOf_val, implSignedOf_val, implNegate_val, ha, hb]
        simp only [Option.bind_some, if_true, bne_self_eq_false]
        rw [implSignedOf_val, hn]
        simp only [Option.bind_some, if_true, Bool.false_eq_true, if_false]
        unfold impl_WordOf.f
        simp only [Option.bind_some]
        rw [and65535 (by unfold sg; split <;> omega), if_pos (by unfold sg; split <;> omega), w64 (by unfold sg; split <;> omega) (by unfold sg; split <;> omega)]
        by_cases hz : sg (-a % 65536) = -sg a
        · rw [if_pos hz]
          exact hfin
        · rw [if_neg hz, if_pos (by revert hz; unfold sg; split <;> split <;> omega)]
          exact hfin

end Go.Proofs.Ytpkbjgmeejlchaa.Pure
