/- The pure statement of the law FnExactReadProgram: the printed functions of the program and of the reference give the same answers, at every input that the statement's guards let in. -/
import Derived.Test.YtjopmdogdmdanaaPFnExactReadProgramx9
import Derived.Lib.Strings
namespace Go.Proofs.Ytjopmdogdmdanaa.Pure
open Go.RowKit Go.Proofs.Ytjopmdogdmdanaa.PFnExactReadProgram Go.Proofs.YtjopmdogdmdanaaW.PrintWords Go.Proofs.YtjopmdogdmdanaaW.PrintLast Go.Proofs.YtjopmdogdmdanaaW.PrintMore
set_option linter.unusedSimpArgs false
set_option linter.unusedVariables false
theorem w64 {x : Int} (h0 : -9223372036854775808 ≤ x) (h1 : x ≤ 9223372036854775807) : wrap64 x = x := by
  unfold wrap64
  omega
theorem l64 {a : Int} (h : (Lit.int .i64 a).wf = true) : -9223372036854775808 ≤ a ∧ a ≤ 9223372036854775807 := by
  simp only [Lit.wf, IntKind.min, IntKind.max, IntKind.signed, IntKind.bits, Bool.and_eq_true, decide_eq_true_eq, if_true] at h
  omega
theorem rd_nat (l : List Int) (i : Nat) (h : i < l.length) : rd l (i : Int) = l[i] := by
  unfold rd
  rw [List.getD_eq_getElem?_getD, show ((i : Int).toNat) = i by omega, List.getElem?_eq_getElem h]
  rfl
theorem next64 {i : Nat} (h : i ≤ 4611686018427387904) : wrap64 ((i : Int) + 1) = ((i + 1 : Nat) : Int) := by
  rw [w64 (by omega) (by omega)]
  omega

def inB (a lo hi : Int) : Bool := decide (lo ≤ a) && decide (a ≤ hi)
theorem specIn_val (a lo hi : Int) : spec_l1In.f a lo hi = some (inB a lo hi) := by
  unfold spec_l1In.f inB
  by_cases h : lo ≤ a
  · rw [if_pos (by omega)]
    simp [h]
  · rw [if_neg (by omega)]
    simp [h]
theorem implIn_val (a lo hi : Int) : impl_in.f a lo hi = some (inB a lo hi) := by
  unfold impl_in.f inB
  by_cases h : lo ≤ a
  · rw [if_pos (by omega)]
    simp [h]
  · rw [if_neg (by omega)]
    simp [h]
def zB (a1 a2 a3 a4 a5 : Int) (f1 f2 f3 f4 f5 : Bool) : Bool := (f1 || a1 == 0) && ((f2 || a2 == 0) && ((f3 || a3 == 0) && ((f4 || a4 == 0) && (f5 || a5 == 0))))
theorem specZero_val (a0 a1 a2 a3 a4 a5 : Int) (f1 f2 f3 f4 f5 : Bool) : spec_l2Zero.f a0 a1 a2 a3 a4 a5 f1 f2 f3 f4 f5 = some (zB a1 a2 a3 a4 a5 f1 f2 f3 f4 f5) := by
  unfold spec_l2Zero.f zB
  cases f1 <;> cases f2 <;> cases f3 <;> cases f4 <;> cases f5 <;> simp only [Bool.false_eq_true, if_true, if_false, Bool.true_or, Bool.false_or, Bool.true_and, Bool.and_true] <;> (repeat' split) <;> simp [*]
/-- A step is well formed. -/
def stepB (a0_0 a0_1 a0_2 a0_3 a0_4 a0_5 : Int) : Bool := inB a0_2 0 5 && (inB a0_3 0 5 &&
  (if a0_0 = 1 then inB a0_1 1 10 && zB a0_1 a0_2 a0_3 a0_4 a0_5 true true true false false
  else if a0_0 = 2 then inB a0_1 1 10 && (inB a0_4 0 255 && zB a0_1 a0_2 a0_3 a0_4 a0_5 true true false true false)
  else if a0_0 = 3 then inB a0_4 0 255 && zB a0_1 a0_2 a0_3 a0_4 a0_5 false true false true false
  else if a0_0 = 4 then inB a0_4 256 65535 && zB a0_1 a0_2 a0_3 a0_4 a0_5 false true false true false
  else if a0_0 = 5 then inB a0_4 0 7 && zB a0_1 a0_2 a0_3 a0_4 a0_5 false true true true false
  else if a0_0 = 6 then inB a0_4 0 255 && zB a0_1 a0_2 a0_3 a0_4 a0_5 false true false true false
  else if a0_0 = 7 then inB a0_4 0 255 && zB a0_1 a0_2 a0_3 a0_4 a0_5 false true false true false
  else if a0_0 = 8 then inB a0_5 1 19 && zB a0_1 a0_2 a0_3 a0_4 a0_5 false false false false true
  else if a0_0 = 9 then inB a0_5 1 19 && zB a0_1 a0_2 a0_3 a0_4 a0_5 false true true false true
  else if a0_0 = 10 then inB a0_5 1 19 && zB a0_1 a0_2 a0_3 a0_4 a0_5 false true true false true
  else if a0_0 = 11 then zB a0_1 a0_2 a0_3 a0_4 a0_5 false false false false false
  else false))
theorem specStep_val (a0_0 a0_1 a0_2 a0_3 a0_4 a0_5 : Int) (k : Nat) (hk : 3 ≤ k) : spec_l2Step.f k a0_0 a0_1 a0_2 a0_3 a0_4 a0_5 = some (stepB a0_0 a0_1 a0_2 a0_3 a0_4 a0_5) := by
  obtain ⟨k, rfl⟩ : ∃ m, k = m + 3 := ⟨k - 3, by omega⟩
  unfold spec_l2Step.f spec_l2Reg.f stepB
  simp only [specIn_val, Option.bind_some, spec_l2Step.j0, spec_l2Step.j1, spec_l2Step.j2, specZero_val]
  cases inB a0_2 0 5 with
  | false => simp
  | true =>
    cases inB a0_3 0 5 with
    | false => simp
    | true =>
      simp only [Bool.true_and, if_true, Bool.not_true, Bool.false_eq_true, if_false]
      by_cases c1 : a0_0 = 1
      · subst c1
        cases inB a0_1 1 10 <;> cases inB a0_4 0 255 <;> cases inB a0_4 256 65535 <;> cases inB a0_4 0 7 <;> cases inB a0_5 1 19 <;> simp
      by_cases c2 : a0_0 = 2
      · subst c2
        cases inB a0_1 1 10 <;> cases inB a0_4 0 255 <;> cases inB a0_4 256 65535 <;> cases inB a0_4 0 7 <;> cases inB a0_5 1 19 <;> simp
      by_cases c3 : a0_0 = 3
      · subst c3
        cases inB a0_1 1 10 <;> cases inB a0_4 0 255 <;> cases inB a0_4 256 65535 <;> cases inB a0_4 0 7 <;> cases inB a0_5 1 19 <;> simp
      by_cases c4 : a0_0 = 4
      · subst c4
        cases inB a0_1 1 10 <;> cases inB a0_4 0 255 <;> cases inB a0_4 256 65535 <;> cases inB a0_4 0 7 <;> cases inB a0_5 1 19 <;> simp
      by_cases c5 : a0_0 = 5
      · subst c5
        cases inB a0_1 1 10 <;> cases inB a0_4 0 255 <;> cases inB a0_4 256 65535 <;> cases inB a0_4 0 7 <;> cases inB a0_5 1 19 <;> simp
      by_cases c6 : a0_0 = 6
      · subst c6
        cases inB a0_1 1 10 <;> cases inB a0_4 0 255 <;> cases inB a0_4 256 65535 <;> cases inB a0_4 0 7 <;> cases inB a0_5 1 19 <;> simp
      by_cases c7 : a0_0 = 7
      · subst c7
        cases inB a0_1 1 10 <;> cases inB a0_4 0 255 <;> cases inB a0_4 256 65535 <;> cases inB a0_4 0 7 <;> cases inB a0_5 1 19 <;> simp
      by_cases c8 : a0_0 = 8
      · subst c8
        cases inB a0_1 1 10 <;> cases inB a0_4 0 255 <;> cases inB a0_4 256 65535 <;> cases inB a0_4 0 7 <;> cases inB a0_5 1 19 <;> simp
      by_cases c9 : a0_0 = 9
      · subst c9
        cases inB a0_1 1 10 <;> cases inB a0_4 0 255 <;> cases inB a0_4 256 65535 <;> cases inB a0_4 0 7 <;> cases inB a0_5 1 19 <;> simp
      by_cases c10 : a0_0 = 10
      · subst c10
        cases inB a0_1 1 10 <;> cases inB a0_4 0 255 <;> cases inB a0_4 256 65535 <;> cases inB a0_4 0 7 <;> cases inB a0_5 1 19 <;> simp
      by_cases c11 : a0_0 = 11
      · subst c11
        cases inB a0_1 1 10 <;> cases inB a0_4 0 255 <;> cases inB a0_4 256 65535 <;> cases inB a0_4 0 7 <;> cases inB a0_5 1 19 <;> simp
      simp [c1, c2, c3, c4, c5, c6, c7, c8, c9, c10, c11]
theorem valid_round (a0_0 a0_1 a0_2 a0_3 a0_4 a0_5 : Int) (z : ByteArray) (r_1 r_2 r_3 r_4 r_5 : Int) (s_1 s_2 s_3 s_4 s_5 : Int) (x L lo hi : Int) (b : Bool) (k : Nat) (h1 : x < (z.size : Int)) (h0 : 0 ≤ x) (hx : x ≤ 100) (hL : bt z x = L) (hr : impl_Step_ranges.f k a0_0 a0_1 a0_2 a0_3 a0_4 a0_5 L = some (lo, hi)) (e1 : zr_ 1 (fieldAt_ L) r_1 = s_1) (e2 : zr_ 2 (fieldAt_ L) r_2 = s_2) (e3 : zr_ 3 (fieldAt_ L) r_3 = s_3) (e4 : zr_ 4 (fieldAt_ L) r_4 = s_4) (e5 : zr_ 5 (fieldAt_ L) r_5 = s_5)
    (hn : impl_Step_valid.l0 k a0_0 a0_1 a0_2 a0_3 a0_4 a0_5 z s_1 s_2 s_3 s_4 s_5 (x + 1) = some b) : impl_Step_valid.l0 (k + 1) a0_0 a0_1 a0_2 a0_3 a0_4 a0_5 z r_1 r_2 r_3 r_4 r_5 x = some (inB (fld_ a0_0 a0_1 a0_2 a0_3 a0_4 a0_5 (fieldAt_ L)) lo hi && b) := by
  simp only [impl_Step_valid.l0]
  rw [if_pos h1, if_pos h0, hL, hr]
  simp only [Option.bind_some]
  rw [implIn_val, e1, e2, e3, e4, e5, w64 (by omega) (by omega), hn]
  simp only [Option.bind_some]
  cases inB (fld_ a0_0 a0_1 a0_2 a0_3 a0_4 a0_5 (fieldAt_ L)) lo hi <;> rfl
theorem valid_end (a0_0 a0_1 a0_2 a0_3 a0_4 a0_5 : Int) (z : ByteArray) (r_1 r_2 r_3 r_4 r_5 : Int) (x : Int) (k : Nat) (h1 : ¬ x < (z.size : Int)) : impl_Step_valid.l0 (k + 1) a0_0 a0_1 a0_2 a0_3 a0_4 a0_5 z r_1 r_2 r_3 r_4 r_5 x = some (inB a0_0 1 11 && decide (r_1 = 0 ∧ r_2 = 0 ∧ r_3 = 0 ∧ r_4 = 0 ∧ r_5 = 0)) := by
  simp only [impl_Step_valid.l0]
  rw [if_neg h1, implIn_val]
  simp only [Option.bind_some]
  cases inB a0_0 1 11 <;> rfl
theorem ranges_o (a0_0 a0_1 a0_2 a0_3 a0_4 a0_5 : Int) (k : Nat) : impl_Step_ranges.f (k + 1) a0_0 a0_1 a0_2 a0_3 a0_4 a0_5 111 = some (1, 10) := by simp [impl_Step_ranges.f]
theorem ranges_d (a0_0 a0_1 a0_2 a0_3 a0_4 a0_5 : Int) (k : Nat) : impl_Step_ranges.f (k + 1) a0_0 a0_1 a0_2 a0_3 a0_4 a0_5 100 = some (0, 5) := by simp [impl_Step_ranges.f, impl_Step_ranges.j0]
theorem ranges_s (a0_0 a0_1 a0_2 a0_3 a0_4 a0_5 : Int) (k : Nat) : impl_Step_ranges.f (k + 1) a0_0 a0_1 a0_2 a0_3 a0_4 a0_5 115 = some (0, 5) := by simp [impl_Step_ranges.f, impl_Step_ranges.j0]
theorem ranges_t (a0_0 a0_1 a0_2 a0_3 a0_4 a0_5 : Int) (k : Nat) : impl_Step_ranges.f (k + 1) a0_0 a0_1 a0_2 a0_3 a0_4 a0_5 116 = some (1, 19) := by simp [impl_Step_ranges.f, impl_Step_ranges.j0]
def immR (a : Int) : Int × Int := if a = 4 then (256, 65535) else if a = 5 then (0, 7) else (0, 255)
theorem ranges_i (a0_0 a0_1 a0_2 a0_3 a0_4 a0_5 : Int) (k : Nat) : impl_Step_ranges.f (k + 1) a0_0 a0_1 a0_2 a0_3 a0_4 a0_5 105 = some ((immR a0_0).1, (immR a0_0).2) := by
  unfold immR
  simp only [impl_Step_ranges.f, impl_Step_ranges.j0]
  by_cases h4 : a0_0 = 4
  · simp [h4]
  · by_cases h5 : a0_0 = 5
    · simp [h5]
    · simp [h4, h5]
theorem valid_ods (a0_0 a0_1 a0_2 a0_3 a0_4 a0_5 : Int) (k : Nat) : impl_Step_valid.l0 (k + 5) a0_0 a0_1 a0_2 a0_3 a0_4 a0_5 ⟨#[111, 100, 115]⟩ a0_1 a0_2 a0_3 a0_4 a0_5 0 = some (inB a0_1 1 10 && (inB a0_2 0 5 && (inB a0_3 0 5 && (inB a0_0 1 11 && decide ((0 : Int) = 0 ∧ (0 : Int) = 0 ∧ (0 : Int) = 0 ∧ a0_4 = 0 ∧ a0_5 = 0))))) := by
  have h3 := valid_end a0_0 a0_1 a0_2 a0_3 a0_4 a0_5 ⟨#[111, 100, 115]⟩ 0 0 0 a0_4 a0_5 3 (k + 1) (by decide)
  have h2 := valid_round a0_0 a0_1 a0_2 a0_3 a0_4 a0_5 ⟨#[111, 100, 115]⟩ 0 0 a0_3 a0_4 a0_5 0 0 0 a0_4 a0_5 2 115 0 5 _ (k + 2) (by decide) (by decide) (by decide) (by rfl) (ranges_s a0_0 a0_1 a0_2 a0_3 a0_4 a0_5 _) (by rfl) (by rfl) (by rfl) (by rfl) (by rfl) h3
  have h1 := valid_round a0_0 a0_1 a0_2 a0_3 a0_4 a0_5 ⟨#[111, 100, 115]⟩ 0 a0_2 a0_3 a0_4 a0_5 0 0 a0_3 a0_4 a0_5 1 100 0 5 _ (k + 3) (by decide) (by decide) (by decide) (by rfl) (ranges_d a0_0 a0_1 a0_2 a0_3 a0_4 a0_5 _) (by rfl) (by rfl) (by rfl) (by rfl) (by rfl) h2
  have h0 := valid_round a0_0 a0_1 a0_2 a0_3 a0_4 a0_5 ⟨#[111, 100, 115]⟩ a0_1 a0_2 a0_3 a0_4 a0_5 0 a0_2 a0_3 a0_4 a0_5 0 111 1 10 _ (k + 4) (by decide) (by decide) (by decide) (by rfl) (ranges_o a0_0 a0_1 a0_2 a0_3 a0_4 a0_5 _) (by rfl) (by rfl) (by rfl) (by rfl) (by rfl) h1
  exact h0
theorem valid_odi (a0_0 a0_1 a0_2 a0_3 a0_4 a0_5 : Int) (k : Nat) : impl_Step_valid.l0 (k + 5) a0_0 a0_1 a0_2 a0_3 a0_4 a0_5 ⟨#[111, 100, 105]⟩ a0_1 a0_2 a0_3 a0_4 a0_5 0 = some (inB a0_1 1 10 && (inB a0_2 0 5 && (inB a0_4 (immR a0_0).1 (immR a0_0).2 && (inB a0_0 1 11 && decide ((0 : Int) = 0 ∧ (0 : Int) = 0 ∧ a0_3 = 0 ∧ (0 : Int) = 0 ∧ a0_5 = 0))))) := by
  have h3 := valid_end a0_0 a0_1 a0_2 a0_3 a0_4 a0_5 ⟨#[111, 100, 105]⟩ 0 0 a0_3 0 a0_5 3 (k + 1) (by decide)
  have h2 := valid_round a0_0 a0_1 a0_2 a0_3 a0_4 a0_5 ⟨#[111, 100, 105]⟩ 0 0 a0_3 a0_4 a0_5 0 0 a0_3 0 a0_5 2 105 (immR a0_0).1 (immR a0_0).2 _ (k + 2) (by decide) (by decide) (by decide) (by rfl) (ranges_i a0_0 a0_1 a0_2 a0_3 a0_4 a0_5 _) (by rfl) (by rfl) (by rfl) (by rfl) (by rfl) h3
  have h1 := valid_round a0_0 a0_1 a0_2 a0_3 a0_4 a0_5 ⟨#[111, 100, 105]⟩ 0 a0_2 a0_3 a0_4 a0_5 0 0 a0_3 a0_4 a0_5 1 100 0 5 _ (k + 3) (by decide) (by decide) (by decide) (by rfl) (ranges_d a0_0 a0_1 a0_2 a0_3 a0_4 a0_5 _) (by rfl) (by rfl) (by rfl) (by rfl) (by rfl) h2
  have h0 := valid_round a0_0 a0_1 a0_2 a0_3 a0_4 a0_5 ⟨#[111, 100, 105]⟩ a0_1 a0_2 a0_3 a0_4 a0_5 0 a0_2 a0_3 a0_4 a0_5 0 111 1 10 _ (k + 4) (by decide) (by decide) (by decide) (by rfl) (ranges_o a0_0 a0_1 a0_2 a0_3 a0_4 a0_5 _) (by rfl) (by rfl) (by rfl) (by rfl) (by rfl) h1
  exact h0
theorem valid_di (a0_0 a0_1 a0_2 a0_3 a0_4 a0_5 : Int) (k : Nat) : impl_Step_valid.l0 (k + 5) a0_0 a0_1 a0_2 a0_3 a0_4 a0_5 ⟨#[100, 105]⟩ a0_1 a0_2 a0_3 a0_4 a0_5 0 = some (inB a0_2 0 5 && (inB a0_4 (immR a0_0).1 (immR a0_0).2 && (inB a0_0 1 11 && decide (a0_1 = 0 ∧ (0 : Int) = 0 ∧ a0_3 = 0 ∧ (0 : Int) = 0 ∧ a0_5 = 0)))) := by
  have h2 := valid_end a0_0 a0_1 a0_2 a0_3 a0_4 a0_5 ⟨#[100, 105]⟩ a0_1 0 a0_3 0 a0_5 2 (k + 2) (by decide)
  have h1 := valid_round a0_0 a0_1 a0_2 a0_3 a0_4 a0_5 ⟨#[100, 105]⟩ a0_1 0 a0_3 a0_4 a0_5 a0_1 0 a0_3 0 a0_5 1 105 (immR a0_0).1 (immR a0_0).2 _ (k + 3) (by decide) (by decide) (by decide) (by rfl) (ranges_i a0_0 a0_1 a0_2 a0_3 a0_4 a0_5 _) (by rfl) (by rfl) (by rfl) (by rfl) (by rfl) h2
  have h0 := valid_round a0_0 a0_1 a0_2 a0_3 a0_4 a0_5 ⟨#[100, 105]⟩ a0_1 a0_2 a0_3 a0_4 a0_5 a0_1 0 a0_3 a0_4 a0_5 0 100 0 5 _ (k + 4) (by decide) (by decide) (by decide) (by rfl) (ranges_d a0_0 a0_1 a0_2 a0_3 a0_4 a0_5 _) (by rfl) (by rfl) (by rfl) (by rfl) (by rfl) h1
  exact h0
theorem valid_dsi (a0_0 a0_1 a0_2 a0_3 a0_4 a0_5 : Int) (k : Nat) : impl_Step_valid.l0 (k + 5) a0_0 a0_1 a0_2 a0_3 a0_4 a0_5 ⟨#[100, 115, 105]⟩ a0_1 a0_2 a0_3 a0_4 a0_5 0 = some (inB a0_2 0 5 && (inB a0_3 0 5 && (inB a0_4 (immR a0_0).1 (immR a0_0).2 && (inB a0_0 1 11 && decide (a0_1 = 0 ∧ (0 : Int) = 0 ∧ (0 : Int) = 0 ∧ (0 : Int) = 0 ∧ a0_5 = 0))))) := by
  have h3 := valid_end a0_0 a0_1 a0_2 a0_3 a0_4 a0_5 ⟨#[100, 115, 105]⟩ a0_1 0 0 0 a0_5 3 (k + 1) (by decide)
  have h2 := valid_round a0_0 a0_1 a0_2 a0_3 a0_4 a0_5 ⟨#[100, 115, 105]⟩ a0_1 0 0 a0_4 a0_5 a0_1 0 0 0 a0_5 2 105 (immR a0_0).1 (immR a0_0).2 _ (k + 2) (by decide) (by decide) (by decide) (by rfl) (ranges_i a0_0 a0_1 a0_2 a0_3 a0_4 a0_5 _) (by rfl) (by rfl) (by rfl) (by rfl) (by rfl) h3
  have h1 := valid_round a0_0 a0_1 a0_2 a0_3 a0_4 a0_5 ⟨#[100, 115, 105]⟩ a0_1 0 a0_3 a0_4 a0_5 a0_1 0 0 a0_4 a0_5 1 115 0 5 _ (k + 3) (by decide) (by decide) (by decide) (by rfl) (ranges_s a0_0 a0_1 a0_2 a0_3 a0_4 a0_5 _) (by rfl) (by rfl) (by rfl) (by rfl) (by rfl) h2
  have h0 := valid_round a0_0 a0_1 a0_2 a0_3 a0_4 a0_5 ⟨#[100, 115, 105]⟩ a0_1 a0_2 a0_3 a0_4 a0_5 a0_1 0 a0_3 a0_4 a0_5 0 100 0 5 _ (k + 4) (by decide) (by decide) (by decide) (by rfl) (ranges_d a0_0 a0_1 a0_2 a0_3 a0_4 a0_5 _) (by rfl) (by rfl) (by rfl) (by rfl) (by rfl) h1
  exact h0
theorem valid_t (a0_0 a0_1 a0_2 a0_3 a0_4 a0_5 : Int) (k : Nat) : impl_Step_valid.l0 (k + 5) a0_0 a0_1 a0_2 a0_3 a0_4 a0_5 ⟨#[116]⟩ a0_1 a0_2 a0_3 a0_4 a0_5 0 = some (inB a0_5 1 19 && (inB a0_0 1 11 && decide (a0_1 = 0 ∧ a0_2 = 0 ∧ a0_3 = 0 ∧ a0_4 = 0 ∧ (0 : Int) = 0))) := by
  have h1 := valid_end a0_0 a0_1 a0_2 a0_3 a0_4 a0_5 ⟨#[116]⟩ a0_1 a0_2 a0_3 a0_4 0 1 (k + 3) (by decide)
  have h0 := valid_round a0_0 a0_1 a0_2 a0_3 a0_4 a0_5 ⟨#[116]⟩ a0_1 a0_2 a0_3 a0_4 a0_5 a0_1 a0_2 a0_3 a0_4 0 0 116 1 19 _ (k + 4) (by decide) (by decide) (by decide) (by rfl) (ranges_t a0_0 a0_1 a0_2 a0_3 a0_4 a0_5 _) (by rfl) (by rfl) (by rfl) (by rfl) (by rfl) h1
  exact h0
theorem valid_dst (a0_0 a0_1 a0_2 a0_3 a0_4 a0_5 : Int) (k : Nat) : impl_Step_valid.l0 (k + 5) a0_0 a0_1 a0_2 a0_3 a0_4 a0_5 ⟨#[100, 115, 116]⟩ a0_1 a0_2 a0_3 a0_4 a0_5 0 = some (inB a0_2 0 5 && (inB a0_3 0 5 && (inB a0_5 1 19 && (inB a0_0 1 11 && decide (a0_1 = 0 ∧ (0 : Int) = 0 ∧ (0 : Int) = 0 ∧ a0_4 = 0 ∧ (0 : Int) = 0))))) := by
  have h3 := valid_end a0_0 a0_1 a0_2 a0_3 a0_4 a0_5 ⟨#[100, 115, 116]⟩ a0_1 0 0 a0_4 0 3 (k + 1) (by decide)
  have h2 := valid_round a0_0 a0_1 a0_2 a0_3 a0_4 a0_5 ⟨#[100, 115, 116]⟩ a0_1 0 0 a0_4 a0_5 a0_1 0 0 a0_4 0 2 116 1 19 _ (k + 2) (by decide) (by decide) (by decide) (by rfl) (ranges_t a0_0 a0_1 a0_2 a0_3 a0_4 a0_5 _) (by rfl) (by rfl) (by rfl) (by rfl) (by rfl) h3
  have h1 := valid_round a0_0 a0_1 a0_2 a0_3 a0_4 a0_5 ⟨#[100, 115, 116]⟩ a0_1 0 a0_3 a0_4 a0_5 a0_1 0 0 a0_4 a0_5 1 115 0 5 _ (k + 3) (by decide) (by decide) (by decide) (by rfl) (ranges_s a0_0 a0_1 a0_2 a0_3 a0_4 a0_5 _) (by rfl) (by rfl) (by rfl) (by rfl) (by rfl) h2
  have h0 := valid_round a0_0 a0_1 a0_2 a0_3 a0_4 a0_5 ⟨#[100, 115, 116]⟩ a0_1 a0_2 a0_3 a0_4 a0_5 a0_1 0 a0_3 a0_4 a0_5 0 100 0 5 _ (k + 4) (by decide) (by decide) (by decide) (by rfl) (ranges_d a0_0 a0_1 a0_2 a0_3 a0_4 a0_5 _) (by rfl) (by rfl) (by rfl) (by rfl) (by rfl) h1
  exact h0
theorem valid_none (a0_0 a0_1 a0_2 a0_3 a0_4 a0_5 : Int) (k : Nat) : impl_Step_valid.l0 (k + 5) a0_0 a0_1 a0_2 a0_3 a0_4 a0_5 ⟨#[]⟩ a0_1 a0_2 a0_3 a0_4 a0_5 0 = some (inB a0_0 1 11 && decide (a0_1 = 0 ∧ a0_2 = 0 ∧ a0_3 = 0 ∧ a0_4 = 0 ∧ a0_5 = 0)) := by
  have h0 := valid_end a0_0 a0_1 a0_2 a0_3 a0_4 a0_5 ⟨#[]⟩ a0_1 a0_2 a0_3 a0_4 a0_5 0 (k + 4) (by decide)
  exact h0
theorem implStep_val (a0_0 a0_1 a0_2 a0_3 a0_4 a0_5 : Int) (k : Nat) (hk : 10 ≤ k) : impl_Step_valid.f k a0_0 a0_1 a0_2 a0_3 a0_4 a0_5 = some (stepB a0_0 a0_1 a0_2 a0_3 a0_4 a0_5) := by
  obtain ⟨k, rfl⟩ : ∃ m, k = m + 5 := ⟨k - 5, by omega⟩
  unfold impl_Step_valid.f impl_fields.f stepB
  by_cases c1 : a0_0 = 1
  · subst c1
    rw [show (if (1 : Int) = 1 then (some (⟨#[111, 100, 115]⟩ : ByteArray)) else (if (1 : Int) = 2 then (some (⟨#[111, 100, 105]⟩ : ByteArray)) else (if (1 : Int) = 3 then (impl_fields.j0 (k + 5) 1 ((1 : Int) == 3)) else (if (1 : Int) = 4 then (impl_fields.j0 (k + 5) 1 ((1 : Int) == 4)) else (if (1 : Int) = 6 then (impl_fields.j0 (k + 5) 1 ((1 : Int) == 6)) else (impl_fields.j0 (k + 5) 1 ((1 : Int) == 7))))))) = some ⟨#[111, 100, 115]⟩ by simp [impl_fields.j0]]
    simp only [Option.bind_some]
    rw [valid_ods]
    congr 1
    rw [Bool.eq_iff_iff]
    simp [inB, zB, immR]
    first | done | omega
  by_cases c2 : a0_0 = 2
  · subst c2
    rw [show (if (2 : Int) = 1 then (some (⟨#[111, 100, 115]⟩ : ByteArray)) else (if (2 : Int) = 2 then (some (⟨#[111, 100, 105]⟩ : ByteArray)) else (if (2 : Int) = 3 then (impl_fields.j0 (k + 5) 2 ((2 : Int) == 3)) else (if (2 : Int) = 4 then (impl_fields.j0 (k + 5) 2 ((2 : Int) == 4)) else (if (2 : Int) = 6 then (impl_fields.j0 (k + 5) 2 ((2 : Int) == 6)) else (impl_fields.j0 (k + 5) 2 ((2 : Int) == 7))))))) = some ⟨#[111, 100, 105]⟩ by simp [impl_fields.j0]]
    simp only [Option.bind_some]
    rw [valid_odi]
    congr 1
    rw [Bool.eq_iff_iff]
    simp [inB, zB, immR]
    first | done | omega
  by_cases c3 : a0_0 = 3
  · subst c3
    rw [show (if (3 : Int) = 1 then (some (⟨#[111, 100, 115]⟩ : ByteArray)) else (if (3 : Int) = 2 then (some (⟨#[111, 100, 105]⟩ : ByteArray)) else (if (3 : Int) = 3 then (impl_fields.j0 (k + 5) 3 ((3 : Int) == 3)) else (if (3 : Int) = 4 then (impl_fields.j0 (k + 5) 3 ((3 : Int) == 4)) else (if (3 : Int) = 6 then (impl_fields.j0 (k + 5) 3 ((3 : Int) == 6)) else (impl_fields.j0 (k + 5) 3 ((3 : Int) == 7))))))) = some ⟨#[100, 105]⟩ by simp [impl_fields.j0]]
    simp only [Option.bind_some]
    rw [valid_di]
    congr 1
    rw [Bool.eq_iff_iff]
    simp [inB, zB, immR]
    first | done | omega
  by_cases c4 : a0_0 = 4
  · subst c4
    rw [show (if (4 : Int) = 1 then (some (⟨#[111, 100, 115]⟩ : ByteArray)) else (if (4 : Int) = 2 then (some (⟨#[111, 100, 105]⟩ : ByteArray)) else (if (4 : Int) = 3 then (impl_fields.j0 (k + 5) 4 ((4 : Int) == 3)) else (if (4 : Int) = 4 then (impl_fields.j0 (k + 5) 4 ((4 : Int) == 4)) else (if (4 : Int) = 6 then (impl_fields.j0 (k + 5) 4 ((4 : Int) == 6)) else (impl_fields.j0 (k + 5) 4 ((4 : Int) == 7))))))) = some ⟨#[100, 105]⟩ by simp [impl_fields.j0]]
    simp only [Option.bind_some]
    rw [valid_di]
    congr 1
    rw [Bool.eq_iff_iff]
    simp [inB, zB, immR]
    first | done | omega
  by_cases c5 : a0_0 = 5
  · subst c5
    rw [show (if (5 : Int) = 1 then (some (⟨#[111, 100, 115]⟩ : ByteArray)) else (if (5 : Int) = 2 then (some (⟨#[111, 100, 105]⟩ : ByteArray)) else (if (5 : Int) = 3 then (impl_fields.j0 (k + 5) 5 ((5 : Int) == 3)) else (if (5 : Int) = 4 then (impl_fields.j0 (k + 5) 5 ((5 : Int) == 4)) else (if (5 : Int) = 6 then (impl_fields.j0 (k + 5) 5 ((5 : Int) == 6)) else (impl_fields.j0 (k + 5) 5 ((5 : Int) == 7))))))) = some ⟨#[100, 115, 105]⟩ by simp [impl_fields.j0]]
    simp only [Option.bind_some]
    rw [valid_dsi]
    congr 1
    rw [Bool.eq_iff_iff]
    simp [inB, zB, immR]
    first | done | omega
  by_cases c6 : a0_0 = 6
  · subst c6
    rw [show (if (6 : Int) = 1 then (some (⟨#[111, 100, 115]⟩ : ByteArray)) else (if (6 : Int) = 2 then (some (⟨#[111, 100, 105]⟩ : ByteArray)) else (if (6 : Int) = 3 then (impl_fields.j0 (k + 5) 6 ((6 : Int) == 3)) else (if (6 : Int) = 4 then (impl_fields.j0 (k + 5) 6 ((6 : Int) == 4)) else (if (6 : Int) = 6 then (impl_fields.j0 (k + 5) 6 ((6 : Int) == 6)) else (impl_fields.j0 (k + 5) 6 ((6 : Int) == 7))))))) = some ⟨#[100, 105]⟩ by simp [impl_fields.j0]]
    simp only [Option.bind_some]
    rw [valid_di]
    congr 1
    rw [Bool.eq_iff_iff]
    simp [inB, zB, immR]
    first | done | omega
  by_cases c7 : a0_0 = 7
  · subst c7
    rw [show (if (7 : Int) = 1 then (some (⟨#[111, 100, 115]⟩ : ByteArray)) else (if (7 : Int) = 2 then (some (⟨#[111, 100, 105]⟩ : ByteArray)) else (if (7 : Int) = 3 then (impl_fields.j0 (k + 5) 7 ((7 : Int) == 3)) else (if (7 : Int) = 4 then (impl_fields.j0 (k + 5) 7 ((7 : Int) == 4)) else (if (7 : Int) = 6 then (impl_fields.j0 (k + 5) 7 ((7 : Int) == 6)) else (impl_fields.j0 (k + 5) 7 ((7 : Int) == 7))))))) = some ⟨#[100, 105]⟩ by simp [impl_fields.j0]]
    simp only [Option.bind_some]
    rw [valid_di]
    congr 1
    rw [Bool.eq_iff_iff]
    simp [inB, zB, immR]
    first | done | omega
  by_cases c8 : a0_0 = 8
  · subst c8
    rw [show (if (8 : Int) = 1 then (some (⟨#[111, 100, 115]⟩ : ByteArray)) else (if (8 : Int) = 2 then (some (⟨#[111, 100, 105]⟩ : ByteArray)) else (if (8 : Int) = 3 then (impl_fields.j0 (k + 5) 8 ((8 : Int) == 3)) else (if (8 : Int) = 4 then (impl_fields.j0 (k + 5) 8 ((8 : Int) == 4)) else (if (8 : Int) = 6 then (impl_fields.j0 (k + 5) 8 ((8 : Int) == 6)) else (impl_fields.j0 (k + 5) 8 ((8 : Int) == 7))))))) = some ⟨#[116]⟩ by simp [impl_fields.j0]]
    simp only [Option.bind_some]
    rw [valid_t]
    congr 1
    rw [Bool.eq_iff_iff]
    simp [inB, zB, immR]
    first | done | omega
  by_cases c9 : a0_0 = 9
  · subst c9
    rw [show (if (9 : Int) = 1 then (some (⟨#[111, 100, 115]⟩ : ByteArray)) else (if (9 : Int) = 2 then (some (⟨#[111, 100, 105]⟩ : ByteArray)) else (if (9 : Int) = 3 then (impl_fields.j0 (k + 5) 9 ((9 : Int) == 3)) else (if (9 : Int) = 4 then (impl_fields.j0 (k + 5) 9 ((9 : Int) == 4)) else (if (9 : Int) = 6 then (impl_fields.j0 (k + 5) 9 ((9 : Int) == 6)) else (impl_fields.j0 (k + 5) 9 ((9 : Int) == 7))))))) = some ⟨#[100, 115, 116]⟩ by simp [impl_fields.j0]]
    simp only [Option.bind_some]
    rw [valid_dst]
    congr 1
    rw [Bool.eq_iff_iff]
    simp [inB, zB, immR]
    first | done | omega
  by_cases c10 : a0_0 = 10
  · subst c10
    rw [show (if (10 : Int) = 1 then (some (⟨#[111, 100, 115]⟩ : ByteArray)) else (if (10 : Int) = 2 then (some (⟨#[111, 100, 105]⟩ : ByteArray)) else (if (10 : Int) = 3 then (impl_fields.j0 (k + 5) 10 ((10 : Int) == 3)) else (if (10 : Int) = 4 then (impl_fields.j0 (k + 5) 10 ((10 : Int) == 4)) else (if (10 : Int) = 6 then (impl_fields.j0 (k + 5) 10 ((10 : Int) == 6)) else (impl_fields.j0 (k + 5) 10 ((10 : Int) == 7))))))) = some ⟨#[100, 115, 116]⟩ by simp [impl_fields.j0]]
    simp only [Option.bind_some]
    rw [valid_dst]
    congr 1
    rw [Bool.eq_iff_iff]
    simp [inB, zB, immR]
    first | done | omega
  by_cases c11 : a0_0 = 11
  · subst c11
    rw [show (if (11 : Int) = 1 then (some (⟨#[111, 100, 115]⟩ : ByteArray)) else (if (11 : Int) = 2 then (some (⟨#[111, 100, 105]⟩ : ByteArray)) else (if (11 : Int) = 3 then (impl_fields.j0 (k + 5) 11 ((11 : Int) == 3)) else (if (11 : Int) = 4 then (impl_fields.j0 (k + 5) 11 ((11 : Int) == 4)) else (if (11 : Int) = 6 then (impl_fields.j0 (k + 5) 11 ((11 : Int) == 6)) else (impl_fields.j0 (k + 5) 11 ((11 : Int) == 7))))))) = some ⟨#[]⟩ by simp [impl_fields.j0]]
    simp only [Option.bind_some]
    rw [valid_none]
    congr 1
    rw [Bool.eq_iff_iff]
    simp [inB, zB, immR]
    first | done | omega
  simp only [c1, c2, c3, c4, c5, c6, c7, c8, c9, c10, c11, if_false]
  rw [show impl_fields.j0 (k + 5) a0_0 (a0_0 == 7) = some ⟨#[]⟩ by simp [impl_fields.j0, c1, c2, c3, c4, c5, c6, c7, c8, c9, c10, c11]]
  simp only [Option.bind_some]
  rw [valid_none]
  congr 1
  rw [Bool.eq_iff_iff]
  simp [inB]
  first | done | omega

set_option linter.unusedSimpArgs false
set_option linter.unusedVariables false
theorem rd26_nat (l : List S26) (i : Nat) (h : i < l.length) : rd_T26 l (i : Int) = l[i] := by
  unfold rd_T26
  rw [List.getD_eq_getElem?_getD, show ((i : Int).toNat) = i by omega, List.getElem?_eq_getElem h]
  rfl
theorem eqStep_val (a0 a1 a2 a3 a4 a5 : Int) : laws_eqStep.f a0 a1 a2 a3 a4 a5 a0 a1 a2 a3 a4 a5 = some true := by simp [laws_eqStep.f]
theorem eqStepS_l (l : List S26) (hl : l.length ≤ 4611686018427387904) : ∀ (d i k : Nat), i + d = l.length → d < k → laws_eqStepS.l0 k l l (i : Int) = some true
  | 0, i, k, h1, hk => by
    obtain ⟨k, rfl⟩ : ∃ m, k = m + 1 := ⟨k - 1, by omega⟩
    simp only [laws_eqStepS.l0]
    rw [if_neg (by omega)]
  | d + 1, i, k, h1, hk => by
    obtain ⟨k, rfl⟩ : ∃ m, k = m + 1 := ⟨k - 1, by omega⟩
    simp only [laws_eqStepS.l0, eqStep_val, Option.bind_some]
    rw [if_pos (by omega), if_pos (by omega), if_pos (by omega), if_true, next64 (by omega)]
    exact eqStepS_l l hl d (i + 1) k (by omega) (by omega)
theorem eqStepS_val (l : List S26) (hl : l.length ≤ 4611686018427387904) (k : Nat) (hk : l.length < k) : laws_eqStepS.f k l l = some true := by
  unfold laws_eqStepS.f
  rw [if_pos rfl]
  exact eqStepS_l l hl l.length 0 k (by omega) hk
theorem dropS_at (l : List S26) (i : Nat) (h : i < l.length) : l.drop i = l[i] :: l.drop (i + 1) := List.drop_eq_getElem_cons h

theorem step_to (a0 a1 a2 a3 a4 a5 : Int) (h : stepB a0 a1 a2 a3 a4 a5 = true) : (0 ≤ a5 ∧ a5 ≤ 19) ∧ (0 < a5 ↔ a0 = 8 ∨ a0 = 9 ∨ a0 = 10) := by
  unfold stepB at h
  by_cases c1 : a0 = 1
  · subst c1
    simp [inB, zB] at h
    omega
  by_cases c2 : a0 = 2
  · subst c2
    simp [inB, zB] at h
    omega
  by_cases c3 : a0 = 3
  · subst c3
    simp [inB, zB] at h
    omega
  by_cases c4 : a0 = 4
  · subst c4
    simp [inB, zB] at h
    omega
  by_cases c5 : a0 = 5
  · subst c5
    simp [inB, zB] at h
    omega
  by_cases c6 : a0 = 6
  · subst c6
    simp [inB, zB] at h
    omega
  by_cases c7 : a0 = 7
  · subst c7
    simp [inB, zB] at h
    omega
  by_cases c8 : a0 = 8
  · subst c8
    simp [inB, zB] at h
    omega
  by_cases c9 : a0 = 9
  · subst c9
    simp [inB, zB] at h
    omega
  by_cases c10 : a0 = 10
  · subst c10
    simp [inB, zB] at h
    omega
  by_cases c11 : a0 = 11
  · subst c11
    simp [inB, zB] at h
    omega
  simp [c1, c2, c3, c4, c5, c6, c7, c8, c9, c10, c11] at h
def stepS (x : S26) : Bool := stepB x.f0 x.f1 x.f2 x.f3 x.f4 x.f5
def okFrom (n : Nat) : Nat → List S26 → Bool
  | _, [] => true
  | i, x :: r => stepS x && ((!(decide (0 < x.f5) && decide ((n : Int) ≤ (i : Int) + x.f5 + 1))) && okFrom n (i + 1) r)
def lastB (l : List S26) : Bool := (rd_T26 l ((l.length : Int) - 1)).f0 == 11
def goodP (l : List S26) : Bool := inB (l.length : Int) 1 20 && (lastB l && okFrom l.length 0 l)
theorem specGoodP_l (l : List S26) (hl : l.length ≤ 1048576) : ∀ (d i k : Nat), i + d = l.length → d + 10 < k → spec_GoodProgram.l0 k l l (l.length : Int) (i : Int) = some (okFrom l.length i (l.drop i) && (inB (l.length : Int) 1 20 && lastB l))
  | 0, i, k, h1, hk => by
    obtain ⟨k, rfl⟩ : ∃ m, k = m + 1 := ⟨k - 1, by omega⟩
    simp only [spec_GoodProgram.l0]
    rw [if_neg (by omega), specIn_val, List.drop_of_length_le (by omega), okFrom]
    simp only [Option.bind_some, Bool.true_and]
    cases hin : inB (l.length : Int) 1 20 with
    | false => simp
    | true =>
      simp [inB] at hin
      rw [if_pos rfl, w64 (by omega) (by omega), if_pos (by omega), if_pos (by omega)]
      simp [lastB]
  | d + 1, i, k, h1, hk => by
    obtain ⟨k, rfl⟩ : ∃ m, k = m + 1 := ⟨k - 1, by omega⟩
    simp only [spec_GoodProgram.l0]
    rw [if_pos (by omega), if_pos (by omega), if_pos (by omega), rd26_nat l i (by omega), specStep_val _ _ _ _ _ _ k (by omega), dropS_at l i (by omega), okFrom, show stepB l[i].f0 l[i].f1 l[i].f2 l[i].f3 l[i].f4 l[i].f5 = stepS l[i] from rfl]
    simp only [Option.bind_some]
    cases hs : stepS l[i] with
    | false => simp
    | true =>
      obtain ⟨hr, _⟩ := step_to _ _ _ _ _ _ hs
      rw [if_pos rfl, w64 (x := (i : Int) + l[i].f5) (by omega) (by omega), w64 (by omega) (by omega), next64 (by omega), specGoodP_l l hl d (i + 1) k (by omega) (by omega)]
      by_cases c5 : 0 < l[i].f5
      · rw [if_pos (show l[i].f5 > 0 from c5), decide_eq_true c5]
        by_cases c6 : (l.length : Int) ≤ (i : Int) + l[i].f5 + 1
        · rw [if_pos (show (i : Int) + l[i].f5 + 1 ≥ (l.length : Int) from c6), decide_eq_true c6]
          simp
        · rw [if_neg (show ¬ (i : Int) + l[i].f5 + 1 ≥ (l.length : Int) from c6), decide_eq_false c6]
          simp
      · rw [if_neg (show ¬ l[i].f5 > 0 from c5), decide_eq_false c5]
        simp
theorem specGoodP_val (l : List S26) (hl : l.length ≤ 1048576) (k : Nat) (hk : l.length + 10 < k) : spec_GoodProgram.f k l = some (goodP l) := by
  unfold spec_GoodProgram.f goodP
  have := specGoodP_l l hl l.length 0 k (by omega) (by omega)
  rw [show ((0 : Nat) : Int) = 0 from rfl] at this
  rw [this, List.drop_zero]
  cases okFrom l.length 0 l <;> cases inB (l.length : Int) 1 20 <;> cases lastB l <;> rfl
theorem implGoodP_l (l : List S26) (hl : l.length ≤ 1048576) : ∀ (d i k : Nat), i + d = l.length → d + 20 < k → impl_GoodProgram.l0 k l l (l.length : Int) (i : Int) = some (okFrom l.length i (l.drop i))
  | 0, i, k, h1, hk => by
    obtain ⟨k, rfl⟩ : ∃ m, k = m + 1 := ⟨k - 1, by omega⟩
    simp only [impl_GoodProgram.l0]
    rw [if_neg (by omega), List.drop_of_length_le (by omega), okFrom]
  | d + 1, i, k, h1, hk => by
    obtain ⟨k, rfl⟩ : ∃ m, k = m + 1 := ⟨k - 1, by omega⟩
    simp only [impl_GoodProgram.l0]
    rw [if_pos (by omega), if_pos (by omega), if_pos (by omega), rd26_nat l i (by omega), implStep_val _ _ _ _ _ _ k (by omega), dropS_at l i (by omega), okFrom, show stepB l[i].f0 l[i].f1 l[i].f2 l[i].f3 l[i].f4 l[i].f5 = stepS l[i] from rfl]
    simp only [Option.bind_some]
    cases hs : stepS l[i] with
    | false => simp
    | true =>
      obtain ⟨hr, hj⟩ := step_to _ _ _ _ _ _ hs
      have hjm : impl_Step_jumps.f l[i].f0 l[i].f1 l[i].f2 l[i].f3 l[i].f4 l[i].f5 = some (decide (0 < l[i].f5)) := by
        unfold impl_Step_jumps.f
        by_cases c8 : l[i].f0 = 8
        · rw [if_pos c8, decide_eq_true (hj.2 (Or.inl c8))]
        · rw [if_neg c8]
          by_cases c9 : l[i].f0 = 9
          · rw [if_pos c9, decide_eq_true (hj.2 (Or.inr (Or.inl c9)))]
          · rw [if_neg c9]
            by_cases c10 : l[i].f0 = 10
            · rw [decide_eq_true (hj.2 (Or.inr (Or.inr c10)))]
              simp [c10]
            · rw [decide_eq_false (fun h => by rcases hj.1 h with h | h | h <;> contradiction)]
              simp [c10]
      rw [if_pos rfl, hjm, w64 (x := (i : Int) + l[i].f5) (by omega) (by omega), w64 (by omega) (by omega), next64 (by omega), implGoodP_l l hl d (i + 1) k (by omega) (by omega)]
      simp only [Option.bind_some]
      by_cases c5 : 0 < l[i].f5
      · rw [decide_eq_true c5, if_pos rfl]
        by_cases c6 : (l.length : Int) ≤ (i : Int) + l[i].f5 + 1
        · rw [if_pos (show (i : Int) + l[i].f5 + 1 ≥ (l.length : Int) from c6), decide_eq_true c6]
          simp
        · rw [if_neg (show ¬ (i : Int) + l[i].f5 + 1 ≥ (l.length : Int) from c6), decide_eq_false c6]
          simp
      · rw [decide_eq_false c5]
        simp
theorem implGoodP_val (l : List S26) (hl : l.length ≤ 1048576) (k : Nat) (hk : l.length + 30 < k) : impl_GoodProgram.f k l = some (goodP l) := by
  obtain ⟨k, rfl⟩ : ∃ m, k = m + 1 := ⟨k - 1, by omega⟩
  unfold impl_GoodProgram.f goodP
  rw [implIn_val]
  simp only [Option.bind_some]
  cases hin : inB (l.length : Int) 1 20 with
  | false => simp [impl_GoodProgram.j0]
  | true =>
    simp [inB] at hin
    rw [if_pos rfl, w64 (by omega) (by omega), if_pos (by omega), if_pos (by omega), show ((rd_T26 l ((l.length : Int) - 1)).f0 != 11) = !(lastB l) from rfl]
    cases lastB l with
    | false => simp [impl_GoodProgram.j0]
    | true =>
      have := implGoodP_l l hl l.length 0 k (by omega) (by omega)
      rw [show ((0 : Nat) : Int) = 0 from rfl, List.drop_zero] at this
      simp [impl_GoodProgram.j0, this]

def stepNums (a0_0 a0_1 a0_2 a0_3 a0_4 a0_5 : Int) : List Int := [(wrap64 (a0_0 + (wrap64 (16 * a0_1)))) % 256, (wrap64 ((wrap64 (16 * a0_2)) + a0_3)) % 256, (a0_5) % 256, (Int.tmod a0_4 256) % 256] ++ (if a0_0 = 4 then [0, 0, 0, (wrap64 (Int.tdiv a0_4 256)) % 256] else [])
theorem specBytes_val (a0_0 a0_1 a0_2 a0_3 a0_4 a0_5 : Int) : spec_l2Bytes.f a0_0 a0_1 a0_2 a0_3 a0_4 a0_5 = some (strOfNums (stepNums a0_0 a0_1 a0_2 a0_3 a0_4 a0_5)) := by
  unfold spec_l2Bytes.f stepNums
  simp only [Option.bind_some]
  by_cases h : a0_0 = 4
  · rw [if_pos h, if_pos h, if_pos (by simp)]
  · rw [if_neg h, if_neg h, List.append_nil]
theorem implBytes_val (a0_0 a0_1 a0_2 a0_3 a0_4 a0_5 : Int) : impl_Step_bytes.f a0_0 a0_1 a0_2 a0_3 a0_4 a0_5 = some (stepNums a0_0 a0_1 a0_2 a0_3 a0_4 a0_5) := by
  unfold impl_Step_bytes.f stepNums
  simp only [Option.bind_some]
  by_cases h : a0_0 = 4
  · rw [if_pos h, if_pos h, if_pos (by simp)]
  · rw [if_neg h, if_neg h, List.append_nil]
theorem stepNums_length (a0_0 a0_1 a0_2 a0_3 a0_4 a0_5 : Int) : (stepNums a0_0 a0_1 a0_2 a0_3 a0_4 a0_5).length ≤ 8 := by
  unfold stepNums
  split <;> simp

def numsS (x : S26) : List Int := stepNums x.f0 x.f1 x.f2 x.f3 x.f4 x.f5
def rB (a : ByteArray) (x i : Nat) : Int := bt a ((x + i : Nat) : Int)
def rSt (a : ByteArray) (x long : Nat) : S26 := ⟨rB a x 0 % 16, rB a x 0 / 16, rB a x 1 / 16, rB a x 1 % 16, if long = 8 then rB a x 3 + 256 * rB a x 7 else rB a x 3, rB a x 2⟩
def rLong (a : ByteArray) (x : Nat) : Nat := if rB a x 0 % 16 = 4 then 8 else 4
def rpF : Nat → ByteArray → List S26 → Nat → List S26 × Int × Bool
  | 0, _, _, _ => ([], 0, false)
  | f + 1, a, p, x => if x < a.size then (if a.size - x < rLong a x then ([], 1, false) else (if stepS (rSt a x (rLong a x)) = true then (if (strOfNums (numsS (rSt a x (rLong a x)))).toList = (a.extract x (x + rLong a x)).toList then rpF f a (p ++ [rSt a x (rLong a x)]) (x + rLong a x) else ([], 2, false)) else ([], 2, false))) else (if goodP p = true then (p, 0, true) else ([], 3, false))
theorem rLong_cases (a : ByteArray) (x : Nat) : rLong a x = 4 ∨ rLong a x = 8 := by
  unfold rLong
  split <;> simp
theorem rpF_length : ∀ (f : Nat) (a : ByteArray) (p : List S26) (x : Nat), (rpF f a p x).1.length ≤ p.length + f
  | 0, a, p, x => by simp [rpF]
  | f + 1, a, p, x => by
    unfold rpF
    split
    · split
      · simp
      · split
        · split
          · have := rpF_length f a (p ++ [rSt a x (rLong a x)]) (x + rLong a x)
            rw [List.length_append] at this
            simp at this
            omega
          · simp
        · simp
    · split
      · simp
      · simp
theorem rB_range (a : ByteArray) (x i : Nat) : 0 ≤ rB a x i ∧ rB a x i ≤ 255 := bt_range a _
theorem tm_ (b : Int) (h : 0 ≤ b ∧ b ≤ 255) : Int.tmod b 16 = b % 16 := Int.tmod_eq_emod_of_nonneg h.1
theorem td_ (b : Int) (h : 0 ≤ b ∧ b ≤ 255) : Int.tdiv b 16 = b / 16 := Int.tdiv_eq_ediv_of_nonneg h.1
theorem specRP_l (a : ByteArray) (ha : a.size ≤ 160) : ∀ (f x k : Nat) (p : List S26), x ≤ a.size → a.size - x < 4 * f → p.length ≤ x → 2 * f + 1048700 ≤ k → spec_ReadProgram.l0 k a p (x : Int) = some (rpF f a p x)
  | 0, x, k, p, h1, h2, h3, hk => by omega
  | f + 1, x, k, p, h1, h2, h3, hk => by
    obtain ⟨k, rfl⟩ : ∃ m, k = m + 2 := ⟨k - 2, by omega⟩
    simp only [spec_ReadProgram.l0]
    unfold rpF
    by_cases c1 : x < a.size
    · have r0 := rB_range a x 0
      have r1 := rB_range a x 1
      have r2 := rB_range a x 2
      have r3 := rB_range a x 3
      have r7 := rB_range a x 7
      rw [if_pos (by omega), if_pos c1, w64 (x := (a.size : Int) - (x : Int)) (by omega) (by omega), show wrap64 ((x : Int) + 1) = ((x + 1 : Nat) : Int) by rw [w64 (by omega) (by omega)]; omega, show wrap64 ((x : Int) + 2) = ((x + 2 : Nat) : Int) by rw [w64 (by omega) (by omega)]; omega, show wrap64 ((x : Int) + 3) = ((x + 3 : Nat) : Int) by rw [w64 (by omega) (by omega)]; omega, show wrap64 ((x : Int) + 7) = ((x + 7 : Nat) : Int) by rw [w64 (by omega) (by omega)]; omega, show bt a (x : Int) = rB a x 0 from rfl, show bt a ((x + 1 : Nat) : Int) = rB a x 1 from rfl, show bt a ((x + 2 : Nat) : Int) = rB a x 2 from rfl, show bt a ((x + 3 : Nat) : Int) = rB a x 3 from rfl, show bt a ((x + 7 : Nat) : Int) = rB a x 7 from rfl]
      rw [w64 (x := rB a x 0) (by omega) (by omega), w64 (x := rB a x 1) (by omega) (by omega), w64 (x := rB a x 2) (by omega) (by omega), w64 (x := rB a x 3) (by omega) (by omega), w64 (x := rB a x 7) (by omega) (by omega), tm_ _ r0, tm_ _ r1, td_ _ r0, td_ _ r1, w64 (x := rB a x 0 / 16) (by omega) (by omega), w64 (x := rB a x 1 / 16) (by omega) (by omega), w64 (x := 256 * rB a x 7) (by omega) (by omega), w64 (x := rB a x 3 + 256 * rB a x 7) (by omega) (by omega)]
      have hj : ∀ (g : Nat), rLong a x = g → ¬ a.size - x < g → spec_ReadProgram.j1 (k + 1) a p (x : Int) (g : Int) (rB a x 0 % 16) (rB a x 0 / 16) (rB a x 1 / 16) (rB a x 1 % 16) (if g = 8 then rB a x 3 + 256 * rB a x 7 else rB a x 3) (rB a x 2) = some (if stepS (rSt a x (rLong a x)) = true then (if (strOfNums (numsS (rSt a x (rLong a x)))).toList = (a.extract x (x + rLong a x)).toList then rpF f a (p ++ [rSt a x (rLong a x)]) (x + rLong a x) else ([], 2, false)) else ([], 2, false)) := by
        intro g hg hs
        have hg48 := rLong_cases a x
        rw [hg] at hg48 ⊢
        have e : wrap64 ((x : Int) + (g : Int)) = ((x + g : Nat) : Int) := by rw [w64 (by omega) (by omega)]; omega
        simp only [spec_ReadProgram.j1]
        rw [specStep_val _ _ _ _ _ _ k (by omega), specBytes_val, show stepB (rB a x 0 % 16) (rB a x 0 / 16) (rB a x 1 / 16) (rB a x 1 % 16) (if g = 8 then rB a x 3 + 256 * rB a x 7 else rB a x 3) (rB a x 2) = stepS (rSt a x g) from rfl, show stepNums (rB a x 0 % 16) (rB a x 0 / 16) (rB a x 1 / 16) (rB a x 1 % 16) (if g = 8 then rB a x 3 + 256 * rB a x 7 else rB a x 3) (rB a x 2) = numsS (rSt a x g) from rfl, e]
        simp only [Option.bind_some]
        clear e
        rw [Int.toNat_natCast, Int.toNat_natCast]
        generalize (strOfNums (numsS (rSt a x g))).toList = T1
        generalize (a.extract x (x + g)).toList = T2
        rw [if_pos (show (0 : Int) ≤ (x : Int) by omega), if_pos (show (x : Int) ≤ ((x + g : Nat) : Int) by omega), if_pos (show ((x + g : Nat) : Int) ≤ (a.size : Int) by omega), if_pos (show p.length < 2932031007402 by omega), specRP_l a ha f (x + g) k _ (by omega) (by omega) (by rw [List.length_append]; simp; omega) (by omega)]
        cases stepS (rSt a x g) with
        | false => simp
        | true =>
          rw [if_pos rfl, if_pos rfl]
          by_cases ct : T1 = T2
          · rw [if_pos ct, if_pos ct]
            rfl
          · rw [if_neg ct, if_neg ct]
      by_cases c4 : a.size - x < 4
      · rw [if_pos (by omega), if_pos (by have := rLong_cases a x; omega)]
      · rw [if_neg (by omega), if_pos (by omega), if_pos (by omega), if_pos (by omega), if_pos (by omega), if_pos (by omega), if_pos (by omega), if_pos (by omega)]
        by_cases c8 : rB a x 0 % 16 = 4
        · have hl : rLong a x = 8 := by unfold rLong; rw [if_pos c8]
          rw [if_pos c8, hl]
          by_cases c9 : a.size - x < 8
          · rw [if_pos (by omega), if_pos c9]
          · have := hj 8 hl c9
            rw [if_pos rfl, hl] at this
            rw [if_neg (by omega), if_neg c9, if_pos (by omega), if_pos (by omega)]
            exact this
        · have hl : rLong a x = 4 := by unfold rLong; rw [if_neg c8]
          have := hj 4 hl c4
          rw [if_neg (by decide), hl] at this
          rw [if_neg c8, hl, if_neg c4]
          exact this
    · rw [if_neg (by omega), if_neg c1, specGoodP_val p (by omega) (k + 1) (by omega)]
      simp only [Option.bind_some]
      cases goodP p <;> rfl
theorem ext_bt (a : ByteArray) (x i : Nat) : bt (a.extract x a.size) (i : Int) = rB a x i := by
  unfold rB bt
  simp only [Int.toNat_natCast]
  by_cases h : i < (a.extract x a.size).size
  · have h' := h
    rw [ByteArray.size_extract] at h'
    rw [dif_pos h, dif_pos (by omega), ByteArray.getElem_extract]
  · have h' := h
    rw [ByteArray.size_extract] at h'
    rw [dif_neg h, dif_neg (by omega)]
theorem data_nil (s : ByteArray) : s.data.toList = [] ↔ s.size = 0 := by
  constructor
  · intro h
    show s.data.size = 0
    rw [← Array.length_toList, h]
    rfl
  · intro h
    exact List.eq_nil_of_length_eq_zero (by rw [Array.length_toList]; exact h)
theorem implRP_l (a : ByteArray) (ha : a.size ≤ 160) : ∀ (f x k : Nat) (p : List S26), x ≤ a.size → a.size - x < 4 * f → p.length ≤ x → 3 * f + 1048700 ≤ k → impl_ReadProgram.l0 k (a.extract x a.size) p = some (rpF f a p x)
  | 0, x, k, p, h1, h2, h3, hk => by omega
  | f + 1, x, k, p, h1, h2, h3, hk => by
    obtain ⟨k, rfl⟩ : ∃ m, k = m + 3 := ⟨k - 3, by omega⟩
    have hsz : (a.extract x a.size).size = a.size - x := by rw [ByteArray.size_extract]; omega
    have hnil : (a.extract x a.size).toList = ([] : List UInt8) ↔ a.size - x = 0 := by
      rw [Go.Lib.toList_data, ← hsz]
      exact data_nil _
    simp only [impl_ReadProgram.l0]
    unfold rpF
    by_cases c1 : x < a.size
    · have r0 := rB_range a x 0
      have r1 := rB_range a x 1
      have r2 := rB_range a x 2
      have r3 := rB_range a x 3
      have r7 := rB_range a x 7
      have b0 : bt (a.extract x a.size) 0 = rB a x 0 := ext_bt a x 0
      have b1 : bt (a.extract x a.size) 1 = rB a x 1 := ext_bt a x 1
      have b2 : bt (a.extract x a.size) 2 = rB a x 2 := ext_bt a x 2
      have b3 : bt (a.extract x a.size) 3 = rB a x 3 := ext_bt a x 3
      have b7 : bt (a.extract x a.size) 7 = rB a x 7 := ext_bt a x 7
      rw [if_neg (by rw [hnil]; omega), if_pos c1, hsz, if_pos (by omega), b0, tm_ _ r0]
      have hj : ∀ (g : Nat), rLong a x = g → impl_ReadProgram.j1 (k + 2) (a.extract x a.size) p (g : Int) = some (if a.size - x < rLong a x then ([], 1, false) else (if stepS (rSt a x (rLong a x)) = true then (if (strOfNums (numsS (rSt a x (rLong a x)))).toList = (a.extract x (x + rLong a x)).toList then rpF f a (p ++ [rSt a x (rLong a x)]) (x + rLong a x) else ([], 2, false)) else ([], 2, false))) := by
        intro g hg
        have hg48 := rLong_cases a x
        rw [hg] at hg48 ⊢
        have hj2 : ¬ a.size - x < g → impl_ReadProgram.j2 (k + 1) (a.extract x a.size) p (g : Int) (rB a x 0 % 16) (rB a x 0 / 16) (rB a x 1 / 16) (rB a x 1 % 16) (if g = 8 then rB a x 3 + 256 * rB a x 7 else rB a x 3) (rB a x 2) = some (if stepS (rSt a x g) = true then (if (strOfNums (numsS (rSt a x g))).toList = (a.extract x (x + g)).toList then rpF f a (p ++ [rSt a x g]) (x + g) else ([], 2, false)) else ([], 2, false)) := by
          intro hs
          simp only [impl_ReadProgram.j2]
          rw [implStep_val _ _ _ _ _ _ k (by omega), implBytes_val, show stepB (rB a x 0 % 16) (rB a x 0 / 16) (rB a x 1 / 16) (rB a x 1 % 16) (if g = 8 then rB a x 3 + 256 * rB a x 7 else rB a x 3) (rB a x 2) = stepS (rSt a x g) from rfl, show stepNums (rB a x 0 % 16) (rB a x 0 / 16) (rB a x 1 / 16) (rB a x 1 % 16) (if g = 8 then rB a x 3 + 256 * rB a x 7 else rB a x 3) (rB a x 2) = numsS (rSt a x g) from rfl]
          simp only [Option.bind_some]
          rw [hsz, Int.toNat_natCast, ByteArray.extract_extract, ByteArray.extract_extract, show min (x + g) a.size = x + g by omega, show min (x + (a.size - x)) a.size = a.size by omega, Nat.add_zero]
          generalize (strOfNums (numsS (rSt a x g))).toList = T1
          generalize (a.extract x (x + g)).toList = T2
          rw [if_pos (show (0 : Int) ≤ (g : Int) by omega), if_pos (show (g : Int) ≤ ((a.size - x : Nat) : Int) by omega), if_pos (show p.length < 2932031007402 by omega), implRP_l a ha f (x + g) k _ (by omega) (by omega) (by rw [List.length_append]; simp; omega) (by omega)]
          cases stepS (rSt a x g) with
          | false => simp
          | true =>
            rw [if_pos rfl, if_pos rfl]
            by_cases ct : T1 = T2
            · rw [if_pos ct, if_pos ct]
              rfl
            · rw [if_neg ct, if_neg ct]
        simp only [impl_ReadProgram.j1]
        rw [hsz, b0, b1, b2, b3, b7, tm_ _ r0, tm_ _ r1, td_ _ r0, td_ _ r1, w64 (x := rB a x 0 % 16) (by omega) (by omega), w64 (x := rB a x 1 % 16) (by omega) (by omega), w64 (x := rB a x 2) (by omega) (by omega), w64 (x := rB a x 3) (by omega) (by omega), w64 (x := rB a x 7) (by omega) (by omega), w64 (x := 256 * rB a x 7) (by omega) (by omega), w64 (x := rB a x 3 + 256 * rB a x 7) (by omega) (by omega), show rB a x 0 / 16 % 256 = rB a x 0 / 16 by omega, show rB a x 1 / 16 % 256 = rB a x 1 / 16 by omega, w64 (x := rB a x 0 / 16) (by omega) (by omega), w64 (x := rB a x 1 / 16) (by omega) (by omega)]
        by_cases c4 : a.size - x < g
        · rw [if_pos (by omega), if_pos c4]
        · have h2 := hj2 c4
          rw [if_neg (by omega), if_neg c4, if_pos (by omega), if_pos (by omega), if_pos (by omega), if_pos (by omega)]
          by_cases c8 : g = 8
          · rw [if_pos c8] at h2
            rw [if_pos (by omega), if_pos (by omega)]
            exact h2
          · rw [if_neg c8] at h2
            rw [if_neg (by omega)]
            exact h2
      by_cases c8 : rB a x 0 % 16 = 4
      · rw [if_pos c8]
        exact hj 8 (by unfold rLong; rw [if_pos c8])
      · rw [if_neg c8]
        exact hj 4 (by unfold rLong; rw [if_neg c8])
    · rw [if_pos (by rw [hnil]; omega), if_neg c1, implGoodP_val p (by omega) (k + 2) (by omega)]
      simp only [Option.bind_some]
      cases goodP p <;> rfl
def rpR (a : ByteArray) : List S26 × Int × Bool := if a.size > 160 then ([], 0, false) else rpF 41 a [] 0
theorem specRP_val (a : ByteArray) (k : Nat) (hk : 1049000 ≤ k) : spec_ReadProgram.f k a = some (rpR a) := by
  unfold spec_ReadProgram.f rpR
  by_cases h : a.size > 160
  · rw [if_pos (by omega), if_pos h]
  · rw [if_neg (by omega), if_neg h]
    exact specRP_l a (by omega) 41 0 k [] (by omega) (by omega) (by simp) (by omega)
theorem implRP_val (a : ByteArray) (k : Nat) (hk : 1049000 ≤ k) : impl_ReadProgram.f k a = some (rpR a) := by
  unfold impl_ReadProgram.f rpR
  by_cases h : a.size > 160
  · rw [if_pos (by omega), if_pos h]
  · rw [if_neg (by omega), if_neg h]
    have := implRP_l a (by omega) 41 0 k [] (by omega) (by omega) (by simp) (by omega)
    rw [ByteArray.extract_zero_size] at this
    exact this
theorem rpR_length (a : ByteArray) : (rpR a).1.length ≤ 41 := by
  unfold rpR
  split
  · simp
  · have := rpF_length 41 a [] 0
    simpa using this

def mS (a : Int) (j : Nat) : S26 := ⟨a + 6 * (j : Int), a + 6 * (j : Int) + 1, a + 6 * (j : Int) + 2, a + 6 * (j : Int) + 3, a + 6 * (j : Int) + 4, a + 6 * (j : Int) + 5⟩
theorem set6_ (y : List S26) (i : Nat) (h : i < y.length) (v : S26) : rd_T26 (y.set i v) (i : Int) = v := by
  rw [rd26_nat _ i (by rw [List.length_set]; exact h), List.getElem_set_self]
theorem markStepX_l (a : Int) (ha : 0 ≤ a) (ha2 : a ≤ 4398046511104) : ∀ (d i : Nat) (y : List S26) (k : Nat), i + d = y.length → y.length ≤ 1048576 → (∀ j (hj : j < y.length), j < i → y[j] = mS a j) → d < k →
    ∃ z : List S26, laws_markStepS.l0 k y (a + 6 * (i : Int)) (i : Int) = some (a + 6 * (y.length : Int), z) ∧ z.length = y.length ∧ ∀ j (hj : j < z.length), z[j] = mS a j
  | 0, i, y, k, h1, h2, h3, hk => by
    obtain ⟨k, rfl⟩ : ∃ m, k = m + 1 := ⟨k - 1, by omega⟩
    simp only [laws_markStepS.l0]
    rw [if_neg (by omega)]
    exact ⟨y, by rw [show (i : Int) = (y.length : Int) by omega], rfl, fun j hj => h3 j hj (by omega)⟩
  | d + 1, i, y, k, h1, h2, h3, hk => by
    obtain ⟨k, rfl⟩ : ∃ m, k = m + 1 := ⟨k - 1, by omega⟩
    have hi : i < y.length := by omega
    simp only [laws_markStepS.l0, Option.bind_some]
    rw [if_pos (by omega), if_pos (by omega), next64 (by omega)]
    generalize hb : a + 6 * (i : Int) = b
    rw [w64 (x := b + 1) (by omega) (by omega), w64 (x := b + 1 + 1) (by omega) (by omega), w64 (x := b + 1 + 1 + 1) (by omega) (by omega), w64 (x := b + 1 + 1 + 1 + 1) (by omega) (by omega), w64 (x := b + 1 + 1 + 1 + 1 + 1) (by omega) (by omega), w64 (x := b + 1 + 1 + 1 + 1 + 1 + 1) (by omega) (by omega)]
    simp only [show ((i : Int).toNat) = i by omega]
    have key : ∀ yy : List S26, yy = y.set i (mS a i) → ∃ z : List S26, laws_markStepS.l0 k yy (b + 1 + 1 + 1 + 1 + 1 + 1) ((i + 1 : Nat) : Int) = some (a + 6 * (y.length : Int), z) ∧ z.length = y.length ∧ ∀ j (hj : j < z.length), z[j] = mS a j := by
      intro yy hy
      have hl : yy.length = y.length := by rw [hy, List.length_set]
      obtain ⟨z, hz, hzl, hze⟩ := markStepX_l a ha ha2 d (i + 1) yy k (by omega) (by omega) (fun j hj hji => by
        simp only [hy, List.getElem_set]
        by_cases e : i = j
        · rw [if_pos e, e]
        · rw [if_neg e]
          exact h3 j (by omega) (by omega)) (by omega)
      rw [show b + 1 + 1 + 1 + 1 + 1 + 1 = a + 6 * ((i + 1 : Nat) : Int) by omega, hz, hl]
      exact ⟨z, rfl, by omega, hze⟩
    refine key _ ?_
    have hset : ∀ v : S26, rd_T26 (y.set i v) (i : Int) = v := fun v => set6_ y i hi v
    simp only [hset, List.set_set]
    unfold mS
    rw [hb]
    congr 2 <;> omega
theorem heldStepS_l (a : Int) (ha : 0 ≤ a) (ha2 : a ≤ 4398046511104) (z : List S26) (hl : z.length ≤ 1048576) (hz : ∀ j (hj : j < z.length), z[j] = mS a j) : ∀ (d i k : Nat), i + d = z.length → d < k → laws_heldStepS.l0 k z (a + 6 * (i : Int)) (i : Int) = some (a + 6 * (z.length : Int))
  | 0, i, k, h1, hk => by
    obtain ⟨k, rfl⟩ : ∃ m, k = m + 1 := ⟨k - 1, by omega⟩
    simp only [laws_heldStepS.l0]
    rw [if_neg (by omega), show (i : Int) = (z.length : Int) by omega]
  | d + 1, i, k, h1, hk => by
    obtain ⟨k, rfl⟩ : ∃ m, k = m + 1 := ⟨k - 1, by omega⟩
    simp only [laws_heldStepS.l0]
    rw [if_pos (by omega), if_pos (by omega), rd26_nat z i (by omega), hz i (by omega), next64 (by omega)]
    generalize hb : a + 6 * (i : Int) = b
    unfold mS
    rw [hb, w64 (x := b + 1) (by omega) (by omega), w64 (x := b + 1 + 1) (by omega) (by omega), w64 (x := b + 1 + 1 + 1) (by omega) (by omega), w64 (x := b + 1 + 1 + 1 + 1) (by omega) (by omega), w64 (x := b + 1 + 1 + 1 + 1 + 1) (by omega) (by omega), w64 (x := b + 1 + 1 + 1 + 1 + 1 + 1) (by omega) (by omega)]
    dsimp only
    rw [if_pos rfl, if_pos rfl, if_pos (by omega), if_pos (by omega), if_pos (by omega), if_pos (by omega), show b + 1 + 1 + 1 + 1 + 1 + 1 = a + 6 * ((i + 1 : Nat) : Int) by omega]
    exact heldStepS_l a ha ha2 z hl hz d (i + 1) k (by omega) (by omega)
def markSS (a : Int) (n : Nat) : List S26 := (List.range n).map fun (j : Nat) => mS a j
theorem markStepX_val (y : List S26) (a : Int) (ha : 0 ≤ a) (ha2 : a ≤ 4398046511104) (hl : y.length ≤ 1048576) (k : Nat) (hk : y.length < k) :
    laws_markStepS.f k y a = some (a + 6 * (y.length : Int), markSS a y.length) := by
  obtain ⟨z, h1, h2, h3⟩ := markStepX_l a ha ha2 y.length 0 y k (by omega) hl (fun j _ hj => absurd hj (by omega)) hk
  have hz : z = markSS a y.length := by
    apply List.ext_getElem (by rw [h2]; simp [markSS])
    intro j hj1 hj2
    rw [h3 j hj1]
    simp [markSS]
  rw [← hz]
  unfold laws_markStepS.f
  simpa using h1
theorem heldStepS_val (n : Nat) (a : Int) (ha : 0 ≤ a) (ha2 : a ≤ 4398046511104) (hn : n ≤ 1048576) (k : Nat) (hk : n < k) : laws_heldStepS.f k (markSS a n) a = some (a + 6 * (n : Int)) := by
  have hl : (markSS a n).length = n := by simp [markSS]
  have := heldStepS_l a ha ha2 (markSS a n) (by omega) (fun j hj => by simp [markSS]) n 0 k (by omega) hk
  rw [hl] at this
  unfold laws_heldStepS.f
  simpa using this

theorem FnExactReadProgram : laws_FnExactReadProgram.Pure := by
  intro a0 _
  obtain ⟨k, hk⟩ : ∃ k : Nat, 9000000 ≤ k := ⟨_, Nat.le_refl _⟩
  refine ⟨k, ?_⟩
  unfold laws_FnExactReadProgram.f
  by_cases hn : (a0.size : Int) > 1048576
  · rw [if_pos hn]
  · rw [if_neg hn]
    have hs : ∀ q, 9000000 ≤ q → spec_ReadProgram.f q a0 = some (rpR a0) := fun q hq => specRP_val a0 q (by omega)
    have him : ∀ q, 9000000 ≤ q → impl_ReadProgram.f q a0 = some (rpR a0) := fun q hq => implRP_val a0 q (by omega)
    have hbd := rpR_length a0
    obtain ⟨r, hre⟩ : ∃ r, r = rpR a0 := ⟨_, rfl⟩
    rw [← hre] at hs him hbd
    obtain ⟨r1, r2, r3⟩ := r
    replace hbd : r1.length ≤ 41 := hbd
    have hE : ∀ q, 9000000 ≤ q → laws_eqStepS.f q r1 r1 = some true := fun q hq => eqStepS_val r1 (by omega) q (by omega)
    have hM : ∀ q, 9000000 ≤ q → laws_markStepS.f q r1 1 = some (1 + 6 * (r1.length : Int), markSS 1 r1.length) := fun q hq => markStepX_val r1 1 (by omega) (by omega) (by omega) q (by omega)
    have hH : ∀ q, 9000000 ≤ q → laws_heldStepS.f q (markSS 1 r1.length) 1 = some (1 + 6 * (r1.length : Int)) := fun q hq => heldStepS_val r1.length 1 (by omega) (by omega) (by omega) q (by omega)
    have n1 : ¬ (1 + 6 * (r1.length : Int) < 0) := by omega
    repeat (first
      | (rw [hs _ (by omega)]; simp only [Option.bind_some])
      | (rw [him _ (by omega)]; simp only [Option.bind_some])
      | (rw [hE _ (by omega)]; simp only [Option.bind_some])
      | (rw [hM _ (by omega)]; simp only [Option.bind_some])
      | (rw [hH _ (by omega)]; simp only [Option.bind_some])
      | rw [if_neg n1]
      | rw [if_pos rfl]
      | rw [bne_self_eq_false]
      | rw [if_neg Bool.false_ne_true]
      | simp only [Option.bind_some])
    try simp

end Go.Proofs.Ytjopmdogdmdanaa.Pure
