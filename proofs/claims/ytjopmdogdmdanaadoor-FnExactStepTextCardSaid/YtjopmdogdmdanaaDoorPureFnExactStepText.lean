/- The pure statement of the law FnExactStepText: the printed functions of the program and of the reference give the same answers, at every input that the statement's guards let in. -/
import Derived.Test.YtjopmdogdmdanaaDoorPFnExactStepTextx6
namespace Go.Proofs.YtjopmdogdmdanaaDoor.Pure
open Go.RowKit Go.Proofs.YtjopmdogdmdanaaDoor.PFnExactStepText Go.Proofs.YtjopmdogdmdanaaDoorW.PrintWords Go.Proofs.YtjopmdogdmdanaaDoorW.PrintLast Go.Proofs.YtjopmdogdmdanaaDoorW.PrintMore
theorem w64 {x : Int} (h0 : -9223372036854775808 ≤ x) (h1 : x ≤ 9223372036854775807) : wrap64 x = x := by
  unfold wrap64
  omega
theorem next64 {i : Nat} (h : i ≤ 4611686018427387904) : wrap64 ((i : Int) + 1) = ((i + 1 : Nat) : Int) := by
  rw [w64 (by omega) (by omega)]
  omega

theorem one_digit (u : Nat) (h : u < 10) : strOfNums [(wrap64 (48 + (u : Int))) % 256] = ⟨[UInt8.ofNat (48 + u)].toArray⟩ := by
  rw [w64 (by omega) (by omega), show (48 + (u : Int)) % 256 = ((48 + u : Nat) : Int) by omega]
  rfl
theorem dec_len (u : Nat) : (Lib.decDigits u).length ≤ u + 1 := by
  induction u using Nat.strongRecOn with
  | _ u ih =>
    rw [Lib.decDigits]
    split
    · simp
    · have := ih (u / 10) (by omega)
      rw [List.length_append, List.length_singleton]
      omega
theorem num_val : ∀ (k u : Nat), u < k → u ≤ 100000 → spec_l1Num.f k (u : Int) = some ⟨(Lib.decDigits u).toArray⟩
  | 0, u, h, _ => by omega
  | k + 1, u, h, hu => by
    rw [spec_l1Num.f, Lib.decDigits]
    by_cases c : u < 10
    · rw [if_pos (by omega), dif_pos c, one_digit u c]
    · rw [if_neg (by omega), dif_neg c, show wrap64 (Int.tdiv (u : Int) 10) = ((u / 10 : Nat) : Int) by rw [Int.tdiv_eq_ediv_of_nonneg (by omega), w64 (by omega) (by omega)]; omega, show Int.tmod (u : Int) 10 = ((u % 10 : Nat) : Int) by rw [Int.tmod_eq_emod_of_nonneg (by omega)]; omega, num_val k (u / 10) (by omega) (by omega)]
      simp only [Option.bind_some]
      rw [one_digit _ (by omega)]
      have hl := dec_len (u / 10)
      have e : (⟨(Lib.decDigits (u / 10)).toArray⟩ : ByteArray).size = (Lib.decDigits (u / 10)).length := by simp [ByteArray.size]
      rw [e, show (⟨[UInt8.ofNat (48 + u % 10)].toArray⟩ : ByteArray).size = 1 from rfl, if_pos (by omega)]
      apply congrArg some
      apply ByteArray.ext
      simp

set_option linter.unusedSimpArgs false
set_option linter.unusedVariables false
def inB (a lo hi : Int) : Bool := decide (lo ≤ a) && decide (a ≤ hi)
theorem specIn_val (a lo hi : Int) : spec_l1In.f a lo hi = some (inB a lo hi) := by
  unfold spec_l1In.f inB
  by_cases h : lo ≤ a
  · rw [if_pos (by omega)]
    simp [h]
  · rw [if_neg (by omega)]
    simp [h]
theorem implIn_val (a lo hi : Int) : impl_in.f a lo hi = some (inB a lo hi) := by
  unfold impl_in.f inB
  by_cases h : lo ≤ a
  · rw [if_pos (by omega)]
    simp [h]
  · rw [if_neg (by omega)]
    simp [h]
def zB (a1 a2 a3 a4 a5 : Int) (f1 f2 f3 f4 f5 : Bool) : Bool := (f1 || a1 == 0) && ((f2 || a2 == 0) && ((f3 || a3 == 0) && ((f4 || a4 == 0) && (f5 || a5 == 0))))
theorem specZero_val (a0 a1 a2 a3 a4 a5 : Int) (f1 f2 f3 f4 f5 : Bool) : spec_l2Zero.f a0 a1 a2 a3 a4 a5 f1 f2 f3 f4 f5 = some (zB a1 a2 a3 a4 a5 f1 f2 f3 f4 f5) := by
  unfold spec_l2Zero.f zB
  cases f1 <;> cases f2 <;> cases f3 <;> cases f4 <;> cases f5 <;> simp only [Bool.false_eq_true, if_true, if_false, Bool.true_or, Bool.false_or, Bool.true_and, Bool.and_true] <;> (repeat' split) <;> simp [*]
/-- A step is well formed. -/
def stepB (a0_0 a0_1 a0_2 a0_3 a0_4 a0_5 : Int) : Bool := inB a0_2 0 5 && (inB a0_3 0 5 &&
  (if a0_0 = 1 then inB a0_1 1 10 && zB a0_1 a0_2 a0_3 a0_4 a0_5 true true true false false
  else if a0_0 = 2 then inB a0_1 1 10 && (inB a0_4 0 255 && zB a0_1 a0_2 a0_3 a0_4 a0_5 true true false true false)
  else if a0_0 = 3 then inB a0_4 0 255 && zB a0_1 a0_2 a0_3 a0_4 a0_5 false true false true false
  else if a0_0 = 4 then inB a0_4 256 65535 && zB a0_1 a0_2 a0_3 a0_4 a0_5 false true false true false
  else if a0_0 = 5 then inB a0_4 0 7 && zB a0_1 a0_2 a0_3 a0_4 a0_5 false true true true false
  else if a0_0 = 6 then inB a0_4 0 255 && zB a0_1 a0_2 a0_3 a0_4 a0_5 false true false true false
  else if a0_0 = 7 then inB a0_4 0 255 && zB a0_1 a0_2 a0_3 a0_4 a0_5 false true false true false
  else if a0_0 = 8 then inB a0_5 1 19 && zB a0_1 a0_2 a0_3 a0_4 a0_5 false false false false true
  else if a0_0 = 9 then inB a0_5 1 19 && zB a0_1 a0_2 a0_3 a0_4 a0_5 false true true false true
  else if a0_0 = 10 then inB a0_5 1 19 && zB a0_1 a0_2 a0_3 a0_4 a0_5 false true true false true
  else if a0_0 = 11 then zB a0_1 a0_2 a0_3 a0_4 a0_5 false false false false false
  else false))
theorem specStep_val (a0_0 a0_1 a0_2 a0_3 a0_4 a0_5 : Int) (k : Nat) (hk : 3 ≤ k) : spec_l2Step.f k a0_0 a0_1 a0_2 a0_3 a0_4 a0_5 = some (stepB a0_0 a0_1 a0_2 a0_3 a0_4 a0_5) := by
  obtain ⟨k, rfl⟩ : ∃ m, k = m + 3 := ⟨k - 3, by omega⟩
  unfold spec_l2Step.f spec_l2Reg.f stepB
  simp only [specIn_val, Option.bind_some, spec_l2Step.j0, spec_l2Step.j1, spec_l2Step.j2, specZero_val]
  cases inB a0_2 0 5 with
  | false => simp
  | true =>
    cases inB a0_3 0 5 with
    | false => simp
    | true =>
      simp only [Bool.true_and, if_true, Bool.not_true, Bool.false_eq_true, if_false]
      by_cases c1 : a0_0 = 1
      · subst c1
        cases inB a0_1 1 10 <;> cases inB a0_4 0 255 <;> cases inB a0_4 256 65535 <;> cases inB a0_4 0 7 <;> cases inB a0_5 1 19 <;> simp
      by_cases c2 : a0_0 = 2
      · subst c2
        cases inB a0_1 1 10 <;> cases inB a0_4 0 255 <;> cases inB a0_4 256 65535 <;> cases inB a0_4 0 7 <;> cases inB a0_5 1 19 <;> simp
      by_cases c3 : a0_0 = 3
      · subst c3
        cases inB a0_1 1 10 <;> cases inB a0_4 0 255 <;> cases inB a0_4 256 65535 <;> cases inB a0_4 0 7 <;> cases inB a0_5 1 19 <;> simp
      by_cases c4 : a0_0 = 4
      · subst c4
        cases inB a0_1 1 10 <;> cases inB a0_4 0 255 <;> cases inB a0_4 256 65535 <;> cases inB a0_4 0 7 <;> cases inB a0_5 1 19 <;> simp
      by_cases c5 : a0_0 = 5
      · subst c5
        cases inB a0_1 1 10 <;> cases inB a0_4 0 255 <;> cases inB a0_4 256 65535 <;> cases inB a0_4 0 7 <;> cases inB a0_5 1 19 <;> simp
      by_cases c6 : a0_0 = 6
      · subst c6
        cases inB a0_1 1 10 <;> cases inB a0_4 0 255 <;> cases inB a0_4 256 65535 <;> cases inB a0_4 0 7 <;> cases inB a0_5 1 19 <;> simp
      by_cases c7 : a0_0 = 7
      · subst c7
        cases inB a0_1 1 10 <;> cases inB a0_4 0 255 <;> cases inB a0_4 256 65535 <;> cases inB a0_4 0 7 <;> cases inB a0_5 1 19 <;> simp
      by_cases c8 : a0_0 = 8
      · subst c8
        cases inB a0_1 1 10 <;> cases inB a0_4 0 255 <;> cases inB a0_4 256 65535 <;> cases inB a0_4 0 7 <;> cases inB a0_5 1 19 <;> simp
      by_cases c9 : a0_0 = 9
      · subst c9
        cases inB a0_1 1 10 <;> cases inB a0_4 0 255 <;> cases inB a0_4 256 65535 <;> cases inB a0_4 0 7 <;> cases inB a0_5 1 19 <;> simp
      by_cases c10 : a0_0 = 10
      · subst c10
        cases inB a0_1 1 10 <;> cases inB a0_4 0 255 <;> cases inB a0_4 256 65535 <;> cases inB a0_4 0 7 <;> cases inB a0_5 1 19 <;> simp
      by_cases c11 : a0_0 = 11
      · subst c11
        cases inB a0_1 1 10 <;> cases inB a0_4 0 255 <;> cases inB a0_4 256 65535 <;> cases inB a0_4 0 7 <;> cases inB a0_5 1 19 <;> simp
      simp [c1, c2, c3, c4, c5, c6, c7, c8, c9, c10, c11]
theorem valid_round (a0_0 a0_1 a0_2 a0_3 a0_4 a0_5 : Int) (z : ByteArray) (r_1 r_2 r_3 r_4 r_5 : Int) (s_1 s_2 s_3 s_4 s_5 : Int) (x L lo hi : Int) (b : Bool) (k : Nat) (h1 : x < (z.size : Int)) (h0 : 0 ≤ x) (hx : x ≤ 100) (hL : bt z x = L) (hr : impl_Step_ranges.f k a0_0 a0_1 a0_2 a0_3 a0_4 a0_5 L = some (lo, hi)) (e1 : zr_ 1 (fieldAt_ L) r_1 = s_1) (e2 : zr_ 2 (fieldAt_ L) r_2 = s_2) (e3 : zr_ 3 (fieldAt_ L) r_3 = s_3) (e4 : zr_ 4 (fieldAt_ L) r_4 = s_4) (e5 : zr_ 5 (fieldAt_ L) r_5 = s_5)
    (hn : impl_Step_valid.l0 k a0_0 a0_1 a0_2 a0_3 a0_4 a0_5 z s_1 s_2 s_3 s_4 s_5 (x + 1) = some b) : impl_Step_valid.l0 (k + 1) a0_0 a0_1 a0_2 a0_3 a0_4 a0_5 z r_1 r_2 r_3 r_4 r_5 x = some (inB (fld_ a0_0 a0_1 a0_2 a0_3 a0_4 a0_5 (fieldAt_ L)) lo hi && b) := by
  simp only [impl_Step_valid.l0]
  rw [if_pos h1, if_pos h0, hL, hr]
  simp only [Option.bind_some]
  rw [implIn_val, e1, e2, e3, e4, e5, w64 (by omega) (by omega), hn]
  simp only [Option.bind_some]
  cases inB (fld_ a0_0 a0_1 a0_2 a0_3 a0_4 a0_5 (fieldAt_ L)) lo hi <;> rfl
theorem valid_end (a0_0 a0_1 a0_2 a0_3 a0_4 a0_5 : Int) (z : ByteArray) (r_1 r_2 r_3 r_4 r_5 : Int) (x : Int) (k : Nat) (h1 : ¬ x < (z.size : Int)) : impl_Step_valid.l0 (k + 1) a0_0 a0_1 a0_2 a0_3 a0_4 a0_5 z r_1 r_2 r_3 r_4 r_5 x = some (inB a0_0 1 11 && decide (r_1 = 0 ∧ r_2 = 0 ∧ r_3 = 0 ∧ r_4 = 0 ∧ r_5 = 0)) := by
  simp only [impl_Step_valid.l0]
  rw [if_neg h1, implIn_val]
  simp only [Option.bind_some]
  cases inB a0_0 1 11 <;> rfl
theorem ranges_o (a0_0 a0_1 a0_2 a0_3 a0_4 a0_5 : Int) (k : Nat) : impl_Step_ranges.f (k + 1) a0_0 a0_1 a0_2 a0_3 a0_4 a0_5 111 = some (1, 10) := by simp [impl_Step_ranges.f]
theorem ranges_d (a0_0 a0_1 a0_2 a0_3 a0_4 a0_5 : Int) (k : Nat) : impl_Step_ranges.f (k + 1) a0_0 a0_1 a0_2 a0_3 a0_4 a0_5 100 = some (0, 5) := by simp [impl_Step_ranges.f, impl_Step_ranges.j0]
theorem ranges_s (a0_0 a0_1 a0_2 a0_3 a0_4 a0_5 : Int) (k : Nat) : impl_Step_ranges.f (k + 1) a0_0 a0_1 a0_2 a0_3 a0_4 a0_5 115 = some (0, 5) := by simp [impl_Step_ranges.f, impl_Step_ranges.j0]
theorem ranges_t (a0_0 a0_1 a0_2 a0_3 a0_4 a0_5 : Int) (k : Nat) : impl_Step_ranges.f (k + 1) a0_0 a0_1 a0_2 a0_3 a0_4 a0_5 116 = some (1, 19) := by simp [impl_Step_ranges.f, impl_Step_ranges.j0]
def immR (a : Int) : Int × Int := if a = 4 then (256, 65535) else if a = 5 then (0, 7) else (0, 255)
theorem ranges_i (a0_0 a0_1 a0_2 a0_3 a0_4 a0_5 : Int) (k : Nat) : impl_Step_ranges.f (k + 1) a0_0 a0_1 a0_2 a0_3 a0_4 a0_5 105 = some ((immR a0_0).1, (immR a0_0).2) := by
  unfold immR
  simp only [impl_Step_ranges.f, impl_Step_ranges.j0]
  by_cases h4 : a0_0 = 4
  · simp [h4]
  · by_cases h5 : a0_0 = 5
    · simp [h5]
    · simp [h4, h5]
theorem valid_ods (a0_0 a0_1 a0_2 a0_3 a0_4 a0_5 : Int) (k : Nat) : impl_Step_valid.l0 (k + 5) a0_0 a0_1 a0_2 a0_3 a0_4 a0_5 ⟨#[111, 100, 115]⟩ a0_1 a0_2 a0_3 a0_4 a0_5 0 = some (inB a0_1 1 10 && (inB a0_2 0 5 && (inB a0_3 0 5 && (inB a0_0 1 11 && decide ((0 : Int) = 0 ∧ (0 : Int) = 0 ∧ (0 : Int) = 0 ∧ a0_4 = 0 ∧ a0_5 = 0))))) := by
  have h3 := valid_end a0_0 a0_1 a0_2 a0_3 a0_4 a0_5 ⟨#[111, 100, 115]⟩ 0 0 0 a0_4 a0_5 3 (k + 1) (by decide)
  have h2 := valid_round a0_0 a0_1 a0_2 a0_3 a0_4 a0_5 ⟨#[111, 100, 115]⟩ 0 0 a0_3 a0_4 a0_5 0 0 0 a0_4 a0_5 2 115 0 5 _ (k + 2) (by decide) (by decide) (by decide) (by rfl) (ranges_s a0_0 a0_1 a0_2 a0_3 a0_4 a0_5 _) (by rfl) (by rfl) (by rfl) (by rfl) (by rfl) h3
  have h1 := valid_round a0_0 a0_1 a0_2 a0_3 a0_4 a0_5 ⟨#[111, 100, 115]⟩ 0 a0_2 a0_3 a0_4 a0_5 0 0 a0_3 a0_4 a0_5 1 100 0 5 _ (k + 3) (by decide) (by decide) (by decide) (by rfl) (ranges_d a0_0 a0_1 a0_2 a0_3 a0_4 a0_5 _) (by rfl) (by rfl) (by rfl) (by rfl) (by rfl) h2
  have h0 := valid_round a0_0 a0_1 a0_2 a0_3 a0_4 a0_5 ⟨#[111, 100, 115]⟩ a0_1 a0_2 a0_3 a0_4 a0_5 0 a0_2 a0_3 a0_4 a0_5 0 111 1 10 _ (k + 4) (by decide) (by decide) (by decide) (by rfl) (ranges_o a0_0 a0_1 a0_2 a0_3 a0_4 a0_5 _) (by rfl) (by rfl) (by rfl) (by rfl) (by rfl) h1
  exact h0
theorem valid_odi (a0_0 a0_1 a0_2 a0_3 a0_4 a0_5 : Int) (k : Nat) : impl_Step_valid.l0 (k + 5) a0_0 a0_1 a0_2 a0_3 a0_4 a0_5 ⟨#[111, 100, 105]⟩ a0_1 a0_2 a0_3 a0_4 a0_5 0 = some (inB a0_1 1 10 && (inB a0_2 0 5 && (inB a0_4 (immR a0_0).1 (immR a0_0).2 && (inB a0_0 1 11 && decide ((0 : Int) = 0 ∧ (0 : Int) = 0 ∧ a0_3 = 0 ∧ (0 : Int) = 0 ∧ a0_5 = 0))))) := by
  have h3 := valid_end a0_0 a0_1 a0_2 a0_3 a0_4 a0_5 ⟨#[111, 100, 105]⟩ 0 0 a0_3 0 a0_5 3 (k + 1) (by decide)
  have h2 := valid_round a0_0 a0_1 a0_2 a0_3 a0_4 a0_5 ⟨#[111, 100, 105]⟩ 0 0 a0_3 a0_4 a0_5 0 0 a0_3 0 a0_5 2 105 (immR a0_0).1 (immR a0_0).2 _ (k + 2) (by decide) (by decide) (by decide) (by rfl) (ranges_i a0_0 a0_1 a0_2 a0_3 a0_4 a0_5 _) (by rfl) (by rfl) (by rfl) (by rfl) (by rfl) h3
  have h1 := valid_round a0_0 a0_1 a0_2 a0_3 a0_4 a0_5 ⟨#[111, 100, 105]⟩ 0 a0_2 a0_3 a0_4 a0_5 0 0 a0_3 a0_4 a0_5 1 100 0 5 _ (k + 3) (by decide) (by decide) (by decide) (by rfl) (ranges_d a0_0 a0_1 a0_2 a0_3 a0_4 a0_5 _) (by rfl) (by rfl) (by rfl) (by rfl) (by rfl) h2
  have h0 := valid_round a0_0 a0_1 a0_2 a0_3 a0_4 a0_5 ⟨#[111, 100, 105]⟩ a0_1 a0_2 a0_3 a0_4 a0_5 0 a0_2 a0_3 a0_4 a0_5 0 111 1 10 _ (k + 4) (by decide) (by decide) (by decide) (by rfl) (ranges_o a0_0 a0_1 a0_2 a0_3 a0_4 a0_5 _) (by rfl) (by rfl) (by rfl) (by rfl) (by rfl) h1
  exact h0
theorem valid_di (a0_0 a0_1 a0_2 a0_3 a0_4 a0_5 : Int) (k : Nat) : impl_Step_valid.l0 (k + 5) a0_0 a0_1 a0_2 a0_3 a0_4 a0_5 ⟨#[100, 105]⟩ a0_1 a0_2 a0_3 a0_4 a0_5 0 = some (inB a0_2 0 5 && (inB a0_4 (immR a0_0).1 (immR a0_0).2 && (inB a0_0 1 11 && decide (a0_1 = 0 ∧ (0 : Int) = 0 ∧ a0_3 = 0 ∧ (0 : Int) = 0 ∧ a0_5 = 0)))) := by
  have h2 := valid_end a0_0 a0_1 a0_2 a0_3 a0_4 a0_5 ⟨#[100, 105]⟩ a0_1 0 a0_3 0 a0_5 2 (k + 2) (by decide)
  have h1 := valid_round a0_0 a0_1 a0_2 a0_3 a0_4 a0_5 ⟨#[100, 105]⟩ a0_1 0 a0_3 a0_4 a0_5 a0_1 0 a0_3 0 a0_5 1 105 (immR a0_0).1 (immR a0_0).2 _ (k + 3) (by decide) (by decide) (by decide) (by rfl) (ranges_i a0_0 a0_1 a0_2 a0_3 a0_4 a0_5 _) (by rfl) (by rfl) (by rfl) (by rfl) (by rfl) h2
  have h0 := valid_round a0_0 a0_1 a0_2 a0_3 a0_4 a0_5 ⟨#[100, 105]⟩ a0_1 a0_2 a0_3 a0_4 a0_5 a0_1 0 a0_3 a0_4 a0_5 0 100 0 5 _ (k + 4) (by decide) (by decide) (by decide) (by rfl) (ranges_d a0_0 a0_1 a0_2 a0_3 a0_4 a0_5 _) (by rfl) (by rfl) (by rfl) (by rfl) (by rfl) h1
  exact h0
theorem valid_dsi (a0_0 a0_1 a0_2 a0_3 a0_4 a0_5 : Int) (k : Nat) : impl_Step_valid.l0 (k + 5) a0_0 a0_1 a0_2 a0_3 a0_4 a0_5 ⟨#[100, 115, 105]⟩ a0_1 a0_2 a0_3 a0_4 a0_5 0 = some (inB a0_2 0 5 && (inB a0_3 0 5 && (inB a0_4 (immR a0_0).1 (immR a0_0).2 && (inB a0_0 1 11 && decide (a0_1 = 0 ∧ (0 : Int) = 0 ∧ (0 : Int) = 0 ∧ (0 : Int) = 0 ∧ a0_5 = 0))))) := by
  have h3 := valid_end a0_0 a0_1 a0_2 a0_3 a0_4 a0_5 ⟨#[100, 115, 105]⟩ a0_1 0 0 0 a0_5 3 (k + 1) (by decide)
  have h2 := valid_round a0_0 a0_1 a0_2 a0_3 a0_4 a0_5 ⟨#[100, 115, 105]⟩ a0_1 0 0 a0_4 a0_5 a0_1 0 0 0 a0_5 2 105 (immR a0_0).1 (immR a0_0).2 _ (k + 2) (by decide) (by decide) (by decide) (by rfl) (ranges_i a0_0 a0_1 a0_2 a0_3 a0_4 a0_5 _) (by rfl) (by rfl) (by rfl) (by rfl) (by rfl) h3
  have h1 := valid_round a0_0 a0_1 a0_2 a0_3 a0_4 a0_5 ⟨#[100, 115, 105]⟩ a0_1 0 a0_3 a0_4 a0_5 a0_1 0 0 a0_4 a0_5 1 115 0 5 _ (k + 3) (by decide) (by decide) (by decide) (by rfl) (ranges_s a0_0 a0_1 a0_2 a0_3 a0_4 a0_5 _) (by rfl) (by rfl) (by rfl) (by rfl) (by rfl) h2
  have h0 := valid_round a0_0 a0_1 a0_2 a0_3 a0_4 a0_5 ⟨#[100, 115, 105]⟩ a0_1 a0_2 a0_3 a0_4 a0_5 a0_1 0 a0_3 a0_4 a0_5 0 100 0 5 _ (k + 4) (by decide) (by decide) (by decide) (by rfl) (ranges_d a0_0 a0_1 a0_2 a0_3 a0_4 a0_5 _) (by rfl) (by rfl) (by rfl) (by rfl) (by rfl) h1
  exact h0
theorem valid_t (a0_0 a0_1 a0_2 a0_3 a0_4 a0_5 : Int) (k : Nat) : impl_Step_valid.l0 (k + 5) a0_0 a0_1 a0_2 a0_3 a0_4 a0_5 ⟨#[116]⟩ a0_1 a0_2 a0_3 a0_4 a0_5 0 = some (inB a0_5 1 19 && (inB a0_0 1 11 && decide (a0_1 = 0 ∧ a0_2 = 0 ∧ a0_3 = 0 ∧ a0_4 = 0 ∧ (0 : Int) = 0))) := by
  have h1 := valid_end a0_0 a0_1 a0_2 a0_3 a0_4 a0_5 ⟨#[116]⟩ a0_1 a0_2 a0_3 a0_4 0 1 (k + 3) (by decide)
  have h0 := valid_round a0_0 a0_1 a0_2 a0_3 a0_4 a0_5 ⟨#[116]⟩ a0_1 a0_2 a0_3 a0_4 a0_5 a0_1 a0_2 a0_3 a0_4 0 0 116 1 19 _ (k + 4) (by decide) (by decide) (by decide) (by rfl) (ranges_t a0_0 a0_1 a0_2 a0_3 a0_4 a0_5 _) (by rfl) (by rfl) (by rfl) (by rfl) (by rfl) h1
  exact h0
theorem valid_dst (a0_0 a0_1 a0_2 a0_3 a0_4 a0_5 : Int) (k : Nat) : impl_Step_valid.l0 (k + 5) a0_0 a0_1 a0_2 a0_3 a0_4 a0_5 ⟨#[100, 115, 116]⟩ a0_1 a0_2 a0_3 a0_4 a0_5 0 = some (inB a0_2 0 5 && (inB a0_3 0 5 && (inB a0_5 1 19 && (inB a0_0 1 11 && decide (a0_1 = 0 ∧ (0 : Int) = 0 ∧ (0 : Int) = 0 ∧ a0_4 = 0 ∧ (0 : Int) = 0))))) := by
  have h3 := valid_end a0_0 a0_1 a0_2 a0_3 a0_4 a0_5 ⟨#[100, 115, 116]⟩ a0_1 0 0 a0_4 0 3 (k + 1) (by decide)
  have h2 := valid_round a0_0 a0_1 a0_2 a0_3 a0_4 a0_5 ⟨#[100, 115, 116]⟩ a0_1 0 0 a0_4 a0_5 a0_1 0 0 a0_4 0 2 116 1 19 _ (k + 2) (by decide) (by decide) (by decide) (by rfl) (ranges_t a0_0 a0_1 a0_2 a0_3 a0_4 a0_5 _) (by rfl) (by rfl) (by rfl) (by rfl) (by rfl) h3
  have h1 := valid_round a0_0 a0_1 a0_2 a0_3 a0_4 a0_5 ⟨#[100, 115, 116]⟩ a0_1 0 a0_3 a0_4 a0_5 a0_1 0 0 a0_4 a0_5 1 115 0 5 _ (k + 3) (by decide) (by decide) (by decide) (by rfl) (ranges_s a0_0 a0_1 a0_2 a0_3 a0_4 a0_5 _) (by rfl) (by rfl) (by rfl) (by rfl) (by rfl) h2
  have h0 := valid_round a0_0 a0_1 a0_2 a0_3 a0_4 a0_5 ⟨#[100, 115, 116]⟩ a0_1 a0_2 a0_3 a0_4 a0_5 a0_1 0 a0_3 a0_4 a0_5 0 100 0 5 _ (k + 4) (by decide) (by decide) (by decide) (by rfl) (ranges_d a0_0 a0_1 a0_2 a0_3 a0_4 a0_5 _) (by rfl) (by rfl) (by rfl) (by rfl) (by rfl) h1
  exact h0
theorem valid_none (a0_0 a0_1 a0_2 a0_3 a0_4 a0_5 : Int) (k : Nat) : impl_Step_valid.l0 (k + 5) a0_0 a0_1 a0_2 a0_3 a0_4 a0_5 ⟨#[]⟩ a0_1 a0_2 a0_3 a0_4 a0_5 0 = some (inB a0_0 1 11 && decide (a0_1 = 0 ∧ a0_2 = 0 ∧ a0_3 = 0 ∧ a0_4 = 0 ∧ a0_5 = 0)) := by
  have h0 := valid_end a0_0 a0_1 a0_2 a0_3 a0_4 a0_5 ⟨#[]⟩ a0_1 a0_2 a0_3 a0_4 a0_5 0 (k + 4) (by decide)
  exact h0
theorem implStep_val (a0_0 a0_1 a0_2 a0_3 a0_4 a0_5 : Int) (k : Nat) (hk : 10 ≤ k) : impl_Step_valid.f k a0_0 a0_1 a0_2 a0_3 a0_4 a0_5 = some (stepB a0_0 a0_1 a0_2 a0_3 a0_4 a0_5) := by
  obtain ⟨k, rfl⟩ : ∃ m, k = m + 5 := ⟨k - 5, by omega⟩
  unfold impl_Step_valid.f impl_fields.f stepB
  by_cases c1 : a0_0 = 1
  · subst c1
    rw [show (if (1 : Int) = 1 then (some (⟨#[111, 100, 115]⟩ : ByteArray)) else (if (1 : Int) = 2 then (some (⟨#[111, 100, 105]⟩ : ByteArray)) else (if (1 : Int) = 3 then (impl_fields.j0 (k + 5) 1 ((1 : Int) == 3)) else (if (1 : Int) = 4 then (impl_fields.j0 (k + 5) 1 ((1 : Int) == 4)) else (if (1 : Int) = 6 then (impl_fields.j0 (k + 5) 1 ((1 : Int) == 6)) else (impl_fields.j0 (k + 5) 1 ((1 : Int) == 7))))))) = some ⟨#[111, 100, 115]⟩ by first | (simp [impl_fields.j0]; done) | simp [impl_fields.j0, impl_fields.j1]]
    simp only [Option.bind_some]
    rw [valid_ods]
    congr 1
    rw [Bool.eq_iff_iff]
    simp [inB, zB, immR]
    first | done | omega
  by_cases c2 : a0_0 = 2
  · subst c2
    rw [show (if (2 : Int) = 1 then (some (⟨#[111, 100, 115]⟩ : ByteArray)) else (if (2 : Int) = 2 then (some (⟨#[111, 100, 105]⟩ : ByteArray)) else (if (2 : Int) = 3 then (impl_fields.j0 (k + 5) 2 ((2 : Int) == 3)) else (if (2 : Int) = 4 then (impl_fields.j0 (k + 5) 2 ((2 : Int) == 4)) else (if (2 : Int) = 6 then (impl_fields.j0 (k + 5) 2 ((2 : Int) == 6)) else (impl_fields.j0 (k + 5) 2 ((2 : Int) == 7))))))) = some ⟨#[111, 100, 105]⟩ by first | (simp [impl_fields.j0]; done) | simp [impl_fields.j0, impl_fields.j1]]
    simp only [Option.bind_some]
    rw [valid_odi]
    congr 1
    rw [Bool.eq_iff_iff]
    simp [inB, zB, immR]
    first | done | omega
  by_cases c3 : a0_0 = 3
  · subst c3
    rw [show (if (3 : Int) = 1 then (some (⟨#[111, 100, 115]⟩ : ByteArray)) else (if (3 : Int) = 2 then (some (⟨#[111, 100, 105]⟩ : ByteArray)) else (if (3 : Int) = 3 then (impl_fields.j0 (k + 5) 3 ((3 : Int) == 3)) else (if (3 : Int) = 4 then (impl_fields.j0 (k + 5) 3 ((3 : Int) == 4)) else (if (3 : Int) = 6 then (impl_fields.j0 (k + 5) 3 ((3 : Int) == 6)) else (impl_fields.j0 (k + 5) 3 ((3 : Int) == 7))))))) = some ⟨#[100, 105]⟩ by first | (simp [impl_fields.j0]; done) | simp [impl_fields.j0, impl_fields.j1]]
    simp only [Option.bind_some]
    rw [valid_di]
    congr 1
    rw [Bool.eq_iff_iff]
    simp [inB, zB, immR]
    first | done | omega
  by_cases c4 : a0_0 = 4
  · subst c4
    rw [show (if (4 : Int) = 1 then (some (⟨#[111, 100, 115]⟩ : ByteArray)) else (if (4 : Int) = 2 then (some (⟨#[111, 100, 105]⟩ : ByteArray)) else (if (4 : Int) = 3 then (impl_fields.j0 (k + 5) 4 ((4 : Int) == 3)) else (if (4 : Int) = 4 then (impl_fields.j0 (k + 5) 4 ((4 : Int) == 4)) else (if (4 : Int) = 6 then (impl_fields.j0 (k + 5) 4 ((4 : Int) == 6)) else (impl_fields.j0 (k + 5) 4 ((4 : Int) == 7))))))) = some ⟨#[100, 105]⟩ by first | (simp [impl_fields.j0]; done) | simp [impl_fields.j0, impl_fields.j1]]
    simp only [Option.bind_some]
    rw [valid_di]
    congr 1
    rw [Bool.eq_iff_iff]
    simp [inB, zB, immR]
    first | done | omega
  by_cases c5 : a0_0 = 5
  · subst c5
    rw [show (if (5 : Int) = 1 then (some (⟨#[111, 100, 115]⟩ : ByteArray)) else (if (5 : Int) = 2 then (some (⟨#[111, 100, 105]⟩ : ByteArray)) else (if (5 : Int) = 3 then (impl_fields.j0 (k + 5) 5 ((5 : Int) == 3)) else (if (5 : Int) = 4 then (impl_fields.j0 (k + 5) 5 ((5 : Int) == 4)) else (if (5 : Int) = 6 then (impl_fields.j0 (k + 5) 5 ((5 : Int) == 6)) else (impl_fields.j0 (k + 5) 5 ((5 : Int) == 7))))))) = some ⟨#[100, 115, 105]⟩ by first | (simp [impl_fields.j0]; done) | simp [impl_fields.j0, impl_fields.j1]]
    simp only [Option.bind_some]
    rw [valid_dsi]
    congr 1
    rw [Bool.eq_iff_iff]
    simp [inB, zB, immR]
    first | done | omega
  by_cases c6 : a0_0 = 6
  · subst c6
    rw [show (if (6 : Int) = 1 then (some (⟨#[111, 100, 115]⟩ : ByteArray)) else (if (6 : Int) = 2 then (some (⟨#[111, 100, 105]⟩ : ByteArray)) else (if (6 : Int) = 3 then (impl_fields.j0 (k + 5) 6 ((6 : Int) == 3)) else (if (6 : Int) = 4 then (impl_fields.j0 (k + 5) 6 ((6 : Int) == 4)) else (if (6 : Int) = 6 then (impl_fields.j0 (k + 5) 6 ((6 : Int) == 6)) else (impl_fields.j0 (k + 5) 6 ((6 : Int) == 7))))))) = some ⟨#[100, 105]⟩ by first | (simp [impl_fields.j0]; done) | simp [impl_fields.j0, impl_fields.j1]]
    simp only [Option.bind_some]
    rw [valid_di]
    congr 1
    rw [Bool.eq_iff_iff]
    simp [inB, zB, immR]
    first | done | omega
  by_cases c7 : a0_0 = 7
  · subst c7
    rw [show (if (7 : Int) = 1 then (some (⟨#[111, 100, 115]⟩ : ByteArray)) else (if (7 : Int) = 2 then (some (⟨#[111, 100, 105]⟩ : ByteArray)) else (if (7 : Int) = 3 then (impl_fields.j0 (k + 5) 7 ((7 : Int) == 3)) else (if (7 : Int) = 4 then (impl_fields.j0 (k + 5) 7 ((7 : Int) == 4)) else (if (7 : Int) = 6 then (impl_fields.j0 (k + 5) 7 ((7 : Int) == 6)) else (impl_fields.j0 (k + 5) 7 ((7 : Int) == 7))))))) = some ⟨#[100, 105]⟩ by first | (simp [impl_fields.j0]; done) | simp [impl_fields.j0, impl_fields.j1]]
    simp only [Option.bind_some]
    rw [valid_di]
    congr 1
    rw [Bool.eq_iff_iff]
    simp [inB, zB, immR]
    first | done | omega
  by_cases c8 : a0_0 = 8
  · subst c8
    rw [show (if (8 : Int) = 1 then (some (⟨#[111, 100, 115]⟩ : ByteArray)) else (if (8 : Int) = 2 then (some (⟨#[111, 100, 105]⟩ : ByteArray)) else (if (8 : Int) = 3 then (impl_fields.j0 (k + 5) 8 ((8 : Int) == 3)) else (if (8 : Int) = 4 then (impl_fields.j0 (k + 5) 8 ((8 : Int) == 4)) else (if (8 : Int) = 6 then (impl_fields.j0 (k + 5) 8 ((8 : Int) == 6)) else (impl_fields.j0 (k + 5) 8 ((8 : Int) == 7))))))) = some ⟨#[116]⟩ by first | (simp [impl_fields.j0]; done) | simp [impl_fields.j0, impl_fields.j1]]
    simp only [Option.bind_some]
    rw [valid_t]
    congr 1
    rw [Bool.eq_iff_iff]
    simp [inB, zB, immR]
    first | done | omega
  by_cases c9 : a0_0 = 9
  · subst c9
    rw [show (if (9 : Int) = 1 then (some (⟨#[111, 100, 115]⟩ : ByteArray)) else (if (9 : Int) = 2 then (some (⟨#[111, 100, 105]⟩ : ByteArray)) else (if (9 : Int) = 3 then (impl_fields.j0 (k + 5) 9 ((9 : Int) == 3)) else (if (9 : Int) = 4 then (impl_fields.j0 (k + 5) 9 ((9 : Int) == 4)) else (if (9 : Int) = 6 then (impl_fields.j0 (k + 5) 9 ((9 : Int) == 6)) else (impl_fields.j0 (k + 5) 9 ((9 : Int) == 7))))))) = some ⟨#[100, 115, 116]⟩ by first | (simp [impl_fields.j0]; done) | simp [impl_fields.j0, impl_fields.j1]]
    simp only [Option.bind_some]
    rw [valid_dst]
    congr 1
    rw [Bool.eq_iff_iff]
    simp [inB, zB, immR]
    first | done | omega
  by_cases c10 : a0_0 = 10
  · subst c10
    rw [show (if (10 : Int) = 1 then (some (⟨#[111, 100, 115]⟩ : ByteArray)) else (if (10 : Int) = 2 then (some (⟨#[111, 100, 105]⟩ : ByteArray)) else (if (10 : Int) = 3 then (impl_fields.j0 (k + 5) 10 ((10 : Int) == 3)) else (if (10 : Int) = 4 then (impl_fields.j0 (k + 5) 10 ((10 : Int) == 4)) else (if (10 : Int) = 6 then (impl_fields.j0 (k + 5) 10 ((10 : Int) == 6)) else (impl_fields.j0 (k + 5) 10 ((10 : Int) == 7))))))) = some ⟨#[100, 115, 116]⟩ by first | (simp [impl_fields.j0]; done) | simp [impl_fields.j0, impl_fields.j1]]
    simp only [Option.bind_some]
    rw [valid_dst]
    congr 1
    rw [Bool.eq_iff_iff]
    simp [inB, zB, immR]
    first | done | omega
  by_cases c11 : a0_0 = 11
  · subst c11
    rw [show (if (11 : Int) = 1 then (some (⟨#[111, 100, 115]⟩ : ByteArray)) else (if (11 : Int) = 2 then (some (⟨#[111, 100, 105]⟩ : ByteArray)) else (if (11 : Int) = 3 then (impl_fields.j0 (k + 5) 11 ((11 : Int) == 3)) else (if (11 : Int) = 4 then (impl_fields.j0 (k + 5) 11 ((11 : Int) == 4)) else (if (11 : Int) = 6 then (impl_fields.j0 (k + 5) 11 ((11 : Int) == 6)) else (impl_fields.j0 (k + 5) 11 ((11 : Int) == 7))))))) = some ⟨#[]⟩ by first | (simp [impl_fields.j0]; done) | simp [impl_fields.j0, impl_fields.j1]]
    simp only [Option.bind_some]
    rw [valid_none]
    congr 1
    rw [Bool.eq_iff_iff]
    simp [inB, zB, immR]
    first | done | omega
  simp only [c1, c2, c3, c4, c5, c6, c7, c8, c9, c10, c11, if_false]
  rw [show impl_fields.j0 (k + 5) a0_0 (a0_0 == 7) = some ⟨#[]⟩ by first | (simp [impl_fields.j0, c1, c2, c3, c4, c5, c6, c7, c8, c9, c10, c11]; done) | simp [impl_fields.j0, impl_fields.j1, c1, c2, c3, c4, c5, c6, c7, c8, c9, c10, c11]]
  simp only [Option.bind_some]
  rw [valid_none]
  congr 1
  rw [Bool.eq_iff_iff]
  simp [inB]
  first | done | omega

def D_ (n : Int) : ByteArray := (⟨#[32]⟩ : ByteArray) ++ ⟨(Lib.decDigits n.toNat).toArray⟩
theorem num_at (k : Nat) (n : Int) (h0 : 0 ≤ n) (h1 : n ≤ 65535) (hk : 65536 ≤ k) : spec_l1Num.f k n = some ⟨(Lib.decDigits n.toNat).toArray⟩ ∧ (⟨(Lib.decDigits n.toNat).toArray⟩ : ByteArray).size ≤ 65536 := by
  obtain ⟨u, rfl⟩ : ∃ u : Nat, n = u := ⟨n.toNat, by omega⟩
  have hl := dec_len u
  rw [Int.toNat_natCast]
  refine ⟨num_val k u (by omega) (by omega), ?_⟩
  have e : (⟨(Lib.decDigits u).toArray⟩ : ByteArray).size = (Lib.decDigits u).length := by simp [ByteArray.size]
  rw [e]
  omega
theorem itoa_at (n : Int) (h0 : 0 ≤ n) : itoaB_ n = ⟨(Lib.decDigits n.toNat).toArray⟩ := by
  unfold itoaB_ Lib.itoa
  rw [if_neg (by omega)]
theorem text_round (k : Nat) (a0 a1 a2 a3 a4 a5 : Int) (z o : ByteArray) (x : Nat) (j : Nat) (hx : x < z.size) (hz : z.size ≤ 100) (hj : fieldAt_ (bt z (x : Int)) = j) (h0 : 0 ≤ fld_ a0 a1 a2 a3 a4 a5 j) (h1 : fld_ a0 a1 a2 a3 a4 a5 j ≤ 65535) (ho : o.size ≤ 10000000) : impl_Step_text.l0 (k + 1) a0 a1 a2 a3 a4 a5 z o (x : Int) = impl_Step_text.l0 k a0 a1 a2 a3 a4 a5 z (o ++ D_ (fld_ a0 a1 a2 a3 a4 a5 j)) ((x + 1 : Nat) : Int) := by
  have hs := (num_at 65536 _ h0 h1 (by omega)).2
  rw [impl_Step_text.l0, hj, itoa_at _ h0, if_pos (by omega), if_pos (by omega), if_pos (by omega), if_pos (by omega), if_pos (by omega), if_pos (by rw [ByteArray.size_append]; show o.size + (1 + _) ≤ _; omega), next64 (by omega)]
  rfl

theorem text_end (k : Nat) (a0 a1 a2 a3 a4 a5 : Int) (z o : ByteArray) (x : Nat) (hx : z.size ≤ x) : impl_Step_text.l0 (k + 1) a0 a1 a2 a3 a4 a5 z o (x : Int) = some o := by
  rw [impl_Step_text.l0, if_neg (by omega)]
theorem D_size (n : Int) (h0 : 0 ≤ n) (h1 : n ≤ 65535) : (D_ n).size ≤ 65537 := by
  have := (num_at 65536 n h0 h1 (by omega)).2
  unfold D_
  rw [ByteArray.size_append]
  show 1 + _ ≤ _
  omega
theorem text_ods (k : Nat) (a0 a1 a2 a3 a4 a5 : Int) (o : ByteArray) (ho : o.size ≤ 1000) (h1 : 0 ≤ a1 ∧ a1 ≤ 65535) (h2 : 0 ≤ a2 ∧ a2 ≤ 65535) (h3 : 0 ≤ a3 ∧ a3 ≤ 65535) : impl_Step_text.l0 (k + 4) a0 a1 a2 a3 a4 a5 ⟨#[111, 100, 115]⟩ o 0 = some (((o ++ D_ a1) ++ D_ a2) ++ D_ a3) := by
  have s1 := D_size a1 h1.1 h1.2
  have s2 := D_size a2 h2.1 h2.2
  have r1 := text_round (k + 3) a0 a1 a2 a3 a4 a5 ⟨#[111, 100, 115]⟩ o 0 1 (by decide) (by decide) (by decide) h1.1 h1.2 (by omega)
  have r2 := text_round (k + 2) a0 a1 a2 a3 a4 a5 ⟨#[111, 100, 115]⟩ (o ++ D_ a1) 1 2 (by decide) (by decide) (by decide) h2.1 h2.2 (by rw [ByteArray.size_append]; omega)
  have r3 := text_round (k + 1) a0 a1 a2 a3 a4 a5 ⟨#[111, 100, 115]⟩ ((o ++ D_ a1) ++ D_ a2) 2 3 (by decide) (by decide) (by decide) h3.1 h3.2 (by rw [ByteArray.size_append, ByteArray.size_append]; omega)
  exact (r1.trans (r2.trans (r3.trans (text_end k a0 a1 a2 a3 a4 a5 _ _ 3 (by decide)))))
theorem text_odi (k : Nat) (a0 a1 a2 a3 a4 a5 : Int) (o : ByteArray) (ho : o.size ≤ 1000) (h1 : 0 ≤ a1 ∧ a1 ≤ 65535) (h2 : 0 ≤ a2 ∧ a2 ≤ 65535) (h4 : 0 ≤ a4 ∧ a4 ≤ 65535) : impl_Step_text.l0 (k + 4) a0 a1 a2 a3 a4 a5 ⟨#[111, 100, 105]⟩ o 0 = some (((o ++ D_ a1) ++ D_ a2) ++ D_ a4) := by
  have s1 := D_size a1 h1.1 h1.2
  have s2 := D_size a2 h2.1 h2.2
  have r1 := text_round (k + 3) a0 a1 a2 a3 a4 a5 ⟨#[111, 100, 105]⟩ o 0 1 (by decide) (by decide) (by decide) h1.1 h1.2 (by omega)
  have r2 := text_round (k + 2) a0 a1 a2 a3 a4 a5 ⟨#[111, 100, 105]⟩ (o ++ D_ a1) 1 2 (by decide) (by decide) (by decide) h2.1 h2.2 (by rw [ByteArray.size_append]; omega)
  have r3 := text_round (k + 1) a0 a1 a2 a3 a4 a5 ⟨#[111, 100, 105]⟩ ((o ++ D_ a1) ++ D_ a2) 2 4 (by decide) (by decide) (by decide) h4.1 h4.2 (by rw [ByteArray.size_append, ByteArray.size_append]; omega)
  exact (r1.trans (r2.trans (r3.trans (text_end k a0 a1 a2 a3 a4 a5 _ _ 3 (by decide)))))
theorem text_di (k : Nat) (a0 a1 a2 a3 a4 a5 : Int) (o : ByteArray) (ho : o.size ≤ 1000) (h2 : 0 ≤ a2 ∧ a2 ≤ 65535) (h4 : 0 ≤ a4 ∧ a4 ≤ 65535) : impl_Step_text.l0 (k + 3) a0 a1 a2 a3 a4 a5 ⟨#[100, 105]⟩ o 0 = some ((o ++ D_ a2) ++ D_ a4) := by
  have s2 := D_size a2 h2.1 h2.2
  have r1 := text_round (k + 2) a0 a1 a2 a3 a4 a5 ⟨#[100, 105]⟩ o 0 2 (by decide) (by decide) (by decide) h2.1 h2.2 (by omega)
  have r2 := text_round (k + 1) a0 a1 a2 a3 a4 a5 ⟨#[100, 105]⟩ (o ++ D_ a2) 1 4 (by decide) (by decide) (by decide) h4.1 h4.2 (by rw [ByteArray.size_append]; omega)
  exact (r1.trans (r2.trans (text_end k a0 a1 a2 a3 a4 a5 _ _ 2 (by decide))))
theorem text_dsi (k : Nat) (a0 a1 a2 a3 a4 a5 : Int) (o : ByteArray) (ho : o.size ≤ 1000) (h2 : 0 ≤ a2 ∧ a2 ≤ 65535) (h3 : 0 ≤ a3 ∧ a3 ≤ 65535) (h4 : 0 ≤ a4 ∧ a4 ≤ 65535) : impl_Step_text.l0 (k + 4) a0 a1 a2 a3 a4 a5 ⟨#[100, 115, 105]⟩ o 0 = some (((o ++ D_ a2) ++ D_ a3) ++ D_ a4) := by
  have s2 := D_size a2 h2.1 h2.2
  have s3 := D_size a3 h3.1 h3.2
  have r1 := text_round (k + 3) a0 a1 a2 a3 a4 a5 ⟨#[100, 115, 105]⟩ o 0 2 (by decide) (by decide) (by decide) h2.1 h2.2 (by omega)
  have r2 := text_round (k + 2) a0 a1 a2 a3 a4 a5 ⟨#[100, 115, 105]⟩ (o ++ D_ a2) 1 3 (by decide) (by decide) (by decide) h3.1 h3.2 (by rw [ByteArray.size_append]; omega)
  have r3 := text_round (k + 1) a0 a1 a2 a3 a4 a5 ⟨#[100, 115, 105]⟩ ((o ++ D_ a2) ++ D_ a3) 2 4 (by decide) (by decide) (by decide) h4.1 h4.2 (by rw [ByteArray.size_append, ByteArray.size_append]; omega)
  exact (r1.trans (r2.trans (r3.trans (text_end k a0 a1 a2 a3 a4 a5 _ _ 3 (by decide)))))
theorem text_t (k : Nat) (a0 a1 a2 a3 a4 a5 : Int) (o : ByteArray) (ho : o.size ≤ 1000) (h5 : 0 ≤ a5 ∧ a5 ≤ 65535) : impl_Step_text.l0 (k + 2) a0 a1 a2 a3 a4 a5 ⟨#[116]⟩ o 0 = some (o ++ D_ a5) := by
  have r1 := text_round (k + 1) a0 a1 a2 a3 a4 a5 ⟨#[116]⟩ o 0 5 (by decide) (by decide) (by decide) h5.1 h5.2 (by omega)
  exact (r1.trans (text_end k a0 a1 a2 a3 a4 a5 _ _ 1 (by decide)))
theorem text_dst (k : Nat) (a0 a1 a2 a3 a4 a5 : Int) (o : ByteArray) (ho : o.size ≤ 1000) (h2 : 0 ≤ a2 ∧ a2 ≤ 65535) (h3 : 0 ≤ a3 ∧ a3 ≤ 65535) (h5 : 0 ≤ a5 ∧ a5 ≤ 65535) : impl_Step_text.l0 (k + 4) a0 a1 a2 a3 a4 a5 ⟨#[100, 115, 116]⟩ o 0 = some (((o ++ D_ a2) ++ D_ a3) ++ D_ a5) := by
  have s2 := D_size a2 h2.1 h2.2
  have s3 := D_size a3 h3.1 h3.2
  have r1 := text_round (k + 3) a0 a1 a2 a3 a4 a5 ⟨#[100, 115, 116]⟩ o 0 2 (by decide) (by decide) (by decide) h2.1 h2.2 (by omega)
  have r2 := text_round (k + 2) a0 a1 a2 a3 a4 a5 ⟨#[100, 115, 116]⟩ (o ++ D_ a2) 1 3 (by decide) (by decide) (by decide) h3.1 h3.2 (by rw [ByteArray.size_append]; omega)
  have r3 := text_round (k + 1) a0 a1 a2 a3 a4 a5 ⟨#[100, 115, 116]⟩ ((o ++ D_ a2) ++ D_ a3) 2 5 (by decide) (by decide) (by decide) h5.1 h5.2 (by rw [ByteArray.size_append, ByteArray.size_append]; omega)
  exact (r1.trans (r2.trans (r3.trans (text_end k a0 a1 a2 a3 a4 a5 _ _ 3 (by decide)))))

theorem app_ok {o : ByteArray} {n : Int} (h0 : 0 ≤ n) (h1 : n ≤ 65535) (ho : o.size ≤ 1000000) : 1 + (⟨(Lib.decDigits n.toNat).toArray⟩ : ByteArray).size ≤ 9223372036854775807 ∧ o.size + ((⟨#[32]⟩ : ByteArray) ++ ⟨(Lib.decDigits n.toNat).toArray⟩).size ≤ 9223372036854775807 := by
  have := (num_at 65536 n h0 h1 (by omega)).2
  have d := D_size n h0 h1
  unfold D_ at d
  omega
theorem spec_j6 (k : Nat) (o : ByteArray) (ho : o.size ≤ 1000000) (a0 a1 a2 a3 a4 a5 : Int) (h : 0 ≤ a4 ∧ a4 ≤ 65535) (hk : 65536 ≤ k) : spec_StepText.j6 (k + 1) o a0 true a0 a1 a2 a3 a4 a5 = some (o ++ D_ a4, true) := by
  obtain ⟨e1, e2⟩ := app_ok h.1 h.2 ho
  rw [spec_StepText.j6, if_pos rfl, (num_at k a4 h.1 h.2 hk).1]
  simp only [Option.bind_some]
  rw [if_pos e1, if_pos e2]
  rfl
theorem spec_j7 (k : Nat) (o : ByteArray) (ho : o.size ≤ 1000000) (a0 a1 a2 a3 a4 a5 : Int) (h : 0 ≤ a5 ∧ a5 ≤ 65535) (hk : 65536 ≤ k) : spec_StepText.j7 (k + 1) o true a0 a1 a2 a3 a4 a5 = some (o ++ D_ a5, true) := by
  obtain ⟨e1, e2⟩ := app_ok h.1 h.2 ho
  rw [spec_StepText.j7, if_pos rfl, (num_at k a5 h.1 h.2 hk).1]
  simp only [Option.bind_some]
  rw [if_pos e1, if_pos e2]
  rfl
theorem spec_j0 (k : Nat) (o : ByteArray) (ho : o.size ≤ 1000000) (a0 a1 a2 a3 a4 a5 : Int) (h : 0 ≤ a1 ∧ a1 ≤ 65535) (hk : 65536 ≤ k) : spec_StepText.j0 (k + 1) o true a0 a1 a2 a3 a4 a5 = spec_StepText.j1 k (o ++ D_ a1) a0 a1 a2 a3 a4 a5 := by
  obtain ⟨e1, e2⟩ := app_ok h.1 h.2 ho
  rw [spec_StepText.j0, if_pos rfl, (num_at k a1 h.1 h.2 hk).1]
  simp only [Option.bind_some]
  rw [if_pos e1, if_pos e2]
  rfl

theorem step_bd (a0 a1 a2 a3 a4 a5 : Int) (h : stepB a0 a1 a2 a3 a4 a5 = true) : (1 ≤ a0 ∧ a0 ≤ 11) ∧ (0 ≤ a1 ∧ a1 ≤ 10) ∧ (0 ≤ a2 ∧ a2 ≤ 5) ∧ (0 ≤ a3 ∧ a3 ≤ 5) ∧ (0 ≤ a4 ∧ a4 ≤ 65535) ∧ (0 ≤ a5 ∧ a5 ≤ 19) ∧ (a0 ≠ 4 → a4 ≤ 255) := by
  unfold stepB at h
  by_cases c1 : a0 = 1
  · subst c1
    simp [inB, zB] at h
    omega
  by_cases c2 : a0 = 2
  · subst c2
    simp [inB, zB] at h
    omega
  by_cases c3 : a0 = 3
  · subst c3
    simp [inB, zB] at h
    omega
  by_cases c4 : a0 = 4
  · subst c4
    simp [inB, zB] at h
    omega
  by_cases c5 : a0 = 5
  · subst c5
    simp [inB, zB] at h
    omega
  by_cases c6 : a0 = 6
  · subst c6
    simp [inB, zB] at h
    omega
  by_cases c7 : a0 = 7
  · subst c7
    simp [inB, zB] at h
    omega
  by_cases c8 : a0 = 8
  · subst c8
    simp [inB, zB] at h
    omega
  by_cases c9 : a0 = 9
  · subst c9
    simp [inB, zB] at h
    omega
  by_cases c10 : a0 = 10
  · subst c10
    simp [inB, zB] at h
    omega
  by_cases c11 : a0 = 11
  · subst c11
    simp [inB, zB] at h
    omega
  simp [c1, c2, c3, c4, c5, c6, c7, c8, c9, c10, c11] at h

theorem app_size {o : ByteArray} {n : Int} {m : Nat} (h0 : 0 ≤ n) (h1 : n ≤ 65535) (ho : o.size ≤ m) : (o ++ D_ n).size ≤ m + 65537 := by
  have := D_size n h0 h1
  rw [ByteArray.size_append]
  omega
theorem spec_j0f (k : Nat) (o : ByteArray) (a0 a1 a2 a3 a4 a5 : Int) : spec_StepText.j0 (k + 1) o false a0 a1 a2 a3 a4 a5 = spec_StepText.j1 k o a0 a1 a2 a3 a4 a5 := by
  rw [spec_StepText.j0, if_neg (by decide)]
theorem spec_j2f (k : Nat) (o : ByteArray) (a0 a1 a2 a3 a4 a5 : Int) : spec_StepText.j2 (k + 1) o false a0 a1 a2 a3 a4 a5 = spec_StepText.j3 k o a0 a1 a2 a3 a4 a5 := by
  rw [spec_StepText.j2, if_neg (by decide)]
theorem spec_j2 (k : Nat) (o : ByteArray) (ho : o.size ≤ 1000000) (a0 a1 a2 a3 a4 a5 : Int) (h : 0 ≤ a2 ∧ a2 ≤ 65535) (hk : 65536 ≤ k) : spec_StepText.j2 (k + 1) o true a0 a1 a2 a3 a4 a5 = spec_StepText.j3 k (o ++ D_ a2) a0 a1 a2 a3 a4 a5 := by
  obtain ⟨e1, e2⟩ := app_ok h.1 h.2 ho
  rw [spec_StepText.j2, if_pos rfl, (num_at k a2 h.1 h.2 hk).1]
  simp only [Option.bind_some]
  rw [if_pos e1, if_pos e2]
  rfl
theorem spec_j4f (k : Nat) (o : ByteArray) (a0 a1 a2 a3 a4 a5 : Int) : spec_StepText.j4 (k + 1) o false a0 a1 a2 a3 a4 a5 = spec_StepText.j5 k o a0 a1 a2 a3 a4 a5 := by
  rw [spec_StepText.j4, if_neg (by decide)]
theorem spec_j4 (k : Nat) (o : ByteArray) (ho : o.size ≤ 1000000) (a0 a1 a2 a3 a4 a5 : Int) (h : 0 ≤ a3 ∧ a3 ≤ 65535) (hk : 65536 ≤ k) : spec_StepText.j4 (k + 1) o true a0 a1 a2 a3 a4 a5 = spec_StepText.j5 k (o ++ D_ a3) a0 a1 a2 a3 a4 a5 := by
  obtain ⟨e1, e2⟩ := app_ok h.1 h.2 ho
  rw [spec_StepText.j4, if_pos rfl, (num_at k a3 h.1 h.2 hk).1]
  simp only [Option.bind_some]
  rw [if_pos e1, if_pos e2]
  rfl
theorem spec_j7f (k : Nat) (o : ByteArray) (a0 a1 a2 a3 a4 a5 : Int) : spec_StepText.j7 (k + 1) o false a0 a1 a2 a3 a4 a5 = some (o, true) := by
  rw [spec_StepText.j7, if_neg (by decide)]

theorem spec_text1 (k : Nat) (o : ByteArray) (a1 a2 a3 a4 a5 : Int) (ho : o.size ≤ 1000) (hk : 65536 ≤ k) (h1 : 0 ≤ a1 ∧ a1 ≤ 65535) (h2 : 0 ≤ a2 ∧ a2 ≤ 65535) (h3 : 0 ≤ a3 ∧ a3 ≤ 65535) : spec_StepText.j0 (k + 8) o true 1 a1 a2 a3 a4 a5 = some ((((o ++ D_ a1) ++ D_ a2) ++ D_ a3), true) := by
  have s0 : o.size ≤ 1000000 := by omega
  have t1 := app_size h1.1 h1.2 ho
  have s1 : (o ++ D_ a1).size ≤ 1000000 := by omega
  have t2 := app_size h2.1 h2.2 t1
  have s2 : ((o ++ D_ a1) ++ D_ a2).size ≤ 1000000 := by omega
  have t3 := app_size h3.1 h3.2 t2
  have s3 : (((o ++ D_ a1) ++ D_ a2) ++ D_ a3).size ≤ 1000000 := by omega
  rw [spec_j0 (k + 7) _ s0 _ _ _ _ _ _ h1 (by omega)]
  rw [spec_StepText.j1, if_neg (by decide), show ((1 : Int) != 11) = true from by decide]
  rw [spec_j2 (k + 5) _ s1 _ _ _ _ _ _ h2 (by omega)]
  rw [spec_StepText.j3, if_pos (by decide), show ((1 : Int) == 1) = true from by decide]
  rw [spec_j4 (k + 3) _ s2 _ _ _ _ _ _ h3 (by omega)]
  rw [spec_StepText.j5, if_neg (by decide), if_neg (by decide), if_neg (by decide), if_neg (by decide), if_neg (by decide), show ((1 : Int) == 7) = false from by decide]
  rw [spec_StepText.j6, if_neg (by decide), if_neg (by decide), if_neg (by decide), show ((1 : Int) == 10) = false from by decide]
  rw [spec_j7f]
theorem impl_text1 (k : Nat) (a1 a2 a3 a4 a5 : Int) (h1 : 0 ≤ a1 ∧ a1 ≤ 65535) (h2 : 0 ≤ a2 ∧ a2 ≤ 65535) (h3 : 0 ≤ a3 ∧ a3 ≤ 65535) : impl_Step_text.f (k + 8) 1 a1 a2 a3 a4 a5 = some ((((⟨#[111, 112]⟩ : ByteArray) ++ D_ a1) ++ D_ a2) ++ D_ a3) := by
  unfold impl_Step_text.f
  rw [show impl_fields.f (k + 8) 1 = some ⟨#[111, 100, 115]⟩ by first | (simp [impl_fields.f, impl_fields.j0]; done) | simp [impl_fields.f, impl_fields.j0, impl_fields.j1]]
  simp only [Option.bind_some]
  rw [show wrap64 ((1 : Int) - 1) = 0 by unfold wrap64; omega, if_pos (by decide), if_pos (by decide), show rdOf ByteArray.empty textNames_ 0 = (⟨#[111, 112]⟩ : ByteArray) from rfl]
  exact text_ods (k + 4) 1 a1 a2 a3 a4 a5 _ (by decide) h1 h2 h3
theorem spec_text2 (k : Nat) (o : ByteArray) (a1 a2 a3 a4 a5 : Int) (ho : o.size ≤ 1000) (hk : 65536 ≤ k) (h1 : 0 ≤ a1 ∧ a1 ≤ 65535) (h2 : 0 ≤ a2 ∧ a2 ≤ 65535) (h4 : 0 ≤ a4 ∧ a4 ≤ 65535) : spec_StepText.j0 (k + 8) o true 2 a1 a2 a3 a4 a5 = some ((((o ++ D_ a1) ++ D_ a2) ++ D_ a4), true) := by
  have s0 : o.size ≤ 1000000 := by omega
  have t1 := app_size h1.1 h1.2 ho
  have s1 : (o ++ D_ a1).size ≤ 1000000 := by omega
  have t2 := app_size h2.1 h2.2 t1
  have s2 : ((o ++ D_ a1) ++ D_ a2).size ≤ 1000000 := by omega
  have t3 := app_size h4.1 h4.2 t2
  have s3 : (((o ++ D_ a1) ++ D_ a2) ++ D_ a4).size ≤ 1000000 := by omega
  rw [spec_j0 (k + 7) _ s0 _ _ _ _ _ _ h1 (by omega)]
  rw [spec_StepText.j1, if_neg (by decide), show ((2 : Int) != 11) = true from by decide]
  rw [spec_j2 (k + 5) _ s1 _ _ _ _ _ _ h2 (by omega)]
  rw [spec_StepText.j3, if_neg (by decide), if_neg (by decide), if_neg (by decide), show ((2 : Int) == 10) = false from by decide]
  rw [spec_j4f]
  rw [spec_StepText.j5, if_pos (by decide), show ((2 : Int) == 2) = true from by decide]
  rw [spec_j6 (k + 1) _ s2 _ _ _ _ _ _ h4 (by omega)]
theorem impl_text2 (k : Nat) (a1 a2 a3 a4 a5 : Int) (h1 : 0 ≤ a1 ∧ a1 ≤ 65535) (h2 : 0 ≤ a2 ∧ a2 ≤ 65535) (h4 : 0 ≤ a4 ∧ a4 ≤ 65535) : impl_Step_text.f (k + 8) 2 a1 a2 a3 a4 a5 = some ((((⟨#[111, 112, 105]⟩ : ByteArray) ++ D_ a1) ++ D_ a2) ++ D_ a4) := by
  unfold impl_Step_text.f
  rw [show impl_fields.f (k + 8) 2 = some ⟨#[111, 100, 105]⟩ by first | (simp [impl_fields.f, impl_fields.j0]; done) | simp [impl_fields.f, impl_fields.j0, impl_fields.j1]]
  simp only [Option.bind_some]
  rw [show wrap64 ((2 : Int) - 1) = 1 by unfold wrap64; omega, if_pos (by decide), if_pos (by decide), show rdOf ByteArray.empty textNames_ 1 = (⟨#[111, 112, 105]⟩ : ByteArray) from rfl]
  exact text_odi (k + 4) 2 a1 a2 a3 a4 a5 _ (by decide) h1 h2 h4
theorem spec_text3 (k : Nat) (o : ByteArray) (a1 a2 a3 a4 a5 : Int) (ho : o.size ≤ 1000) (hk : 65536 ≤ k) (h2 : 0 ≤ a2 ∧ a2 ≤ 65535) (h4 : 0 ≤ a4 ∧ a4 ≤ 65535) : spec_StepText.j0 (k + 8) o false 3 a1 a2 a3 a4 a5 = some (((o ++ D_ a2) ++ D_ a4), true) := by
  have s0 : o.size ≤ 1000000 := by omega
  have t1 := app_size h2.1 h2.2 ho
  have s1 : (o ++ D_ a2).size ≤ 1000000 := by omega
  have t2 := app_size h4.1 h4.2 t1
  have s2 : ((o ++ D_ a2) ++ D_ a4).size ≤ 1000000 := by omega
  rw [spec_j0f]
  rw [spec_StepText.j1, if_neg (by decide), show ((3 : Int) != 11) = true from by decide]
  rw [spec_j2 (k + 5) _ s0 _ _ _ _ _ _ h2 (by omega)]
  rw [spec_StepText.j3, if_neg (by decide), if_neg (by decide), if_neg (by decide), show ((3 : Int) == 10) = false from by decide]
  rw [spec_j4f]
  rw [spec_StepText.j5, if_neg (by decide), if_pos (by decide), show ((3 : Int) == 3) = true from by decide]
  rw [spec_j6 (k + 1) _ s1 _ _ _ _ _ _ h4 (by omega)]
theorem impl_text3 (k : Nat) (a1 a2 a3 a4 a5 : Int) (h2 : 0 ≤ a2 ∧ a2 ≤ 65535) (h4 : 0 ≤ a4 ∧ a4 ≤ 65535) : impl_Step_text.f (k + 8) 3 a1 a2 a3 a4 a5 = some (((⟨#[115, 101, 116]⟩ : ByteArray) ++ D_ a2) ++ D_ a4) := by
  unfold impl_Step_text.f
  rw [show impl_fields.f (k + 8) 3 = some ⟨#[100, 105]⟩ by first | (simp [impl_fields.f, impl_fields.j0]; done) | simp [impl_fields.f, impl_fields.j0, impl_fields.j1]]
  simp only [Option.bind_some]
  rw [show wrap64 ((3 : Int) - 1) = 2 by unfold wrap64; omega, if_pos (by decide), if_pos (by decide), show rdOf ByteArray.empty textNames_ 2 = (⟨#[115, 101, 116]⟩ : ByteArray) from rfl]
  exact text_di (k + 5) 3 a1 a2 a3 a4 a5 _ (by decide) h2 h4
theorem spec_text4 (k : Nat) (o : ByteArray) (a1 a2 a3 a4 a5 : Int) (ho : o.size ≤ 1000) (hk : 65536 ≤ k) (h2 : 0 ≤ a2 ∧ a2 ≤ 65535) (h4 : 0 ≤ a4 ∧ a4 ≤ 65535) : spec_StepText.j0 (k + 8) o false 4 a1 a2 a3 a4 a5 = some (((o ++ D_ a2) ++ D_ a4), true) := by
  have s0 : o.size ≤ 1000000 := by omega
  have t1 := app_size h2.1 h2.2 ho
  have s1 : (o ++ D_ a2).size ≤ 1000000 := by omega
  have t2 := app_size h4.1 h4.2 t1
  have s2 : ((o ++ D_ a2) ++ D_ a4).size ≤ 1000000 := by omega
  rw [spec_j0f]
  rw [spec_StepText.j1, if_neg (by decide), show ((4 : Int) != 11) = true from by decide]
  rw [spec_j2 (k + 5) _ s0 _ _ _ _ _ _ h2 (by omega)]
  rw [spec_StepText.j3, if_neg (by decide), if_neg (by decide), if_neg (by decide), show ((4 : Int) == 10) = false from by decide]
  rw [spec_j4f]
  rw [spec_StepText.j5, if_neg (by decide), if_neg (by decide), if_pos (by decide), show ((4 : Int) == 4) = true from by decide]
  rw [spec_j6 (k + 1) _ s1 _ _ _ _ _ _ h4 (by omega)]
theorem impl_text4 (k : Nat) (a1 a2 a3 a4 a5 : Int) (h2 : 0 ≤ a2 ∧ a2 ≤ 65535) (h4 : 0 ≤ a4 ∧ a4 ≤ 65535) : impl_Step_text.f (k + 8) 4 a1 a2 a3 a4 a5 = some (((⟨#[119, 105, 100, 101]⟩ : ByteArray) ++ D_ a2) ++ D_ a4) := by
  unfold impl_Step_text.f
  rw [show impl_fields.f (k + 8) 4 = some ⟨#[100, 105]⟩ by first | (simp [impl_fields.f, impl_fields.j0]; done) | simp [impl_fields.f, impl_fields.j0, impl_fields.j1]]
  simp only [Option.bind_some]
  rw [show wrap64 ((4 : Int) - 1) = 3 by unfold wrap64; omega, if_pos (by decide), if_pos (by decide), show rdOf ByteArray.empty textNames_ 3 = (⟨#[119, 105, 100, 101]⟩ : ByteArray) from rfl]
  exact text_di (k + 5) 4 a1 a2 a3 a4 a5 _ (by decide) h2 h4
theorem spec_text5 (k : Nat) (o : ByteArray) (a1 a2 a3 a4 a5 : Int) (ho : o.size ≤ 1000) (hk : 65536 ≤ k) (h2 : 0 ≤ a2 ∧ a2 ≤ 65535) (h3 : 0 ≤ a3 ∧ a3 ≤ 65535) (h4 : 0 ≤ a4 ∧ a4 ≤ 65535) : spec_StepText.j0 (k + 8) o false 5 a1 a2 a3 a4 a5 = some ((((o ++ D_ a2) ++ D_ a3) ++ D_ a4), true) := by
  have s0 : o.size ≤ 1000000 := by omega
  have t1 := app_size h2.1 h2.2 ho
  have s1 : (o ++ D_ a2).size ≤ 1000000 := by omega
  have t2 := app_size h3.1 h3.2 t1
  have s2 : ((o ++ D_ a2) ++ D_ a3).size ≤ 1000000 := by omega
  have t3 := app_size h4.1 h4.2 t2
  have s3 : (((o ++ D_ a2) ++ D_ a3) ++ D_ a4).size ≤ 1000000 := by omega
  rw [spec_j0f]
  rw [spec_StepText.j1, if_neg (by decide), show ((5 : Int) != 11) = true from by decide]
  rw [spec_j2 (k + 5) _ s0 _ _ _ _ _ _ h2 (by omega)]
  rw [spec_StepText.j3, if_neg (by decide), if_pos (by decide), show ((5 : Int) == 5) = true from by decide]
  rw [spec_j4 (k + 3) _ s1 _ _ _ _ _ _ h3 (by omega)]
  rw [spec_StepText.j5, if_neg (by decide), if_neg (by decide), if_neg (by decide), if_pos (by decide), show ((5 : Int) == 5) = true from by decide]
  rw [spec_j6 (k + 1) _ s2 _ _ _ _ _ _ h4 (by omega)]
theorem impl_text5 (k : Nat) (a1 a2 a3 a4 a5 : Int) (h2 : 0 ≤ a2 ∧ a2 ≤ 65535) (h3 : 0 ≤ a3 ∧ a3 ≤ 65535) (h4 : 0 ≤ a4 ∧ a4 ≤ 65535) : impl_Step_text.f (k + 8) 5 a1 a2 a3 a4 a5 = some ((((⟨#[99, 116, 120]⟩ : ByteArray) ++ D_ a2) ++ D_ a3) ++ D_ a4) := by
  unfold impl_Step_text.f
  rw [show impl_fields.f (k + 8) 5 = some ⟨#[100, 115, 105]⟩ by first | (simp [impl_fields.f, impl_fields.j0]; done) | simp [impl_fields.f, impl_fields.j0, impl_fields.j1]]
  simp only [Option.bind_some]
  rw [show wrap64 ((5 : Int) - 1) = 4 by unfold wrap64; omega, if_pos (by decide), if_pos (by decide), show rdOf ByteArray.empty textNames_ 4 = (⟨#[99, 116, 120]⟩ : ByteArray) from rfl]
  exact text_dsi (k + 4) 5 a1 a2 a3 a4 a5 _ (by decide) h2 h3 h4
theorem spec_text6 (k : Nat) (o : ByteArray) (a1 a2 a3 a4 a5 : Int) (ho : o.size ≤ 1000) (hk : 65536 ≤ k) (h2 : 0 ≤ a2 ∧ a2 ≤ 65535) (h4 : 0 ≤ a4 ∧ a4 ≤ 65535) : spec_StepText.j0 (k + 8) o false 6 a1 a2 a3 a4 a5 = some (((o ++ D_ a2) ++ D_ a4), true) := by
  have s0 : o.size ≤ 1000000 := by omega
  have t1 := app_size h2.1 h2.2 ho
  have s1 : (o ++ D_ a2).size ≤ 1000000 := by omega
  have t2 := app_size h4.1 h4.2 t1
  have s2 : ((o ++ D_ a2) ++ D_ a4).size ≤ 1000000 := by omega
  rw [spec_j0f]
  rw [spec_StepText.j1, if_neg (by decide), show ((6 : Int) != 11) = true from by decide]
  rw [spec_j2 (k + 5) _ s0 _ _ _ _ _ _ h2 (by omega)]
  rw [spec_StepText.j3, if_neg (by decide), if_neg (by decide), if_neg (by decide), show ((6 : Int) == 10) = false from by decide]
  rw [spec_j4f]
  rw [spec_StepText.j5, if_neg (by decide), if_neg (by decide), if_neg (by decide), if_neg (by decide), if_pos (by decide), show ((6 : Int) == 6) = true from by decide]
  rw [spec_j6 (k + 1) _ s1 _ _ _ _ _ _ h4 (by omega)]
theorem impl_text6 (k : Nat) (a1 a2 a3 a4 a5 : Int) (h2 : 0 ≤ a2 ∧ a2 ≤ 65535) (h4 : 0 ≤ a4 ∧ a4 ≤ 65535) : impl_Step_text.f (k + 8) 6 a1 a2 a3 a4 a5 = some (((⟨#[108, 111, 97, 100]⟩ : ByteArray) ++ D_ a2) ++ D_ a4) := by
  unfold impl_Step_text.f
  rw [show impl_fields.f (k + 8) 6 = some ⟨#[100, 105]⟩ by first | (simp [impl_fields.f, impl_fields.j0]; done) | simp [impl_fields.f, impl_fields.j0, impl_fields.j1]]
  simp only [Option.bind_some]
  rw [show wrap64 ((6 : Int) - 1) = 5 by unfold wrap64; omega, if_pos (by decide), if_pos (by decide), show rdOf ByteArray.empty textNames_ 5 = (⟨#[108, 111, 97, 100]⟩ : ByteArray) from rfl]
  exact text_di (k + 5) 6 a1 a2 a3 a4 a5 _ (by decide) h2 h4
theorem spec_text7 (k : Nat) (o : ByteArray) (a1 a2 a3 a4 a5 : Int) (ho : o.size ≤ 1000) (hk : 65536 ≤ k) (h2 : 0 ≤ a2 ∧ a2 ≤ 65535) (h4 : 0 ≤ a4 ∧ a4 ≤ 65535) : spec_StepText.j0 (k + 8) o false 7 a1 a2 a3 a4 a5 = some (((o ++ D_ a2) ++ D_ a4), true) := by
  have s0 : o.size ≤ 1000000 := by omega
  have t1 := app_size h2.1 h2.2 ho
  have s1 : (o ++ D_ a2).size ≤ 1000000 := by omega
  have t2 := app_size h4.1 h4.2 t1
  have s2 : ((o ++ D_ a2) ++ D_ a4).size ≤ 1000000 := by omega
  rw [spec_j0f]
  rw [spec_StepText.j1, if_neg (by decide), show ((7 : Int) != 11) = true from by decide]
  rw [spec_j2 (k + 5) _ s0 _ _ _ _ _ _ h2 (by omega)]
  rw [spec_StepText.j3, if_neg (by decide), if_neg (by decide), if_neg (by decide), show ((7 : Int) == 10) = false from by decide]
  rw [spec_j4f]
  rw [spec_StepText.j5, if_neg (by decide), if_neg (by decide), if_neg (by decide), if_neg (by decide), if_neg (by decide), show ((7 : Int) == 7) = true from by decide]
  rw [spec_j6 (k + 1) _ s1 _ _ _ _ _ _ h4 (by omega)]
theorem impl_text7 (k : Nat) (a1 a2 a3 a4 a5 : Int) (h2 : 0 ≤ a2 ∧ a2 ≤ 65535) (h4 : 0 ≤ a4 ∧ a4 ≤ 65535) : impl_Step_text.f (k + 8) 7 a1 a2 a3 a4 a5 = some (((⟨#[115, 116, 111, 114, 101]⟩ : ByteArray) ++ D_ a2) ++ D_ a4) := by
  unfold impl_Step_text.f
  rw [show impl_fields.f (k + 8) 7 = some ⟨#[100, 105]⟩ by first | (simp [impl_fields.f, impl_fields.j0]; done) | simp [impl_fields.f, impl_fields.j0, impl_fields.j1]]
  simp only [Option.bind_some]
  rw [show wrap64 ((7 : Int) - 1) = 6 by unfold wrap64; omega, if_pos (by decide), if_pos (by decide), show rdOf ByteArray.empty textNames_ 6 = (⟨#[115, 116, 111, 114, 101]⟩ : ByteArray) from rfl]
  exact text_di (k + 5) 7 a1 a2 a3 a4 a5 _ (by decide) h2 h4
theorem spec_text8 (k : Nat) (o : ByteArray) (a1 a2 a3 a4 a5 : Int) (ho : o.size ≤ 1000) (hk : 65536 ≤ k) (h5 : 0 ≤ a5 ∧ a5 ≤ 65535) : spec_StepText.j0 (k + 8) o false 8 a1 a2 a3 a4 a5 = some ((o ++ D_ a5), true) := by
  have s0 : o.size ≤ 1000000 := by omega
  have t1 := app_size h5.1 h5.2 ho
  have s1 : (o ++ D_ a5).size ≤ 1000000 := by omega
  rw [spec_j0f]
  rw [spec_StepText.j1, if_pos (by decide), spec_j2f]
  rw [spec_StepText.j3, if_neg (by decide), if_neg (by decide), if_neg (by decide), show ((8 : Int) == 10) = false from by decide]
  rw [spec_j4f]
  rw [spec_StepText.j5, if_neg (by decide), if_neg (by decide), if_neg (by decide), if_neg (by decide), if_neg (by decide), show ((8 : Int) == 7) = false from by decide]
  rw [spec_StepText.j6, if_neg (by decide), if_pos (by decide), show ((8 : Int) == 8) = true from by decide]
  rw [spec_j7 k _ s0 _ _ _ _ _ _ h5 (by omega)]
theorem impl_text8 (k : Nat) (a1 a2 a3 a4 a5 : Int) (h5 : 0 ≤ a5 ∧ a5 ≤ 65535) : impl_Step_text.f (k + 8) 8 a1 a2 a3 a4 a5 = some ((⟨#[106, 117, 109, 112]⟩ : ByteArray) ++ D_ a5) := by
  unfold impl_Step_text.f
  rw [show impl_fields.f (k + 8) 8 = some ⟨#[116]⟩ by first | (simp [impl_fields.f, impl_fields.j0]; done) | simp [impl_fields.f, impl_fields.j0, impl_fields.j1]]
  simp only [Option.bind_some]
  rw [show wrap64 ((8 : Int) - 1) = 7 by unfold wrap64; omega, if_pos (by decide), if_pos (by decide), show rdOf ByteArray.empty textNames_ 7 = (⟨#[106, 117, 109, 112]⟩ : ByteArray) from rfl]
  exact text_t (k + 6) 8 a1 a2 a3 a4 a5 _ (by decide) h5
theorem spec_text9 (k : Nat) (o : ByteArray) (a1 a2 a3 a4 a5 : Int) (ho : o.size ≤ 1000) (hk : 65536 ≤ k) (h2 : 0 ≤ a2 ∧ a2 ≤ 65535) (h3 : 0 ≤ a3 ∧ a3 ≤ 65535) (h5 : 0 ≤ a5 ∧ a5 ≤ 65535) : spec_StepText.j0 (k + 8) o false 9 a1 a2 a3 a4 a5 = some ((((o ++ D_ a2) ++ D_ a3) ++ D_ a5), true) := by
  have s0 : o.size ≤ 1000000 := by omega
  have t1 := app_size h2.1 h2.2 ho
  have s1 : (o ++ D_ a2).size ≤ 1000000 := by omega
  have t2 := app_size h3.1 h3.2 t1
  have s2 : ((o ++ D_ a2) ++ D_ a3).size ≤ 1000000 := by omega
  have t3 := app_size h5.1 h5.2 t2
  have s3 : (((o ++ D_ a2) ++ D_ a3) ++ D_ a5).size ≤ 1000000 := by omega
  rw [spec_j0f]
  rw [spec_StepText.j1, if_neg (by decide), show ((9 : Int) != 11) = true from by decide]
  rw [spec_j2 (k + 5) _ s0 _ _ _ _ _ _ h2 (by omega)]
  rw [spec_StepText.j3, if_neg (by decide), if_neg (by decide), if_pos (by decide), show ((9 : Int) == 9) = true from by decide]
  rw [spec_j4 (k + 3) _ s1 _ _ _ _ _ _ h3 (by omega)]
  rw [spec_StepText.j5, if_neg (by decide), if_neg (by decide), if_neg (by decide), if_neg (by decide), if_neg (by decide), show ((9 : Int) == 7) = false from by decide]
  rw [spec_StepText.j6, if_neg (by decide), if_neg (by decide), if_pos (by decide), show ((9 : Int) == 9) = true from by decide]
  rw [spec_j7 k _ s2 _ _ _ _ _ _ h5 (by omega)]
theorem impl_text9 (k : Nat) (a1 a2 a3 a4 a5 : Int) (h2 : 0 ≤ a2 ∧ a2 ≤ 65535) (h3 : 0 ≤ a3 ∧ a3 ≤ 65535) (h5 : 0 ≤ a5 ∧ a5 ≤ 65535) : impl_Step_text.f (k + 8) 9 a1 a2 a3 a4 a5 = some ((((⟨#[101, 113]⟩ : ByteArray) ++ D_ a2) ++ D_ a3) ++ D_ a5) := by
  unfold impl_Step_text.f
  rw [show impl_fields.f (k + 8) 9 = some ⟨#[100, 115, 116]⟩ by first | (simp [impl_fields.f, impl_fields.j0]; done) | simp [impl_fields.f, impl_fields.j0, impl_fields.j1]]
  simp only [Option.bind_some]
  rw [show wrap64 ((9 : Int) - 1) = 8 by unfold wrap64; omega, if_pos (by decide), if_pos (by decide), show rdOf ByteArray.empty textNames_ 8 = (⟨#[101, 113]⟩ : ByteArray) from rfl]
  exact text_dst (k + 4) 9 a1 a2 a3 a4 a5 _ (by decide) h2 h3 h5
theorem spec_text10 (k : Nat) (o : ByteArray) (a1 a2 a3 a4 a5 : Int) (ho : o.size ≤ 1000) (hk : 65536 ≤ k) (h2 : 0 ≤ a2 ∧ a2 ≤ 65535) (h3 : 0 ≤ a3 ∧ a3 ≤ 65535) (h5 : 0 ≤ a5 ∧ a5 ≤ 65535) : spec_StepText.j0 (k + 8) o false 10 a1 a2 a3 a4 a5 = some ((((o ++ D_ a2) ++ D_ a3) ++ D_ a5), true) := by
  have s0 : o.size ≤ 1000000 := by omega
  have t1 := app_size h2.1 h2.2 ho
  have s1 : (o ++ D_ a2).size ≤ 1000000 := by omega
  have t2 := app_size h3.1 h3.2 t1
  have s2 : ((o ++ D_ a2) ++ D_ a3).size ≤ 1000000 := by omega
  have t3 := app_size h5.1 h5.2 t2
  have s3 : (((o ++ D_ a2) ++ D_ a3) ++ D_ a5).size ≤ 1000000 := by omega
  rw [spec_j0f]
  rw [spec_StepText.j1, if_neg (by decide), show ((10 : Int) != 11) = true from by decide]
  rw [spec_j2 (k + 5) _ s0 _ _ _ _ _ _ h2 (by omega)]
  rw [spec_StepText.j3, if_neg (by decide), if_neg (by decide), if_neg (by decide), show ((10 : Int) == 10) = true from by decide]
  rw [spec_j4 (k + 3) _ s1 _ _ _ _ _ _ h3 (by omega)]
  rw [spec_StepText.j5, if_neg (by decide), if_neg (by decide), if_neg (by decide), if_neg (by decide), if_neg (by decide), show ((10 : Int) == 7) = false from by decide]
  rw [spec_StepText.j6, if_neg (by decide), if_neg (by decide), if_neg (by decide), show ((10 : Int) == 10) = true from by decide]
  rw [spec_j7 k _ s2 _ _ _ _ _ _ h5 (by omega)]
theorem impl_text10 (k : Nat) (a1 a2 a3 a4 a5 : Int) (h2 : 0 ≤ a2 ∧ a2 ≤ 65535) (h3 : 0 ≤ a3 ∧ a3 ≤ 65535) (h5 : 0 ≤ a5 ∧ a5 ≤ 65535) : impl_Step_text.f (k + 8) 10 a1 a2 a3 a4 a5 = some ((((⟨#[108, 101, 115, 115]⟩ : ByteArray) ++ D_ a2) ++ D_ a3) ++ D_ a5) := by
  unfold impl_Step_text.f
  rw [show impl_fields.f (k + 8) 10 = some ⟨#[100, 115, 116]⟩ by first | (simp [impl_fields.f, impl_fields.j0]; done) | simp [impl_fields.f, impl_fields.j0, impl_fields.j1]]
  simp only [Option.bind_some]
  rw [show wrap64 ((10 : Int) - 1) = 9 by unfold wrap64; omega, if_pos (by decide), if_pos (by decide), show rdOf ByteArray.empty textNames_ 9 = (⟨#[108, 101, 115, 115]⟩ : ByteArray) from rfl]
  exact text_dst (k + 4) 10 a1 a2 a3 a4 a5 _ (by decide) h2 h3 h5
theorem spec_text11 (k : Nat) (o : ByteArray) (a1 a2 a3 a4 a5 : Int) (ho : o.size ≤ 1000) (hk : 65536 ≤ k)  : spec_StepText.j0 (k + 8) o false 11 a1 a2 a3 a4 a5 = some (o, true) := by
  have s0 : o.size ≤ 1000000 := by omega
  rw [spec_j0f]
  rw [spec_StepText.j1, if_neg (by decide), show ((11 : Int) != 11) = false from by decide]
  rw [spec_j2f]
  rw [spec_StepText.j3, if_neg (by decide), if_neg (by decide), if_neg (by decide), show ((11 : Int) == 10) = false from by decide]
  rw [spec_j4f]
  rw [spec_StepText.j5, if_neg (by decide), if_neg (by decide), if_neg (by decide), if_neg (by decide), if_neg (by decide), show ((11 : Int) == 7) = false from by decide]
  rw [spec_StepText.j6, if_neg (by decide), if_neg (by decide), if_neg (by decide), show ((11 : Int) == 10) = false from by decide]
  rw [spec_j7f]
theorem impl_text11 (k : Nat) (a1 a2 a3 a4 a5 : Int)  : impl_Step_text.f (k + 8) 11 a1 a2 a3 a4 a5 = some (⟨#[101, 120, 105, 116]⟩ : ByteArray) := by
  unfold impl_Step_text.f
  rw [show impl_fields.f (k + 8) 11 = some ⟨#[]⟩ by first | (simp [impl_fields.f, impl_fields.j0]; done) | simp [impl_fields.f, impl_fields.j0, impl_fields.j1]]
  simp only [Option.bind_some]
  rw [show wrap64 ((11 : Int) - 1) = 10 by unfold wrap64; omega, if_pos (by decide), if_pos (by decide), show rdOf ByteArray.empty textNames_ 10 = (⟨#[101, 120, 105, 116]⟩ : ByteArray) from rfl]
  exact text_end (k + 7) 11 a1 a2 a3 a4 a5 _ _ 0 (by decide)
theorem text_both (a0 a1 a2 a3 a4 a5 : Int) (h : stepB a0 a1 a2 a3 a4 a5 = true) (k : Nat) (hk : 65536 ≤ k) : ∃ t : ByteArray, impl_Step_text.f (k + 8) a0 a1 a2 a3 a4 a5 = some t ∧ spec_StepText.f (k + 8) a0 a1 a2 a3 a4 a5 = some (t, true) := by
  obtain ⟨⟨h0, h0'⟩, h1, h2, h3, h4, h5, _⟩ := step_bd _ _ _ _ _ _ h
  replace h1 : 0 ≤ a1 ∧ a1 ≤ 65535 := by omega
  replace h2 : 0 ≤ a2 ∧ a2 ≤ 65535 := by omega
  replace h3 : 0 ≤ a3 ∧ a3 ≤ 65535 := by omega
  replace h5 : 0 ≤ a5 ∧ a5 ≤ 65535 := by omega
  unfold spec_StepText.f
  rw [specStep_val _ _ _ _ _ _ _ (by omega), h]
  simp only [Option.bind_some]
  rw [if_pos trivial]
  by_cases c1 : a0 = 1
  · subst c1
    refine ⟨_, impl_text1 k a1 a2 a3 a4 a5 h1 h2 h3, ?_⟩
    rw [if_pos (by decide), if_pos (by decide), if_pos rfl]
    exact spec_text1 k _ a1 a2 a3 a4 a5 (by decide) hk h1 h2 h3
  by_cases c2 : a0 = 2
  · subst c2
    refine ⟨_, impl_text2 k a1 a2 a3 a4 a5 h1 h2 h4, ?_⟩
    rw [if_pos (by decide), if_pos (by decide), if_neg (by decide), show ((2 : Int) == 2) = true from by decide]
    exact spec_text2 k _ a1 a2 a3 a4 a5 (by decide) hk h1 h2 h4
  by_cases c3 : a0 = 3
  · subst c3
    refine ⟨_, impl_text3 k a1 a2 a3 a4 a5 h2 h4, ?_⟩
    rw [if_pos (by decide), if_pos (by decide), if_neg (by decide), show ((3 : Int) == 2) = false from by decide]
    exact spec_text3 k _ a1 a2 a3 a4 a5 (by decide) hk h2 h4
  by_cases c4 : a0 = 4
  · subst c4
    refine ⟨_, impl_text4 k a1 a2 a3 a4 a5 h2 h4, ?_⟩
    rw [if_pos (by decide), if_pos (by decide), if_neg (by decide), show ((4 : Int) == 2) = false from by decide]
    exact spec_text4 k _ a1 a2 a3 a4 a5 (by decide) hk h2 h4
  by_cases c5 : a0 = 5
  · subst c5
    refine ⟨_, impl_text5 k a1 a2 a3 a4 a5 h2 h3 h4, ?_⟩
    rw [if_pos (by decide), if_pos (by decide), if_neg (by decide), show ((5 : Int) == 2) = false from by decide]
    exact spec_text5 k _ a1 a2 a3 a4 a5 (by decide) hk h2 h3 h4
  by_cases c6 : a0 = 6
  · subst c6
    refine ⟨_, impl_text6 k a1 a2 a3 a4 a5 h2 h4, ?_⟩
    rw [if_pos (by decide), if_pos (by decide), if_neg (by decide), show ((6 : Int) == 2) = false from by decide]
    exact spec_text6 k _ a1 a2 a3 a4 a5 (by decide) hk h2 h4
  by_cases c7 : a0 = 7
  · subst c7
    refine ⟨_, impl_text7 k a1 a2 a3 a4 a5 h2 h4, ?_⟩
    rw [if_pos (by decide), if_pos (by decide), if_neg (by decide), show ((7 : Int) == 2) = false from by decide]
    exact spec_text7 k _ a1 a2 a3 a4 a5 (by decide) hk h2 h4
  by_cases c8 : a0 = 8
  · subst c8
    refine ⟨_, impl_text8 k a1 a2 a3 a4 a5 h5, ?_⟩
    rw [if_pos (by decide), if_pos (by decide), if_neg (by decide), show ((8 : Int) == 2) = false from by decide]
    exact spec_text8 k _ a1 a2 a3 a4 a5 (by decide) hk h5
  by_cases c9 : a0 = 9
  · subst c9
    refine ⟨_, impl_text9 k a1 a2 a3 a4 a5 h2 h3 h5, ?_⟩
    rw [if_pos (by decide), if_pos (by decide), if_neg (by decide), show ((9 : Int) == 2) = false from by decide]
    exact spec_text9 k _ a1 a2 a3 a4 a5 (by decide) hk h2 h3 h5
  by_cases c10 : a0 = 10
  · subst c10
    refine ⟨_, impl_text10 k a1 a2 a3 a4 a5 h2 h3 h5, ?_⟩
    rw [if_pos (by decide), if_pos (by decide), if_neg (by decide), show ((10 : Int) == 2) = false from by decide]
    exact spec_text10 k _ a1 a2 a3 a4 a5 (by decide) hk h2 h3 h5
  by_cases c11 : a0 = 11
  · subst c11
    refine ⟨_, impl_text11 k a1 a2 a3 a4 a5 , ?_⟩
    rw [if_pos (by decide), if_pos (by decide), if_neg (by decide), show ((11 : Int) == 2) = false from by decide]
    exact spec_text11 k _ a1 a2 a3 a4 a5 (by decide) hk 
  omega

theorem FnExactStepText : laws_FnExactStepText.Pure := by
  intro a0 a1 a2 a3 a4 a5 _ _ _ _ _ _
  refine ⟨65536 + 8, ?_⟩
  unfold laws_FnExactStepText.f laws_toStep.f impl_StepText.f
  simp only [Option.bind_some, implStep_val a0 a1 a2 a3 a4 a5 (65536 + 8) (by omega)]
  cases h : stepB a0 a1 a2 a3 a4 a5 with
  | false =>
    unfold spec_StepText.f
    rw [specStep_val _ _ _ _ _ _ _ (by omega), h]
    simp [laws_FnExactStepText.j0]
  | true =>
    obtain ⟨t, h1, h2⟩ := text_both a0 a1 a2 a3 a4 a5 h 65536 (by omega)
    rw [h1, h2]
    simp [laws_FnExactStepText.j0]

end Go.Proofs.YtjopmdogdmdanaaDoor.Pure
