/- The pure statement of the law FnExactProgramBytes: the printed functions of the program and of the reference give the same answers, at every input that the statement's guards let in. -/
import Derived.Test.YtjopmdogdmdanaaPFnExactProgramBytesx6
namespace Go.Proofs.Ytjopmdogdmdanaa.Pure
open Go.RowKit Go.Proofs.Ytjopmdogdmdanaa.PFnExactProgramBytes Go.Proofs.YtjopmdogdmdanaaW.PrintWords Go.Proofs.YtjopmdogdmdanaaW.PrintLast Go.Proofs.YtjopmdogdmdanaaW.PrintMore
set_option linter.unusedSimpArgs false
set_option linter.unusedVariables false
set_option linter.unusedSimpArgs false
set_option linter.unusedVariables false
theorem w64 {x : Int} (h0 : -9223372036854775808 ≤ x) (h1 : x ≤ 9223372036854775807) : wrap64 x = x := by
  unfold wrap64
  omega
theorem l64 {a : Int} (h : (Lit.int .i64 a).wf = true) : -9223372036854775808 ≤ a ∧ a ≤ 9223372036854775807 := by
  simp only [Lit.wf, IntKind.min, IntKind.max, IntKind.signed, IntKind.bits, Bool.and_eq_true, decide_eq_true_eq, if_true] at h
  omega
theorem rd_nat (l : List Int) (i : Nat) (h : i < l.length) : rd l (i : Int) = l[i] := by
  unfold rd
  rw [List.getD_eq_getElem?_getD, show ((i : Int).toNat) = i by omega, List.getElem?_eq_getElem h]
  rfl
theorem next64 {i : Nat} (h : i ≤ 4611686018427387904) : wrap64 ((i : Int) + 1) = ((i + 1 : Nat) : Int) := by
  rw [w64 (by omega) (by omega)]
  omega

theorem rd26_nat (l : List S26) (i : Nat) (h : i < l.length) : rd_T26 l (i : Int) = l[i] := by
  unfold rd_T26
  rw [List.getD_eq_getElem?_getD, show ((i : Int).toNat) = i by omega, List.getElem?_eq_getElem h]
  rfl
theorem eqStep_val (a0 a1 a2 a3 a4 a5 : Int) : laws_eqStep.f a0 a1 a2 a3 a4 a5 a0 a1 a2 a3 a4 a5 = some true := by simp [laws_eqStep.f]
theorem eqStepS_l (l : List S26) (hl : l.length ≤ 4611686018427387904) : ∀ (d i k : Nat), i + d = l.length → d < k → laws_eqStepS.l0 k l l (i : Int) = some true
  | 0, i, k, h1, hk => by
    obtain ⟨k, rfl⟩ : ∃ m, k = m + 1 := ⟨k - 1, by omega⟩
    simp only [laws_eqStepS.l0]
    rw [if_neg (by omega)]
  | d + 1, i, k, h1, hk => by
    obtain ⟨k, rfl⟩ : ∃ m, k = m + 1 := ⟨k - 1, by omega⟩
    simp only [laws_eqStepS.l0, eqStep_val, Option.bind_some]
    rw [if_pos (by omega), if_pos (by omega), if_pos (by omega), if_true, next64 (by omega)]
    exact eqStepS_l l hl d (i + 1) k (by omega) (by omega)
theorem eqStepS_val (l : List S26) (hl : l.length ≤ 4611686018427387904) (k : Nat) (hk : l.length < k) : laws_eqStepS.f k l l = some true := by
  unfold laws_eqStepS.f
  rw [if_pos rfl]
  exact eqStepS_l l hl l.length 0 k (by omega) hk
theorem dropS_at (l : List S26) (i : Nat) (h : i < l.length) : l.drop i = l[i] :: l.drop (i + 1) := List.drop_eq_getElem_cons h

def cv_ (x : S23) : S26 := ⟨x.f0, x.f1, x.f2, x.f3, x.f4, x.f5⟩
theorem rd23_nat (l : List S23) (i : Nat) (h : i < l.length) : rd_T23 l (i : Int) = l[i] := by
  unfold rd_T23
  rw [List.getD_eq_getElem?_getD, show ((i : Int).toNat) = i by omega, List.getElem?_eq_getElem h]
  rfl
theorem szStepS_val (l : List S23) (hl : l.length ≤ 9223372036854775807) : ∃ t, laws_szStepS.f l 1048576 = some t ∧ t ≤ 1048576 ∧ (0 ≤ t → l.length ≤ 1048576) := by
  unfold laws_szStepS.f
  rw [w64 (by omega) (by omega)]
  by_cases h : (1048576 : Int) - (l.length : Int) < 0
  · rw [if_pos h]
    exact ⟨-1, rfl, by omega, fun h => absurd h (by omega)⟩
  · rw [if_neg h]
    exact ⟨_, rfl, by omega, fun _ => by omega⟩
theorem toStepS_l (l : List S23) (hl : l.length ≤ 1048576) : ∀ (d i : Nat) (y : List S26) (k : Nat), i + d = l.length → y.length = l.length → (∀ j, j < i → y[j]? = (l.map cv_)[j]?) → d < k → laws_toStepS.l0 k l y (i : Int) = some (l.map cv_)
  | 0, i, y, k, h1, h2, h3, hk => by
    obtain ⟨k, rfl⟩ : ∃ m, k = m + 1 := ⟨k - 1, by omega⟩
    simp only [laws_toStepS.l0]
    rw [if_neg (by omega)]
    congr 1
    apply List.ext_getElem?
    intro j
    by_cases hj : j < i
    · exact h3 j hj
    · rw [List.getElem?_eq_none (by omega), List.getElem?_eq_none (by rw [List.length_map]; omega)]
  | d + 1, i, y, k, h1, h2, h3, hk => by
    obtain ⟨k, rfl⟩ : ∃ m, k = m + 1 := ⟨k - 1, by omega⟩
    simp only [laws_toStepS.l0, laws_toStep.f, Option.bind_some]
    rw [if_pos (by omega), if_pos (by omega), if_pos (by omega), next64 (by omega), rd23_nat l i (by omega)]
    refine toStepS_l l hl d (i + 1) _ k (by omega) (by rw [List.length_set]; exact h2) (fun j hj => ?_) (by omega)
    rw [show ((i : Int).toNat) = i by omega, List.getElem?_set]
    by_cases e : i = j
    · subst e
      rw [if_pos rfl, if_pos (by omega), List.getElem?_map, List.getElem?_eq_getElem (by omega)]
      rfl
    · rw [if_neg e]
      exact h3 j (by omega)
theorem toStepS_val (l : List S23) (hl : l.length ≤ 1048576) (k : Nat) (hk : l.length < k) : laws_toStepS.f k l = some (l.map cv_) := by
  unfold laws_toStepS.f
  rw [if_pos (by omega), if_pos (by omega)]
  exact toStepS_l l hl l.length 0 _ k (by omega) (by rw [List.length_replicate]; omega) (fun j hj => absurd hj (by omega)) hk

set_option linter.unusedSimpArgs false
set_option linter.unusedVariables false
def inB (a lo hi : Int) : Bool := decide (lo ≤ a) && decide (a ≤ hi)
theorem specIn_val (a lo hi : Int) : spec_l1In.f a lo hi = some (inB a lo hi) := by
  unfold spec_l1In.f inB
  by_cases h : lo ≤ a
  · rw [if_pos (by omega)]
    simp [h]
  · rw [if_neg (by omega)]
    simp [h]
theorem implIn_val (a lo hi : Int) : impl_in.f a lo hi = some (inB a lo hi) := by
  unfold impl_in.f inB
  by_cases h : lo ≤ a
  · rw [if_pos (by omega)]
    simp [h]
  · rw [if_neg (by omega)]
    simp [h]
def zB (a1 a2 a3 a4 a5 : Int) (f1 f2 f3 f4 f5 : Bool) : Bool := (f1 || a1 == 0) && ((f2 || a2 == 0) && ((f3 || a3 == 0) && ((f4 || a4 == 0) && (f5 || a5 == 0))))
theorem specZero_val (a0 a1 a2 a3 a4 a5 : Int) (f1 f2 f3 f4 f5 : Bool) : spec_l2Zero.f a0 a1 a2 a3 a4 a5 f1 f2 f3 f4 f5 = some (zB a1 a2 a3 a4 a5 f1 f2 f3 f4 f5) := by
  unfold spec_l2Zero.f zB
  cases f1 <;> cases f2 <;> cases f3 <;> cases f4 <;> cases f5 <;> simp only [Bool.false_eq_true, if_true, if_false, Bool.true_or, Bool.false_or, Bool.true_and, Bool.and_true] <;> (repeat' split) <;> simp [*]
/-- A step is well formed. -/
def stepB (a0_0 a0_1 a0_2 a0_3 a0_4 a0_5 : Int) : Bool := inB a0_2 0 5 && (inB a0_3 0 5 &&
  (if a0_0 = 1 then inB a0_1 1 10 && zB a0_1 a0_2 a0_3 a0_4 a0_5 true true true false false
  else if a0_0 = 2 then inB a0_1 1 10 && (inB a0_4 0 255 && zB a0_1 a0_2 a0_3 a0_4 a0_5 true true false true false)
  else if a0_0 = 3 then inB a0_4 0 255 && zB a0_1 a0_2 a0_3 a0_4 a0_5 false true false true false
  else if a0_0 = 4 then inB a0_4 256 65535 && zB a0_1 a0_2 a0_3 a0_4 a0_5 false true false true false
  else if a0_0 = 5 then inB a0_4 0 7 && zB a0_1 a0_2 a0_3 a0_4 a0_5 false true true true false
  else if a0_0 = 6 then inB a0_4 0 255 && zB a0_1 a0_2 a0_3 a0_4 a0_5 false true false true false
  else if a0_0 = 7 then inB a0_4 0 255 && zB a0_1 a0_2 a0_3 a0_4 a0_5 false true false true false
  else if a0_0 = 8 then inB a0_5 1 19 && zB a0_1 a0_2 a0_3 a0_4 a0_5 false false false false true
  else if a0_0 = 9 then inB a0_5 1 19 && zB a0_1 a0_2 a0_3 a0_4 a0_5 false true true false true
  else if a0_0 = 10 then inB a0_5 1 19 && zB a0_1 a0_2 a0_3 a0_4 a0_5 false true true false true
  else if a0_0 = 11 then zB a0_1 a0_2 a0_3 a0_4 a0_5 false false false false false
  else false))
theorem specStep_val (a0_0 a0_1 a0_2 a0_3 a0_4 a0_5 : Int) (k : Nat) (hk : 3 ≤ k) : spec_l2Step.f k a0_0 a0_1 a0_2 a0_3 a0_4 a0_5 = some (stepB a0_0 a0_1 a0_2 a0_3 a0_4 a0_5) := by
  obtain ⟨k, rfl⟩ : ∃ m, k = m + 3 := ⟨k - 3, by omega⟩
  unfold spec_l2Step.f spec_l2Reg.f stepB
  simp only [specIn_val, Option.bind_some, spec_l2Step.j0, spec_l2Step.j1, spec_l2Step.j2, specZero_val]
  cases inB a0_2 0 5 with
  | false => simp
  | true =>
    cases inB a0_3 0 5 with
    | false => simp
    | true =>
      simp only [Bool.true_and, if_true, Bool.not_true, Bool.false_eq_true, if_false]
      by_cases c1 : a0_0 = 1
      · subst c1
        cases inB a0_1 1 10 <;> cases inB a0_4 0 255 <;> cases inB a0_4 256 65535 <;> cases inB a0_4 0 7 <;> cases inB a0_5 1 19 <;> simp
      by_cases c2 : a0_0 = 2
      · subst c2
        cases inB a0_1 1 10 <;> cases inB a0_4 0 255 <;> cases inB a0_4 256 65535 <;> cases inB a0_4 0 7 <;> cases inB a0_5 1 19 <;> simp
      by_cases c3 : a0_0 = 3
      · subst c3
        cases inB a0_1 1 10 <;> cases inB a0_4 0 255 <;> cases inB a0_4 256 65535 <;> cases inB a0_4 0 7 <;> cases inB a0_5 1 19 <;> simp
      by_cases c4 : a0_0 = 4
      · subst c4
        cases inB a0_1 1 10 <;> cases inB a0_4 0 255 <;> cases inB a0_4 256 65535 <;> cases inB a0_4 0 7 <;> cases inB a0_5 1 19 <;> simp
      by_cases c5 : a0_0 = 5
      · subst c5
        cases inB a0_1 1 10 <;> cases inB a0_4 0 255 <;> cases inB a0_4 256 65535 <;> cases inB a0_4 0 7 <;> cases inB a0_5 1 19 <;> simp
      by_cases c6 : a0_0 = 6
      · subst c6
        cases inB a0_1 1 10 <;> cases inB a0_4 0 255 <;> cases inB a0_4 256 65535 <;> cases inB a0_4 0 7 <;> cases inB a0_5 1 19 <;> simp
      by_cases c7 : a0_0 = 7
      · subst c7
        cases inB a0_1 1 10 <;> cases inB a0_4 0 255 <;> cases inB a0_4 256 65535 <;> cases inB a0_4 0 7 <;> cases inB a0_5 1 19 <;> simp
      by_cases c8 : a0_0 = 8
      · subst c8
        cases inB a0_1 1 10 <;> cases inB a0_4 0 255 <;> cases inB a0_4 256 65535 <;> cases inB a0_4 0 7 <;> cases inB a0_5 1 19 <;> simp
      by_cases c9 : a0_0 = 9
      · subst c9
        cases inB a0_1 1 10 <;> cases inB a0_4 0 255 <;> cases inB a0_4 256 65535 <;> cases inB a0_4 0 7 <;> cases inB a0_5 1 19 <;> simp
      by_cases c10 : a0_0 = 10
      · subst c10
        cases inB a0_1 1 10 <;> cases inB a0_4 0 255 <;> cases inB a0_4 256 65535 <;> cases inB a0_4 0 7 <;> cases inB a0_5 1 19 <;> simp
      by_cases c11 : a0_0 = 11
      · subst c11
        cases inB a0_1 1 10 <;> cases inB a0_4 0 255 <;> cases inB a0_4 256 65535 <;> cases inB a0_4 0 7 <;> cases inB a0_5 1 19 <;> simp
      simp [c1, c2, c3, c4, c5, c6, c7, c8, c9, c10, c11]
theorem valid_round (a0_0 a0_1 a0_2 a0_3 a0_4 a0_5 : Int) (z : ByteArray) (r_1 r_2 r_3 r_4 r_5 : Int) (s_1 s_2 s_3 s_4 s_5 : Int) (x L lo hi : Int) (b : Bool) (k : Nat) (h1 : x < (z.size : Int)) (h0 : 0 ≤ x) (hx : x ≤ 100) (hL : bt z x = L) (hr : impl_Step_ranges.f k a0_0 a0_1 a0_2 a0_3 a0_4 a0_5 L = some (lo, hi)) (e1 : zr_ 1 (fieldAt_ L) r_1 = s_1) (e2 : zr_ 2 (fieldAt_ L) r_2 = s_2) (e3 : zr_ 3 (fieldAt_ L) r_3 = s_3) (e4 : zr_ 4 (fieldAt_ L) r_4 = s_4) (e5 : zr_ 5 (fieldAt_ L) r_5 = s_5)
    (hn : impl_Step_valid.l0 k a0_0 a0_1 a0_2 a0_3 a0_4 a0_5 z s_1 s_2 s_3 s_4 s_5 (x + 1) = some b) : impl_Step_valid.l0 (k + 1) a0_0 a0_1 a0_2 a0_3 a0_4 a0_5 z r_1 r_2 r_3 r_4 r_5 x = some (inB (fld_ a0_0 a0_1 a0_2 a0_3 a0_4 a0_5 (fieldAt_ L)) lo hi && b) := by
  simp only [impl_Step_valid.l0]
  rw [if_pos h1, if_pos h0, hL, hr]
  simp only [Option.bind_some]
  rw [implIn_val, e1, e2, e3, e4, e5, w64 (by omega) (by omega), hn]
  simp only [Option.bind_some]
  cases inB (fld_ a0_0 a0_1 a0_2 a0_3 a0_4 a0_5 (fieldAt_ L)) lo hi <;> rfl
theorem valid_end (a0_0 a0_1 a0_2 a0_3 a0_4 a0_5 : Int) (z : ByteArray) (r_1 r_2 r_3 r_4 r_5 : Int) (x : Int) (k : Nat) (h1 : ¬ x < (z.size : Int)) : impl_Step_valid.l0 (k + 1) a0_0 a0_1 a0_2 a0_3 a0_4 a0_5 z r_1 r_2 r_3 r_4 r_5 x = some (inB a0_0 1 11 && decide (r_1 = 0 ∧ r_2 = 0 ∧ r_3 = 0 ∧ r_4 = 0 ∧ r_5 = 0)) := by
  simp only [impl_Step_valid.l0]
  rw [if_neg h1, implIn_val]
  simp only [Option.bind_some]
  cases inB a0_0 1 11 <;> rfl
theorem ranges_o (a0_0 a0_1 a0_2 a0_3 a0_4 a0_5 : Int) (k : Nat) : impl_Step_ranges.f (k + 1) a0_0 a0_1 a0_2 a0_3 a0_4 a0_5 111 = some (1, 10) := by simp [impl_Step_ranges.f]
theorem ranges_d (a0_0 a0_1 a0_2 a0_3 a0_4 a0_5 : Int) (k : Nat) : impl_Step_ranges.f (k + 1) a0_0 a0_1 a0_2 a0_3 a0_4 a0_5 100 = some (0, 5) := by simp [impl_Step_ranges.f, impl_Step_ranges.j0]
theorem ranges_s (a0_0 a0_1 a0_2 a0_3 a0_4 a0_5 : Int) (k : Nat) : impl_Step_ranges.f (k + 1) a0_0 a0_1 a0_2 a0_3 a0_4 a0_5 115 = some (0, 5) := by simp [impl_Step_ranges.f, impl_Step_ranges.j0]
theorem ranges_t (a0_0 a0_1 a0_2 a0_3 a0_4 a0_5 : Int) (k : Nat) : impl_Step_ranges.f (k + 1) a0_0 a0_1 a0_2 a0_3 a0_4 a0_5 116 = some (1, 19) := by simp [impl_Step_ranges.f, impl_Step_ranges.j0]
def immR (a : Int) : Int × Int := if a = 4 then (256, 65535) else if a = 5 then (0, 7) else (0, 255)
theorem ranges_i (a0_0 a0_1 a0_2 a0_3 a0_4 a0_5 : Int) (k : Nat) : impl_Step_ranges.f (k + 1) a0_0 a0_1 a0_2 a0_3 a0_4 a0_5 105 = some ((immR a0_0).1, (immR a0_0).2) := by
  unfold immR
  simp only [impl_Step_ranges.f, impl_Step_ranges.j0]
  by_cases h4 : a0_0 = 4
  · simp [h4]
  · by_cases h5 : a0_0 = 5
    · simp [h5]
    · simp [h4, h5]
theorem valid_ods (a0_0 a0_1 a0_2 a0_3 a0_4 a0_5 : Int) (k : Nat) : impl_Step_valid.l0 (k + 5) a0_0 a0_1 a0_2 a0_3 a0_4 a0_5 ⟨#[111, 100, 115]⟩ a0_1 a0_2 a0_3 a0_4 a0_5 0 = some (inB a0_1 1 10 && (inB a0_2 0 5 && (inB a0_3 0 5 && (inB a0_0 1 11 && decide ((0 : Int) = 0 ∧ (0 : Int) = 0 ∧ (0 : Int) = 0 ∧ a0_4 = 0 ∧ a0_5 = 0))))) := by
  have h3 := valid_end a0_0 a0_1 a0_2 a0_3 a0_4 a0_5 ⟨#[111, 100, 115]⟩ 0 0 0 a0_4 a0_5 3 (k + 1) (by decide)
  have h2 := valid_round a0_0 a0_1 a0_2 a0_3 a0_4 a0_5 ⟨#[111, 100, 115]⟩ 0 0 a0_3 a0_4 a0_5 0 0 0 a0_4 a0_5 2 115 0 5 _ (k + 2) (by decide) (by decide) (by decide) (by rfl) (ranges_s a0_0 a0_1 a0_2 a0_3 a0_4 a0_5 _) (by rfl) (by rfl) (by rfl) (by rfl) (by rfl) h3
  have h1 := valid_round a0_0 a0_1 a0_2 a0_3 a0_4 a0_5 ⟨#[111, 100, 115]⟩ 0 a0_2 a0_3 a0_4 a0_5 0 0 a0_3 a0_4 a0_5 1 100 0 5 _ (k + 3) (by decide) (by decide) (by decide) (by rfl) (ranges_d a0_0 a0_1 a0_2 a0_3 a0_4 a0_5 _) (by rfl) (by rfl) (by rfl) (by rfl) (by rfl) h2
  have h0 := valid_round a0_0 a0_1 a0_2 a0_3 a0_4 a0_5 ⟨#[111, 100, 115]⟩ a0_1 a0_2 a0_3 a0_4 a0_5 0 a0_2 a0_3 a0_4 a0_5 0 111 1 10 _ (k + 4) (by decide) (by decide) (by decide) (by rfl) (ranges_o a0_0 a0_1 a0_2 a0_3 a0_4 a0_5 _) (by rfl) (by rfl) (by rfl) (by rfl) (by rfl) h1
  exact h0
theorem valid_odi (a0_0 a0_1 a0_2 a0_3 a0_4 a0_5 : Int) (k : Nat) : impl_Step_valid.l0 (k + 5) a0_0 a0_1 a0_2 a0_3 a0_4 a0_5 ⟨#[111, 100, 105]⟩ a0_1 a0_2 a0_3 a0_4 a0_5 0 = some (inB a0_1 1 10 && (inB a0_2 0 5 && (inB a0_4 (immR a0_0).1 (immR a0_0).2 && (inB a0_0 1 11 && decide ((0 : Int) = 0 ∧ (0 : Int) = 0 ∧ a0_3 = 0 ∧ (0 : Int) = 0 ∧ a0_5 = 0))))) := by
  have h3 := valid_end a0_0 a0_1 a0_2 a0_3 a0_4 a0_5 ⟨#[111, 100, 105]⟩ 0 0 a0_3 0 a0_5 3 (k + 1) (by decide)
  have h2 := valid_round a0_0 a0_1 a0_2 a0_3 a0_4 a0_5 ⟨#[111, 100, 105]⟩ 0 0 a0_3 a0_4 a0_5 0 0 a0_3 0 a0_5 2 105 (immR a0_0).1 (immR a0_0).2 _ (k + 2) (by decide) (by decide) (by decide) (by rfl) (ranges_i a0_0 a0_1 a0_2 a0_3 a0_4 a0_5 _) (by rfl) (by rfl) (by rfl) (by rfl) (by rfl) h3
  have h1 := valid_round a0_0 a0_1 a0_2 a0_3 a0_4 a0_5 ⟨#[111, 100, 105]⟩ 0 a0_2 a0_3 a0_4 a0_5 0 0 a0_3 a0_4 a0_5 1 100 0 5 _ (k + 3) (by decide) (by decide) (by decide) (by rfl) (ranges_d a0_0 a0_1 a0_2 a0_3 a0_4 a0_5 _) (by rfl) (by rfl) (by rfl) (by rfl) (by rfl) h2
  have h0 := valid_round a0_0 a0_1 a0_2 a0_3 a0_4 a0_5 ⟨#[111, 100, 105]⟩ a0_1 a0_2 a0_3 a0_4 a0_5 0 a0_2 a0_3 a0_4 a0_5 0 111 1 10 _ (k + 4) (by decide) (by decide) (by decide) (by rfl) (ranges_o a0_0 a0_1 a0_2 a0_3 a0_4 a0_5 _) (by rfl) (by rfl) (by rfl) (by rfl) (by rfl) h1
  exact h0
theorem valid_di (a0_0 a0_1 a0_2 a0_3 a0_4 a0_5 : Int) (k : Nat) : impl_Step_valid.l0 (k + 5) a0_0 a0_1 a0_2 a0_3 a0_4 a0_5 ⟨#[100, 105]⟩ a0_1 a0_2 a0_3 a0_4 a0_5 0 = some (inB a0_2 0 5 && (inB a0_4 (immR a0_0).1 (immR a0_0).2 && (inB a0_0 1 11 && decide (a0_1 = 0 ∧ (0 : Int) = 0 ∧ a0_3 = 0 ∧ (0 : Int) = 0 ∧ a0_5 = 0)))) := by
  have h2 := valid_end a0_0 a0_1 a0_2 a0_3 a0_4 a0_5 ⟨#[100, 105]⟩ a0_1 0 a0_3 0 a0_5 2 (k + 2) (by decide)
  have h1 := valid_round a0_0 a0_1 a0_2 a0_3 a0_4 a0_5 ⟨#[100, 105]⟩ a0_1 0 a0_3 a0_4 a0_5 a0_1 0 a0_3 0 a0_5 1 105 (immR a0_0).1 (immR a0_0).2 _ (k + 3) (by decide) (by decide) (by decide) (by rfl) (ranges_i a0_0 a0_1 a0_2 a0_3 a0_4 a0_5 _) (by rfl) (by rfl) (by rfl) (by rfl) (by rfl) h2
  have h0 := valid_round a0_0 a0_1 a0_2 a0_3 a0_4 a0_5 ⟨#[100, 105]⟩ a0_1 a0_2 a0_3 a0_4 a0_5 a0_1 0 a0_3 a0_4 a0_5 0 100 0 5 _ (k + 4) (by decide) (by decide) (by decide) (by rfl) (ranges_d a0_0 a0_1 a0_2 a0_3 a0_4 a0_5 _) (by rfl) (by rfl) (by rfl) (by rfl) (by rfl) h1
  exact h0
theorem valid_dsi (a0_0 a0_1 a0_2 a0_3 a0_4 a0_5 : Int) (k : Nat) : impl_Step_valid.l0 (k + 5) a0_0 a0_1 a0_2 a0_3 a0_4 a0_5 ⟨#[100, 115, 105]⟩ a0_1 a0_2 a0_3 a0_4 a0_5 0 = some (inB a0_2 0 5 && (inB a0_3 0 5 && (inB a0_4 (immR a0_0).1 (immR a0_0).2 && (inB a0_0 1 11 && decide (a0_1 = 0 ∧ (0 : Int) = 0 ∧ (0 : Int) = 0 ∧ (0 : Int) = 0 ∧ a0_5 = 0))))) := by
  have h3 := valid_end a0_0 a0_1 a0_2 a0_3 a0_4 a0_5 ⟨#[100, 115, 105]⟩ a0_1 0 0 0 a0_5 3 (k + 1) (by decide)
  have h2 := valid_round a0_0 a0_1 a0_2 a0_3 a0_4 a0_5 ⟨#[100, 115, 105]⟩ a0_1 0 0 a0_4 a0_5 a0_1 0 0 0 a0_5 2 105 (immR a0_0).1 (immR a0_0).2 _ (k + 2) (by decide) (by decide) (by decide) (by rfl) (ranges_i a0_0 a0_1 a0_2 a0_3 a0_4 a0_5 _) (by rfl) (by rfl) (by rfl) (by rfl) (by rfl) h3
  have h1 := valid_round a0_0 a0_1 a0_2 a0_3 a0_4 a0_5 ⟨#[100, 115, 105]⟩ a0_1 0 a0_3 a0_4 a0_5 a0_1 0 0 a0_4 a0_5 1 115 0 5 _ (k + 3) (by decide) (by decide) (by decide) (by rfl) (ranges_s a0_0 a0_1 a0_2 a0_3 a0_4 a0_5 _) (by rfl) (by rfl) (by rfl) (by rfl) (by rfl) h2
  have h0 := valid_round a0_0 a0_1 a0_2 a0_3 a0_4 a0_5 ⟨#[100, 115, 105]⟩ a0_1 a0_2 a0_3 a0_4 a0_5 a0_1 0 a0_3 a0_4 a0_5 0 100 0 5 _ (k + 4) (by decide) (by decide) (by decide) (by rfl) (ranges_d a0_0 a0_1 a0_2 a0_3 a0_4 a0_5 _) (by rfl) (by rfl) (by rfl) (by rfl) (by rfl) h1
  exact h0
theorem valid_t (a0_0 a0_1 a0_2 a0_3 a0_4 a0_5 : Int) (k : Nat) : impl_Step_valid.l0 (k + 5) a0_0 a0_1 a0_2 a0_3 a0_4 a0_5 ⟨#[116]⟩ a0_1 a0_2 a0_3 a0_4 a0_5 0 = some (inB a0_5 1 19 && (inB a0_0 1 11 && decide (a0_1 = 0 ∧ a0_2 = 0 ∧ a0_3 = 0 ∧ a0_4 = 0 ∧ (0 : Int) = 0))) := by
  have h1 := valid_end a0_0 a0_1 a0_2 a0_3 a0_4 a0_5 ⟨#[116]⟩ a0_1 a0_2 a0_3 a0_4 0 1 (k + 3) (by decide)
  have h0 := valid_round a0_0 a0_1 a0_2 a0_3 a0_4 a0_5 ⟨#[116]⟩ a0_1 a0_2 a0_3 a0_4 a0_5 a0_1 a0_2 a0_3 a0_4 0 0 116 1 19 _ (k + 4) (by decide) (by decide) (by decide) (by rfl) (ranges_t a0_0 a0_1 a0_2 a0_3 a0_4 a0_5 _) (by rfl) (by rfl) (by rfl) (by rfl) (by rfl) h1
  exact h0
theorem valid_dst (a0_0 a0_1 a0_2 a0_3 a0_4 a0_5 : Int) (k : Nat) : impl_Step_valid.l0 (k + 5) a0_0 a0_1 a0_2 a0_3 a0_4 a0_5 ⟨#[100, 115, 116]⟩ a0_1 a0_2 a0_3 a0_4 a0_5 0 = some (inB a0_2 0 5 && (inB a0_3 0 5 && (inB a0_5 1 19 && (inB a0_0 1 11 && decide (a0_1 = 0 ∧ (0 : Int) = 0 ∧ (0 : Int) = 0 ∧ a0_4 = 0 ∧ (0 : Int) = 0))))) := by
  have h3 := valid_end a0_0 a0_1 a0_2 a0_3 a0_4 a0_5 ⟨#[100, 115, 116]⟩ a0_1 0 0 a0_4 0 3 (k + 1) (by decide)
  have h2 := valid_round a0_0 a0_1 a0_2 a0_3 a0_4 a0_5 ⟨#[100, 115, 116]⟩ a0_1 0 0 a0_4 a0_5 a0_1 0 0 a0_4 0 2 116 1 19 _ (k + 2) (by decide) (by decide) (by decide) (by rfl) (ranges_t a0_0 a0_1 a0_2 a0_3 a0_4 a0_5 _) (by rfl) (by rfl) (by rfl) (by rfl) (by rfl) h3
  have h1 := valid_round a0_0 a0_1 a0_2 a0_3 a0_4 a0_5 ⟨#[100, 115, 116]⟩ a0_1 0 a0_3 a0_4 a0_5 a0_1 0 0 a0_4 a0_5 1 115 0 5 _ (k + 3) (by decide) (by decide) (by decide) (by rfl) (ranges_s a0_0 a0_1 a0_2 a0_3 a0_4 a0_5 _) (by rfl) (by rfl) (by rfl) (by rfl) (by rfl) h2
  have h0 := valid_round a0_0 a0_1 a0_2 a0_3 a0_4 a0_5 ⟨#[100, 115, 116]⟩ a0_1 a0_2 a0_3 a0_4 a0_5 a0_1 0 a0_3 a0_4 a0_5 0 100 0 5 _ (k + 4) (by decide) (by decide) (by decide) (by rfl) (ranges_d a0_0 a0_1 a0_2 a0_3 a0_4 a0_5 _) (by rfl) (by rfl) (by rfl) (by rfl) (by rfl) h1
  exact h0
theorem valid_none (a0_0 a0_1 a0_2 a0_3 a0_4 a0_5 : Int) (k : Nat) : impl_Step_valid.l0 (k + 5) a0_0 a0_1 a0_2 a0_3 a0_4 a0_5 ⟨#[]⟩ a0_1 a0_2 a0_3 a0_4 a0_5 0 = some (inB a0_0 1 11 && decide (a0_1 = 0 ∧ a0_2 = 0 ∧ a0_3 = 0 ∧ a0_4 = 0 ∧ a0_5 = 0)) := by
  have h0 := valid_end a0_0 a0_1 a0_2 a0_3 a0_4 a0_5 ⟨#[]⟩ a0_1 a0_2 a0_3 a0_4 a0_5 0 (k + 4) (by decide)
  exact h0
theorem implStep_val (a0_0 a0_1 a0_2 a0_3 a0_4 a0_5 : Int) (k : Nat) (hk : 10 ≤ k) : impl_Step_valid.f k a0_0 a0_1 a0_2 a0_3 a0_4 a0_5 = some (stepB a0_0 a0_1 a0_2 a0_3 a0_4 a0_5) := by
  obtain ⟨k, rfl⟩ : ∃ m, k = m + 5 := ⟨k - 5, by omega⟩
  unfold impl_Step_valid.f impl_fields.f stepB
  by_cases c1 : a0_0 = 1
  · subst c1
    rw [show (if (1 : Int) = 1 then (some (⟨#[111, 100, 115]⟩ : ByteArray)) else (if (1 : Int) = 2 then (some (⟨#[111, 100, 105]⟩ : ByteArray)) else (if (1 : Int) = 3 then (impl_fields.j0 (k + 5) 1 ((1 : Int) == 3)) else (if (1 : Int) = 4 then (impl_fields.j0 (k + 5) 1 ((1 : Int) == 4)) else (if (1 : Int) = 6 then (impl_fields.j0 (k + 5) 1 ((1 : Int) == 6)) else (impl_fields.j0 (k + 5) 1 ((1 : Int) == 7))))))) = some ⟨#[111, 100, 115]⟩ by simp [impl_fields.j0]]
    simp only [Option.bind_some]
    rw [valid_ods]
    congr 1
    rw [Bool.eq_iff_iff]
    simp [inB, zB, immR]
    first | done | omega
  by_cases c2 : a0_0 = 2
  · subst c2
    rw [show (if (2 : Int) = 1 then (some (⟨#[111, 100, 115]⟩ : ByteArray)) else (if (2 : Int) = 2 then (some (⟨#[111, 100, 105]⟩ : ByteArray)) else (if (2 : Int) = 3 then (impl_fields.j0 (k + 5) 2 ((2 : Int) == 3)) else (if (2 : Int) = 4 then (impl_fields.j0 (k + 5) 2 ((2 : Int) == 4)) else (if (2 : Int) = 6 then (impl_fields.j0 (k + 5) 2 ((2 : Int) == 6)) else (impl_fields.j0 (k + 5) 2 ((2 : Int) == 7))))))) = some ⟨#[111, 100, 105]⟩ by simp [impl_fields.j0]]
    simp only [Option.bind_some]
    rw [valid_odi]
    congr 1
    rw [Bool.eq_iff_iff]
    simp [inB, zB, immR]
    first | done | omega
  by_cases c3 : a0_0 = 3
  · subst c3
    rw [show (if (3 : Int) = 1 then (some (⟨#[111, 100, 115]⟩ : ByteArray)) else (if (3 : Int) = 2 then (some (⟨#[111, 100, 105]⟩ : ByteArray)) else (if (3 : Int) = 3 then (impl_fields.j0 (k + 5) 3 ((3 : Int) == 3)) else (if (3 : Int) = 4 then (impl_fields.j0 (k + 5) 3 ((3 : Int) == 4)) else (if (3 : Int) = 6 then (impl_fields.j0 (k + 5) 3 ((3 : Int) == 6)) else (impl_fields.j0 (k + 5) 3 ((3 : Int) == 7))))))) = some ⟨#[100, 105]⟩ by simp [impl_fields.j0]]
    simp only [Option.bind_some]
    rw [valid_di]
    congr 1
    rw [Bool.eq_iff_iff]
    simp [inB, zB, immR]
    first | done | omega
  by_cases c4 : a0_0 = 4
  · subst c4
    rw [show (if (4 : Int) = 1 then (some (⟨#[111, 100, 115]⟩ : ByteArray)) else (if (4 : Int) = 2 then (some (⟨#[111, 100, 105]⟩ : ByteArray)) else (if (4 : Int) = 3 then (impl_fields.j0 (k + 5) 4 ((4 : Int) == 3)) else (if (4 : Int) = 4 then (impl_fields.j0 (k + 5) 4 ((4 : Int) == 4)) else (if (4 : Int) = 6 then (impl_fields.j0 (k + 5) 4 ((4 : Int) == 6)) else (impl_fields.j0 (k + 5) 4 ((4 : Int) == 7))))))) = some ⟨#[100, 105]⟩ by simp [impl_fields.j0]]
    simp only [Option.bind_some]
    rw [valid_di]
    congr 1
    rw [Bool.eq_iff_iff]
    simp [inB, zB, immR]
    first | done | omega
  by_cases c5 : a0_0 = 5
  · subst c5
    rw [show (if (5 : Int) = 1 then (some (⟨#[111, 100, 115]⟩ : ByteArray)) else (if (5 : Int) = 2 then (some (⟨#[111, 100, 105]⟩ : ByteArray)) else (if (5 : Int) = 3 then (impl_fields.j0 (k + 5) 5 ((5 : Int) == 3)) else (if (5 : Int) = 4 then (impl_fields.j0 (k + 5) 5 ((5 : Int) == 4)) else (if (5 : Int) = 6 then (impl_fields.j0 (k + 5) 5 ((5 : Int) == 6)) else (impl_fields.j0 (k + 5) 5 ((5 : Int) == 7))))))) = some ⟨#[100, 115, 105]⟩ by simp [impl_fields.j0]]
    simp only [Option.bind_some]
    rw [valid_dsi]
    congr 1
    rw [Bool.eq_iff_iff]
    simp [inB, zB, immR]
    first | done | omega
  by_cases c6 : a0_0 = 6
  · subst c6
    rw [show (if (6 : Int) = 1 then (some (⟨#[111, 100, 115]⟩ : ByteArray)) else (if (6 : Int) = 2 then (some (⟨#[111, 100, 105]⟩ : ByteArray)) else (if (6 : Int) = 3 then (impl_fields.j0 (k + 5) 6 ((6 : Int) == 3)) else (if (6 : Int) = 4 then (impl_fields.j0 (k + 5) 6 ((6 : Int) == 4)) else (if (6 : Int) = 6 then (impl_fields.j0 (k + 5) 6 ((6 : Int) == 6)) else (impl_fields.j0 (k + 5) 6 ((6 : Int) == 7))))))) = some ⟨#[100, 105]⟩ by simp [impl_fields.j0]]
    simp only [Option.bind_some]
    rw [valid_di]
    congr 1
    rw [Bool.eq_iff_iff]
    simp [inB, zB, immR]
    first | done | omega
  by_cases c7 : a0_0 = 7
  · subst c7
    rw [show (if (7 : Int) = 1 then (some (⟨#[111, 100, 115]⟩ : ByteArray)) else (if (7 : Int) = 2 then (some (⟨#[111, 100, 105]⟩ : ByteArray)) else (if (7 : Int) = 3 then (impl_fields.j0 (k + 5) 7 ((7 : Int) == 3)) else (if (7 : Int) = 4 then (impl_fields.j0 (k + 5) 7 ((7 : Int) == 4)) else (if (7 : Int) = 6 then (impl_fields.j0 (k + 5) 7 ((7 : Int) == 6)) else (impl_fields.j0 (k + 5) 7 ((7 : Int) == 7))))))) = some ⟨#[100, 105]⟩ by simp [impl_fields.j0]]
    simp only [Option.bind_some]
    rw [valid_di]
    congr 1
    rw [Bool.eq_iff_iff]
    simp [inB, zB, immR]
    first | done | omega
  by_cases c8 : a0_0 = 8
  · subst c8
    rw [show (if (8 : Int) = 1 then (some (⟨#[111, 100, 115]⟩ : ByteArray)) else (if (8 : Int) = 2 then (some (⟨#[111, 100, 105]⟩ : ByteArray)) else (if (8 : Int) = 3 then (impl_fields.j0 (k + 5) 8 ((8 : Int) == 3)) else (if (8 : Int) = 4 then (impl_fields.j0 (k + 5) 8 ((8 : Int) == 4)) else (if (8 : Int) = 6 then (impl_fields.j0 (k + 5) 8 ((8 : Int) == 6)) else (impl_fields.j0 (k + 5) 8 ((8 : Int) == 7))))))) = some ⟨#[116]⟩ by simp [impl_fields.j0]]
    simp only [Option.bind_some]
    rw [valid_t]
    congr 1
    rw [Bool.eq_iff_iff]
    simp [inB, zB, immR]
    first | done | omega
  by_cases c9 : a0_0 = 9
  · subst c9
    rw [show (if (9 : Int) = 1 then (some (⟨#[111, 100, 115]⟩ : ByteArray)) else (if (9 : Int) = 2 then (some (⟨#[111, 100, 105]⟩ : ByteArray)) else (if (9 : Int) = 3 then (impl_fields.j0 (k + 5) 9 ((9 : Int) == 3)) else (if (9 : Int) = 4 then (impl_fields.j0 (k + 5) 9 ((9 : Int) == 4)) else (if (9 : Int) = 6 then (impl_fields.j0 (k + 5) 9 ((9 : Int) == 6)) else (impl_fields.j0 (k + 5) 9 ((9 : Int) == 7))))))) = some ⟨#[100, 115, 116]⟩ by simp [impl_fields.j0]]
    simp only [Option.bind_some]
    rw [valid_dst]
    congr 1
    rw [Bool.eq_iff_iff]
    simp [inB, zB, immR]
    first | done | omega
  by_cases c10 : a0_0 = 10
  · subst c10
    rw [show (if (10 : Int) = 1 then (some (⟨#[111, 100, 115]⟩ : ByteArray)) else (if (10 : Int) = 2 then (some (⟨#[111, 100, 105]⟩ : ByteArray)) else (if (10 : Int) = 3 then (impl_fields.j0 (k + 5) 10 ((10 : Int) == 3)) else (if (10 : Int) = 4 then (impl_fields.j0 (k + 5) 10 ((10 : Int) == 4)) else (if (10 : Int) = 6 then (impl_fields.j0 (k + 5) 10 ((10 : Int) == 6)) else (impl_fields.j0 (k + 5) 10 ((10 : Int) == 7))))))) = some ⟨#[100, 115, 116]⟩ by simp [impl_fields.j0]]
    simp only [Option.bind_some]
    rw [valid_dst]
    congr 1
    rw [Bool.eq_iff_iff]
    simp [inB, zB, immR]
    first | done | omega
  by_cases c11 : a0_0 = 11
  · subst c11
    rw [show (if (11 : Int) = 1 then (some (⟨#[111, 100, 115]⟩ : ByteArray)) else (if (11 : Int) = 2 then (some (⟨#[111, 100, 105]⟩ : ByteArray)) else (if (11 : Int) = 3 then (impl_fields.j0 (k + 5) 11 ((11 : Int) == 3)) else (if (11 : Int) = 4 then (impl_fields.j0 (k + 5) 11 ((11 : Int) == 4)) else (if (11 : Int) = 6 then (impl_fields.j0 (k + 5) 11 ((11 : Int) == 6)) else (impl_fields.j0 (k + 5) 11 ((11 : Int) == 7))))))) = some ⟨#[]⟩ by simp [impl_fields.j0]]
    simp only [Option.bind_some]
    rw [valid_none]
    congr 1
    rw [Bool.eq_iff_iff]
    simp [inB, zB, immR]
    first | done | omega
  simp only [c1, c2, c3, c4, c5, c6, c7, c8, c9, c10, c11, if_false]
  rw [show impl_fields.j0 (k + 5) a0_0 (a0_0 == 7) = some ⟨#[]⟩ by simp [impl_fields.j0, c1, c2, c3, c4, c5, c6, c7, c8, c9, c10, c11]]
  simp only [Option.bind_some]
  rw [valid_none]
  congr 1
  rw [Bool.eq_iff_iff]
  simp [inB]
  first | done | omega

theorem step_to (a0 a1 a2 a3 a4 a5 : Int) (h : stepB a0 a1 a2 a3 a4 a5 = true) : (0 ≤ a5 ∧ a5 ≤ 19) ∧ (0 < a5 ↔ a0 = 8 ∨ a0 = 9 ∨ a0 = 10) := by
  unfold stepB at h
  by_cases c1 : a0 = 1
  · subst c1
    simp [inB, zB] at h
    omega
  by_cases c2 : a0 = 2
  · subst c2
    simp [inB, zB] at h
    omega
  by_cases c3 : a0 = 3
  · subst c3
    simp [inB, zB] at h
    omega
  by_cases c4 : a0 = 4
  · subst c4
    simp [inB, zB] at h
    omega
  by_cases c5 : a0 = 5
  · subst c5
    simp [inB, zB] at h
    omega
  by_cases c6 : a0 = 6
  · subst c6
    simp [inB, zB] at h
    omega
  by_cases c7 : a0 = 7
  · subst c7
    simp [inB, zB] at h
    omega
  by_cases c8 : a0 = 8
  · subst c8
    simp [inB, zB] at h
    omega
  by_cases c9 : a0 = 9
  · subst c9
    simp [inB, zB] at h
    omega
  by_cases c10 : a0 = 10
  · subst c10
    simp [inB, zB] at h
    omega
  by_cases c11 : a0 = 11
  · subst c11
    simp [inB, zB] at h
    omega
  simp [c1, c2, c3, c4, c5, c6, c7, c8, c9, c10, c11] at h
def stepS (x : S26) : Bool := stepB x.f0 x.f1 x.f2 x.f3 x.f4 x.f5
def okFrom (n : Nat) : Nat → List S26 → Bool
  | _, [] => true
  | i, x :: r => stepS x && ((!(decide (0 < x.f5) && decide ((n : Int) ≤ (i : Int) + x.f5 + 1))) && okFrom n (i + 1) r)
def lastB (l : List S26) : Bool := (rd_T26 l ((l.length : Int) - 1)).f0 == 11
def goodP (l : List S26) : Bool := inB (l.length : Int) 1 20 && (lastB l && okFrom l.length 0 l)
theorem specGoodP_l (l : List S26) (hl : l.length ≤ 1048576) : ∀ (d i k : Nat), i + d = l.length → d + 10 < k → spec_GoodProgram.l0 k l l (l.length : Int) (i : Int) = some (okFrom l.length i (l.drop i) && (inB (l.length : Int) 1 20 && lastB l))
  | 0, i, k, h1, hk => by
    obtain ⟨k, rfl⟩ : ∃ m, k = m + 1 := ⟨k - 1, by omega⟩
    simp only [spec_GoodProgram.l0]
    rw [if_neg (by omega), specIn_val, List.drop_of_length_le (by omega), okFrom]
    simp only [Option.bind_some, Bool.true_and]
    cases hin : inB (l.length : Int) 1 20 with
    | false => simp
    | true =>
      simp [inB] at hin
      rw [if_pos rfl, w64 (by omega) (by omega), if_pos (by omega), if_pos (by omega)]
      simp [lastB]
  | d + 1, i, k, h1, hk => by
    obtain ⟨k, rfl⟩ : ∃ m, k = m + 1 := ⟨k - 1, by omega⟩
    simp only [spec_GoodProgram.l0]
    rw [if_pos (by omega), if_pos (by omega), if_pos (by omega), rd26_nat l i (by omega), specStep_val _ _ _ _ _ _ k (by omega), dropS_at l i (by omega), okFrom, show stepB l[i].f0 l[i].f1 l[i].f2 l[i].f3 l[i].f4 l[i].f5 = stepS l[i] from rfl]
    simp only [Option.bind_some]
    cases hs : stepS l[i] with
    | false => simp
    | true =>
      obtain ⟨hr, _⟩ := step_to _ _ _ _ _ _ hs
      rw [if_pos rfl, w64 (x := (i : Int) + l[i].f5) (by omega) (by omega), w64 (by omega) (by omega), next64 (by omega), specGoodP_l l hl d (i + 1) k (by omega) (by omega)]
      by_cases c5 : 0 < l[i].f5
      · rw [if_pos (show l[i].f5 > 0 from c5), decide_eq_true c5]
        by_cases c6 : (l.length : Int) ≤ (i : Int) + l[i].f5 + 1
        · rw [if_pos (show (i : Int) + l[i].f5 + 1 ≥ (l.length : Int) from c6), decide_eq_true c6]
          simp
        · rw [if_neg (show ¬ (i : Int) + l[i].f5 + 1 ≥ (l.length : Int) from c6), decide_eq_false c6]
          simp
      · rw [if_neg (show ¬ l[i].f5 > 0 from c5), decide_eq_false c5]
        simp
theorem specGoodP_val (l : List S26) (hl : l.length ≤ 1048576) (k : Nat) (hk : l.length + 10 < k) : spec_GoodProgram.f k l = some (goodP l) := by
  unfold spec_GoodProgram.f goodP
  have := specGoodP_l l hl l.length 0 k (by omega) (by omega)
  rw [show ((0 : Nat) : Int) = 0 from rfl] at this
  rw [this, List.drop_zero]
  cases okFrom l.length 0 l <;> cases inB (l.length : Int) 1 20 <;> cases lastB l <;> rfl
theorem implGoodP_l (l : List S26) (hl : l.length ≤ 1048576) : ∀ (d i k : Nat), i + d = l.length → d + 20 < k → impl_GoodProgram.l0 k l l (l.length : Int) (i : Int) = some (okFrom l.length i (l.drop i))
  | 0, i, k, h1, hk => by
    obtain ⟨k, rfl⟩ : ∃ m, k = m + 1 := ⟨k - 1, by omega⟩
    simp only [impl_GoodProgram.l0]
    rw [if_neg (by omega), List.drop_of_length_le (by omega), okFrom]
  | d + 1, i, k, h1, hk => by
    obtain ⟨k, rfl⟩ : ∃ m, k = m + 1 := ⟨k - 1, by omega⟩
    simp only [impl_GoodProgram.l0]
    rw [if_pos (by omega), if_pos (by omega), if_pos (by omega), rd26_nat l i (by omega), implStep_val _ _ _ _ _ _ k (by omega), dropS_at l i (by omega), okFrom, show stepB l[i].f0 l[i].f1 l[i].f2 l[i].f3 l[i].f4 l[i].f5 = stepS l[i] from rfl]
    simp only [Option.bind_some]
    cases hs : stepS l[i] with
    | false => simp
    | true =>
      obtain ⟨hr, hj⟩ := step_to _ _ _ _ _ _ hs
      have hjm : impl_Step_jumps.f l[i].f0 l[i].f1 l[i].f2 l[i].f3 l[i].f4 l[i].f5 = some (decide (0 < l[i].f5)) := by
        unfold impl_Step_jumps.f
        by_cases c8 : l[i].f0 = 8
        · rw [if_pos c8, decide_eq_true (hj.2 (Or.inl c8))]
        · rw [if_neg c8]
          by_cases c9 : l[i].f0 = 9
          · rw [if_pos c9, decide_eq_true (hj.2 (Or.inr (Or.inl c9)))]
          · rw [if_neg c9]
            by_cases c10 : l[i].f0 = 10
            · rw [decide_eq_true (hj.2 (Or.inr (Or.inr c10)))]
              simp [c10]
            · rw [decide_eq_false (fun h => by rcases hj.1 h with h | h | h <;> contradiction)]
              simp [c10]
      rw [if_pos rfl, hjm, w64 (x := (i : Int) + l[i].f5) (by omega) (by omega), w64 (by omega) (by omega), next64 (by omega), implGoodP_l l hl d (i + 1) k (by omega) (by omega)]
      simp only [Option.bind_some]
      by_cases c5 : 0 < l[i].f5
      · rw [decide_eq_true c5, if_pos rfl]
        by_cases c6 : (l.length : Int) ≤ (i : Int) + l[i].f5 + 1
        · rw [if_pos (show (i : Int) + l[i].f5 + 1 ≥ (l.length : Int) from c6), decide_eq_true c6]
          simp
        · rw [if_neg (show ¬ (i : Int) + l[i].f5 + 1 ≥ (l.length : Int) from c6), decide_eq_false c6]
          simp
      · rw [decide_eq_false c5]
        simp
theorem implGoodP_val (l : List S26) (hl : l.length ≤ 1048576) (k : Nat) (hk : l.length + 30 < k) : impl_GoodProgram.f k l = some (goodP l) := by
  obtain ⟨k, rfl⟩ : ∃ m, k = m + 1 := ⟨k - 1, by omega⟩
  unfold impl_GoodProgram.f goodP
  rw [implIn_val]
  simp only [Option.bind_some]
  cases hin : inB (l.length : Int) 1 20 with
  | false => simp [impl_GoodProgram.j0]
  | true =>
    simp [inB] at hin
    rw [if_pos rfl, w64 (by omega) (by omega), if_pos (by omega), if_pos (by omega), show ((rd_T26 l ((l.length : Int) - 1)).f0 != 11) = !(lastB l) from rfl]
    cases lastB l with
    | false => simp [impl_GoodProgram.j0]
    | true =>
      have := implGoodP_l l hl l.length 0 k (by omega) (by omega)
      rw [show ((0 : Nat) : Int) = 0 from rfl, List.drop_zero] at this
      simp [impl_GoodProgram.j0, this]

def stepNums (a0_0 a0_1 a0_2 a0_3 a0_4 a0_5 : Int) : List Int := [(wrap64 (a0_0 + (wrap64 (16 * a0_1)))) % 256, (wrap64 ((wrap64 (16 * a0_2)) + a0_3)) % 256, (a0_5) % 256, (Int.tmod a0_4 256) % 256] ++ (if a0_0 = 4 then [0, 0, 0, (wrap64 (Int.tdiv a0_4 256)) % 256] else [])
theorem specBytes_val (a0_0 a0_1 a0_2 a0_3 a0_4 a0_5 : Int) : spec_l2Bytes.f a0_0 a0_1 a0_2 a0_3 a0_4 a0_5 = some (strOfNums (stepNums a0_0 a0_1 a0_2 a0_3 a0_4 a0_5)) := by
  unfold spec_l2Bytes.f stepNums
  simp only [Option.bind_some]
  by_cases h : a0_0 = 4
  · rw [if_pos h, if_pos h, if_pos (by simp)]
  · rw [if_neg h, if_neg h, List.append_nil]
theorem implBytes_val (a0_0 a0_1 a0_2 a0_3 a0_4 a0_5 : Int) : impl_Step_bytes.f a0_0 a0_1 a0_2 a0_3 a0_4 a0_5 = some (stepNums a0_0 a0_1 a0_2 a0_3 a0_4 a0_5) := by
  unfold impl_Step_bytes.f stepNums
  simp only [Option.bind_some]
  by_cases h : a0_0 = 4
  · rw [if_pos h, if_pos h, if_pos (by simp)]
  · rw [if_neg h, if_neg h, List.append_nil]
theorem stepNums_length (a0_0 a0_1 a0_2 a0_3 a0_4 a0_5 : Int) : (stepNums a0_0 a0_1 a0_2 a0_3 a0_4 a0_5).length ≤ 8 := by
  unfold stepNums
  split <;> simp

def numsS (x : S26) : List Int := stepNums x.f0 x.f1 x.f2 x.f3 x.f4 x.f5
def numsAll : List S26 → List Int
  | [] => []
  | x :: r => numsS x ++ numsAll r
theorem strOfNums_app (a b : List Int) : strOfNums a ++ strOfNums b = strOfNums (a ++ b) := by
  apply ByteArray.ext
  simp [strOfNums]
theorem specPB_l (l : List S26) (hl : l.length ≤ 1048576) : ∀ (d i k : Nat) (y : List Int), i + d = l.length → y.length ≤ 8 * i → d < k → spec_ProgramBytes.l0 k (strOfNums y) l (l.length : Int) (i : Int) = some (strOfNums (y ++ numsAll (l.drop i)), true)
  | 0, i, k, y, h1, h2, hk => by
    obtain ⟨k, rfl⟩ : ∃ m, k = m + 1 := ⟨k - 1, by omega⟩
    simp only [spec_ProgramBytes.l0]
    rw [if_neg (by omega), List.drop_of_length_le (by omega), numsAll, List.append_nil]
  | d + 1, i, k, y, h1, h2, hk => by
    obtain ⟨k, rfl⟩ : ∃ m, k = m + 1 := ⟨k - 1, by omega⟩
    have h8 := stepNums_length (l[i]).f0 (l[i]).f1 (l[i]).f2 (l[i]).f3 (l[i]).f4 (l[i]).f5
    simp only [spec_ProgramBytes.l0]
    rw [if_pos (by omega), if_pos (by omega), if_pos (by omega), rd26_nat l i (by omega), specBytes_val]
    simp only [Option.bind_some]
    rw [strOfNums_size, strOfNums_size, if_pos (by omega), strOfNums_app, next64 (by omega), specPB_l l hl d (i + 1) k _ (by omega) (by rw [List.length_append]; omega) (by omega), dropS_at l i (by omega), numsAll, List.append_assoc]
    rfl
theorem implPB_l (l : List S26) (hl : l.length ≤ 1048576) : ∀ (d i k : Nat) (y : List Int), i + d = l.length → y.length ≤ 8 * i → d < k → impl_ProgramBytes.l0 k y l (l.length : Int) (i : Int) = some (strOfNums (y ++ numsAll (l.drop i)), true)
  | 0, i, k, y, h1, h2, hk => by
    obtain ⟨k, rfl⟩ : ∃ m, k = m + 1 := ⟨k - 1, by omega⟩
    simp only [impl_ProgramBytes.l0]
    rw [if_neg (by omega), List.drop_of_length_le (by omega), numsAll, List.append_nil]
  | d + 1, i, k, y, h1, h2, hk => by
    obtain ⟨k, rfl⟩ : ∃ m, k = m + 1 := ⟨k - 1, by omega⟩
    have h8 := stepNums_length (l[i]).f0 (l[i]).f1 (l[i]).f2 (l[i]).f3 (l[i]).f4 (l[i]).f5
    simp only [impl_ProgramBytes.l0]
    rw [if_pos (by omega), if_pos (by omega), if_pos (by omega), rd26_nat l i (by omega), implBytes_val]
    simp only [Option.bind_some]
    rw [if_pos (by omega), next64 (by omega), implPB_l l hl d (i + 1) k _ (by omega) (by rw [List.length_append]; omega) (by omega), dropS_at l i (by omega), numsAll, List.append_assoc]
    rfl
def pbR (l : List S26) : ByteArray × Bool := if goodP l = true then (strOfNums (numsAll l), true) else (⟨#[]⟩, false)
theorem specPB_val (l : List S26) (hll : l.length ≤ 1048576) (k : Nat) (hk : 1048700 ≤ k) : spec_ProgramBytes.f k l = some (pbR l) := by
  unfold spec_ProgramBytes.f pbR
  rw [specGoodP_val l hll k (by omega)]
  simp only [Option.bind_some]
  cases hg : goodP l with
  | false => rfl
  | true =>
    have := specPB_l l hll l.length 0 k [] (by omega) (by simp) (by omega)
    rw [if_pos rfl, if_pos rfl]
    rw [List.nil_append, List.drop_zero] at this
    exact this
theorem implPB_val (l : List S26) (hll : l.length ≤ 1048576) (k : Nat) (hk : 1048700 ≤ k) : impl_ProgramBytes.f k l = some (pbR l) := by
  unfold impl_ProgramBytes.f pbR
  rw [implGoodP_val l hll k (by omega)]
  simp only [Option.bind_some]
  cases hg : goodP l with
  | false => rfl
  | true =>
    have := implPB_l l hll l.length 0 k [] (by omega) (by simp) (by omega)
    rw [if_pos rfl, if_pos rfl]
    rw [List.nil_append, List.drop_zero] at this
    exact this

theorem FnExactProgramBytes : laws_FnExactProgramBytes.Pure := by
  rintro l0 ⟨h0, _⟩
  obtain ⟨k, hk⟩ : ∃ k : Nat, 9000000 ≤ k := ⟨_, Nat.le_refl _⟩
  refine ⟨k, ?_⟩
  unfold laws_FnExactProgramBytes.f
  obtain ⟨t, ht, _, hte⟩ := szStepS_val l0 (by unfold maxLen at h0; omega)
  rw [ht]
  simp only [Option.bind_some]
  by_cases hn : t < 0
  · rw [if_pos hn]
  · rw [if_neg hn]
    have hb := hte (by omega)
    obtain ⟨l, hl⟩ : ∃ l, l = l0.map cv_ := ⟨_, rfl⟩
    have hll : l.length ≤ 1048576 := by rw [hl, List.length_map]; exact hb
    have hT : ∀ q, 9000000 ≤ q → laws_toStepS.f q l0 = some l := fun q hq => by rw [hl]; exact toStepS_val l0 hb q (by omega)
    have hE : ∀ q, 9000000 ≤ q → laws_eqStepS.f q l l = some true := fun q hq => eqStepS_val l (by omega) q (by omega)
    have hs : ∀ q, 9000000 ≤ q → spec_ProgramBytes.f q l = some (pbR l) := fun q hq => specPB_val l hll q (by omega)
    have him : ∀ q, 9000000 ≤ q → impl_ProgramBytes.f q l = some (pbR l) := fun q hq => implPB_val l hll q (by omega)
    repeat (first
      | (rw [hT _ (by omega)]; simp only [Option.bind_some])
      | (rw [hs _ (by omega)]; simp only [Option.bind_some])
      | (rw [him _ (by omega)]; simp only [Option.bind_some])
      | (rw [hE _ (by omega)]; simp only [Option.bind_some])
      | rw [if_pos rfl]
      | rw [bne_self_eq_false]
      | rw [if_neg Bool.false_ne_true]
      | simp only [Option.bind_some])
    try simp

end Go.Proofs.Ytjopmdogdmdanaa.Pure
