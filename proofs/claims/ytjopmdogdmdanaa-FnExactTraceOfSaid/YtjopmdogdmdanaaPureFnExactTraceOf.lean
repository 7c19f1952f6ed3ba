/- The pure statement of the law FnExactTraceOf: the printed functions of the program and of the reference give the same answers, at every input that the statement's guards let in. -/
import Derived.Test.YtjopmdogdmdanaaPFnExactTraceOfx12
namespace Go.Proofs.Ytjopmdogdmdanaa.Pure
open Go.RowKit Go.Proofs.Ytjopmdogdmdanaa.PFnExactTraceOf Go.Proofs.YtjopmdogdmdanaaW.PrintWords Go.Proofs.YtjopmdogdmdanaaW.PrintLast Go.Proofs.YtjopmdogdmdanaaW.PrintMore
set_option linter.unusedSimpArgs false
set_option linter.unusedVariables false
set_option linter.unusedSimpArgs false
set_option linter.unusedVariables false
theorem w64 {x : Int} (h0 : -9223372036854775808 ≤ x) (h1 : x ≤ 9223372036854775807) : wrap64 x = x := by
  unfold wrap64
  omega
theorem l64 {a : Int} (h : (Lit.int .i64 a).wf = true) : -9223372036854775808 ≤ a ∧ a ≤ 9223372036854775807 := by
  simp only [Lit.wf, IntKind.min, IntKind.max, IntKind.signed, IntKind.bits, Bool.and_eq_true, decide_eq_true_eq, if_true] at h
  omega
theorem rd_nat (l : List Int) (i : Nat) (h : i < l.length) : rd l (i : Int) = l[i] := by
  unfold rd
  rw [List.getD_eq_getElem?_getD, show ((i : Int).toNat) = i by omega, List.getElem?_eq_getElem h]
  rfl
theorem next64 {i : Nat} (h : i ≤ 4611686018427387904) : wrap64 ((i : Int) + 1) = ((i + 1 : Nat) : Int) := by
  rw [w64 (by omega) (by omega)]
  omega

theorem rd26_nat (l : List S26) (i : Nat) (h : i < l.length) : rd_T26 l (i : Int) = l[i] := by
  unfold rd_T26
  rw [List.getD_eq_getElem?_getD, show ((i : Int).toNat) = i by omega, List.getElem?_eq_getElem h]
  rfl
theorem eqStep_val (a0 a1 a2 a3 a4 a5 : Int) : laws_eqStep.f a0 a1 a2 a3 a4 a5 a0 a1 a2 a3 a4 a5 = some true := by simp [laws_eqStep.f]
theorem eqStepS_l (l : List S26) (hl : l.length ≤ 4611686018427387904) : ∀ (d i k : Nat), i + d = l.length → d < k → laws_eqStepS.l0 k l l (i : Int) = some true
  | 0, i, k, h1, hk => by
    obtain ⟨k, rfl⟩ : ∃ m, k = m + 1 := ⟨k - 1, by omega⟩
    simp only [laws_eqStepS.l0]
    rw [if_neg (by omega)]
  | d + 1, i, k, h1, hk => by
    obtain ⟨k, rfl⟩ : ∃ m, k = m + 1 := ⟨k - 1, by omega⟩
    simp only [laws_eqStepS.l0, eqStep_val, Option.bind_some]
    rw [if_pos (by omega), if_pos (by omega), if_pos (by omega), if_true, next64 (by omega)]
    exact eqStepS_l l hl d (i + 1) k (by omega) (by omega)
theorem eqStepS_val (l : List S26) (hl : l.length ≤ 4611686018427387904) (k : Nat) (hk : l.length < k) : laws_eqStepS.f k l l = some true := by
  unfold laws_eqStepS.f
  rw [if_pos rfl]
  exact eqStepS_l l hl l.length 0 k (by omega) hk
theorem dropS_at (l : List S26) (i : Nat) (h : i < l.length) : l.drop i = l[i] :: l.drop (i + 1) := List.drop_eq_getElem_cons h

def cv_ (x : S23) : S26 := ⟨x.f0, x.f1, x.f2, x.f3, x.f4, x.f5⟩
theorem rd23_nat (l : List S23) (i : Nat) (h : i < l.length) : rd_T23 l (i : Int) = l[i] := by
  unfold rd_T23
  rw [List.getD_eq_getElem?_getD, show ((i : Int).toNat) = i by omega, List.getElem?_eq_getElem h]
  rfl
theorem szStepS_val (l : List S23) (hl : l.length ≤ 9223372036854775807) : ∃ t, laws_szStepS.f l 1048576 = some t ∧ t ≤ 1048576 ∧ (0 ≤ t → l.length ≤ 1048576) := by
  unfold laws_szStepS.f
  rw [w64 (by omega) (by omega)]
  by_cases h : (1048576 : Int) - (l.length : Int) < 0
  · rw [if_pos h]
    exact ⟨-1, rfl, by omega, fun h => absurd h (by omega)⟩
  · rw [if_neg h]
    exact ⟨_, rfl, by omega, fun _ => by omega⟩
theorem toStepS_l (l : List S23) (hl : l.length ≤ 1048576) : ∀ (d i : Nat) (y : List S26) (k : Nat), i + d = l.length → y.length = l.length → (∀ j, j < i → y[j]? = (l.map cv_)[j]?) → d < k → laws_toStepS.l0 k l y (i : Int) = some (l.map cv_)
  | 0, i, y, k, h1, h2, h3, hk => by
    obtain ⟨k, rfl⟩ : ∃ m, k = m + 1 := ⟨k - 1, by omega⟩
    simp only [laws_toStepS.l0]
    rw [if_neg (by omega)]
    congr 1
    apply List.ext_getElem?
    intro j
    by_cases hj : j < i
    · exact h3 j hj
    · rw [List.getElem?_eq_none (by omega), List.getElem?_eq_none (by rw [List.length_map]; omega)]
  | d + 1, i, y, k, h1, h2, h3, hk => by
    obtain ⟨k, rfl⟩ : ∃ m, k = m + 1 := ⟨k - 1, by omega⟩
    simp only [laws_toStepS.l0, laws_toStep.f, Option.bind_some]
    rw [if_pos (by omega), if_pos (by omega), if_pos (by omega), next64 (by omega), rd23_nat l i (by omega)]
    refine toStepS_l l hl d (i + 1) _ k (by omega) (by rw [List.length_set]; exact h2) (fun j hj => ?_) (by omega)
    rw [show ((i : Int).toNat) = i by omega, List.getElem?_set]
    by_cases e : i = j
    · subst e
      rw [if_pos rfl, if_pos (by omega), List.getElem?_map, List.getElem?_eq_getElem (by omega)]
      rfl
    · rw [if_neg e]
      exact h3 j (by omega)
theorem toStepS_val (l : List S23) (hl : l.length ≤ 1048576) (k : Nat) (hk : l.length < k) : laws_toStepS.f k l = some (l.map cv_) := by
  unfold laws_toStepS.f
  rw [if_pos (by omega), if_pos (by omega)]
  exact toStepS_l l hl l.length 0 _ k (by omega) (by rw [List.length_replicate]; omega) (fun j hj => absurd hj (by omega)) hk

theorem toIntS_l (l : List Int) (hl : l.length ≤ 4611686018427387904) : ∀ (d i : Nat) (y : List Int) (k : Nat), i + d = l.length → y.length = l.length → (∀ j, j < i → y[j]? = l[j]?) → d < k → laws_toIntS.l0 k l y (i : Int) = some l
  | 0, i, y, k, h1, h2, h3, hk => by
    obtain ⟨k, rfl⟩ : ∃ m, k = m + 1 := ⟨k - 1, by omega⟩
    simp only [laws_toIntS.l0]
    rw [if_neg (by omega)]
    congr 1
    apply List.ext_getElem?
    intro j
    by_cases hj : j < i
    · exact h3 j hj
    · rw [List.getElem?_eq_none (by omega), List.getElem?_eq_none (by omega)]
  | d + 1, i, y, k, h1, h2, h3, hk => by
    obtain ⟨k, rfl⟩ : ∃ m, k = m + 1 := ⟨k - 1, by omega⟩
    simp only [laws_toIntS.l0]
    rw [if_pos (by omega), if_pos (by omega), if_pos (by omega), next64 (by omega), rd_nat l i (by omega)]
    refine toIntS_l l hl d (i + 1) _ k (by omega) (by rw [List.length_set]; exact h2) (fun j hj => ?_) (by omega)
    rw [show ((i : Int).toNat) = i by omega, List.getElem?_set]
    by_cases e : i = j
    · subst e
      rw [if_pos rfl, if_pos (by omega), List.getElem?_eq_getElem (by omega)]
    · rw [if_neg e]
      exact h3 j (by omega)
theorem toIntS_val (l : List Int) (hl : l.length ≤ 1048576) (k : Nat) (hk : l.length < k) : laws_toIntS.f k l = some l := by
  unfold laws_toIntS.f
  rw [if_pos (by omega), if_pos (by omega)]
  exact toIntS_l l (by omega) l.length 0 _ k (by omega) (by rw [List.length_replicate]; omega) (fun j hj => absurd hj (by omega)) hk

theorem eqIntS_l (l : List Int) (hl : l.length ≤ 4611686018427387904) : ∀ (d i k : Nat), i + d = l.length → d < k → laws_eqIntS.l0 k l l (i : Int) = some true
  | 0, i, k, h1, hk => by
    obtain ⟨k, rfl⟩ : ∃ m, k = m + 1 := ⟨k - 1, by omega⟩
    simp only [laws_eqIntS.l0]
    rw [if_neg (by omega)]
  | d + 1, i, k, h1, hk => by
    obtain ⟨k, rfl⟩ : ∃ m, k = m + 1 := ⟨k - 1, by omega⟩
    simp only [laws_eqIntS.l0]
    rw [if_pos (by omega), if_pos (by omega), if_pos (by omega), if_true, next64 (by omega)]
    exact eqIntS_l l hl d (i + 1) k (by omega) (by omega)
theorem eqIntS_val (l : List Int) (hl : l.length ≤ 4611686018427387904) (k : Nat) (hk : l.length < k) : laws_eqIntS.f k l l = some true := by
  unfold laws_eqIntS.f
  rw [if_pos rfl]
  exact eqIntS_l l hl l.length 0 k (by omega) hk

theorem markStepS_l : ∀ (d i : Nat) (y : List S26) (a : Int) (k : Nat), i + d = y.length → y.length ≤ 1048576 → 0 ≤ a → a + 6 * (d : Int) ≤ 4398046511104 → d < k → ∃ z, laws_markStepS.l0 k y a (i : Int) = some (a + 6 * (d : Int), z)
  | 0, i, y, a, k, h1, h2, h3, h4, hk => by
    obtain ⟨k, rfl⟩ : ∃ m, k = m + 1 := ⟨k - 1, by omega⟩
    simp only [laws_markStepS.l0]
    rw [if_neg (by omega)]
    exact ⟨y, by simp⟩
  | d + 1, i, y, a, k, h1, h2, h3, h4, hk => by
    obtain ⟨k, rfl⟩ : ∃ m, k = m + 1 := ⟨k - 1, by omega⟩
    simp only [laws_markStepS.l0, Option.bind_some]
    rw [if_pos (by omega), if_pos (by omega), next64 (by omega)]
    rw [w64 (x := a + 1) (by omega) (by omega), w64 (x := a + 1 + 1) (by omega) (by omega), w64 (x := a + 1 + 1 + 1) (by omega) (by omega), w64 (x := a + 1 + 1 + 1 + 1) (by omega) (by omega), w64 (x := a + 1 + 1 + 1 + 1 + 1) (by omega) (by omega), w64 (x := a + 1 + 1 + 1 + 1 + 1 + 1) (by omega) (by omega)]
    have key : ∀ yy : List S26, yy.length = y.length → ∃ z, laws_markStepS.l0 k yy (a + 1 + 1 + 1 + 1 + 1 + 1) ((i + 1 : Nat) : Int) = some (a + 6 * ((d + 1 : Nat) : Int), z) := by
      intro yy hy
      obtain ⟨z, hz⟩ := markStepS_l d (i + 1) yy (a + 1 + 1 + 1 + 1 + 1 + 1) k (by omega) (by omega) (by omega) (by omega) (by omega)
      exact ⟨z, by rw [hz, show a + 1 + 1 + 1 + 1 + 1 + 1 + 6 * (d : Int) = a + 6 * ((d + 1 : Nat) : Int) by omega]⟩
    exact key _ (by simp only [List.length_set])
def mk_ (q : Nat) (l : List S26) : List S26 := ((laws_markStepS.f q l 1).getD (0, [])).2
theorem markStepS_val (l : List S26) (hl : l.length ≤ 1048576) (k : Nat) (hk : l.length < k) : laws_markStepS.f k l 1 = some (1 + 6 * (l.length : Int), mk_ k l) := by
  obtain ⟨z, hz⟩ := markStepS_l l.length 0 l 1 k (by omega) hl (by omega) (by omega) hk
  have h : laws_markStepS.f k l 1 = some (1 + 6 * (l.length : Int), z) := hz
  unfold mk_
  rw [h]
  rfl

theorem markIntS_l (a : Int) (ha : 0 ≤ a) (ha2 : a ≤ 4398046511104) : ∀ (d i : Nat) (y : List Int) (k : Nat), i + d = y.length → y.length ≤ 4398046511104 → (∀ j (hj : j < y.length), j < i → y[j] = a + j) → d < k →
    ∃ z : List Int, laws_markIntS.l0 k y (a + i) (i : Int) = some (a + y.length, z) ∧ z.length = y.length ∧ ∀ j (hj : j < z.length), z[j] = a + j
  | 0, i, y, k, h1, h2, h3, hk => by
    obtain ⟨k, rfl⟩ : ∃ m, k = m + 1 := ⟨k - 1, by omega⟩
    simp only [laws_markIntS.l0]
    rw [if_neg (by omega)]
    exact ⟨y, by rw [show (a + (i : Int)) = a + (y.length : Int) by omega], rfl, fun j hj => h3 j hj (by omega)⟩
  | d + 1, i, y, k, h1, h2, h3, hk => by
    obtain ⟨k, rfl⟩ : ∃ m, k = m + 1 := ⟨k - 1, by omega⟩
    simp only [laws_markIntS.l0]
    rw [if_pos (by omega), if_pos (by omega), next64 (by omega), w64 (by omega) (by omega), show a + (i : Int) + 1 = a + ((i + 1 : Nat) : Int) by omega, show ((i : Int).toNat) = i by omega]
    obtain ⟨z, hz, hzl, hze⟩ := markIntS_l a ha ha2 d (i + 1) (y.set i (a + i)) k (by rw [List.length_set]; omega) (by rw [List.length_set]; omega) (fun j hj hji => by
      rw [List.getElem_set]
      by_cases e : i = j
      · rw [if_pos e, e]
      · rw [if_neg e]
        exact h3 j (by rw [List.length_set] at hj; exact hj) (by omega)) (by omega)
    rw [List.length_set] at hz hzl
    exact ⟨z, hz, hzl, hze⟩
theorem heldIntS_l (a : Int) (ha : 0 ≤ a) (ha2 : a ≤ 4398046511104) (z : List Int) (hl : z.length ≤ 4398046511104) (hz : ∀ j (hj : j < z.length), z[j] = a + j) : ∀ (d i k : Nat), i + d = z.length → d < k → laws_heldIntS.l0 k z (a + i) (i : Int) = some (a + z.length)
  | 0, i, k, h1, hk => by
    obtain ⟨k, rfl⟩ : ∃ m, k = m + 1 := ⟨k - 1, by omega⟩
    simp only [laws_heldIntS.l0]
    rw [if_neg (by omega), show (a + (i : Int)) = a + (z.length : Int) by omega]
  | d + 1, i, k, h1, hk => by
    obtain ⟨k, rfl⟩ : ∃ m, k = m + 1 := ⟨k - 1, by omega⟩
    simp only [laws_heldIntS.l0]
    rw [if_pos (by omega), if_pos (by omega), rd_nat z i (by omega), if_pos (hz i (by omega)), next64 (by omega), w64 (by omega) (by omega), show a + (i : Int) + 1 = a + ((i + 1 : Nat) : Int) by omega]
    exact heldIntS_l a ha ha2 z hl hz d (i + 1) k (by omega) (by omega)
def markZ (a : Int) (n : Nat) : List Int := (List.range n).map fun (j : Nat) => a + (j : Int)
theorem markZ_length (a : Int) (n : Nat) : (markZ a n).length = n := by simp [markZ]
theorem markIntS_val (y : List Int) (a : Int) (ha : 0 ≤ a) (ha2 : a ≤ 4398046511104) (hl : y.length ≤ 4398046511104) (k : Nat) (hk : y.length < k) :
    laws_markIntS.f k y a = some (a + y.length, markZ a y.length) := by
  obtain ⟨z, h1, h2, h3⟩ := markIntS_l a ha ha2 y.length 0 y k (by omega) hl (fun j _ hj => absurd hj (by omega)) hk
  have hz : z = markZ a y.length := by
    apply List.ext_getElem (by rw [h2, markZ_length])
    intro j hj1 hj2
    rw [h3 j hj1]
    simp [markZ]
  rw [← hz]
  unfold laws_markIntS.f
  simpa using h1
theorem heldIntS_val (n : Nat) (a : Int) (ha : 0 ≤ a) (ha2 : a ≤ 4398046511104) (hn : n ≤ 4398046511104) (k : Nat) (hk : n < k) : laws_heldIntS.f k (markZ a n) a = some (a + n) := by
  have := heldIntS_l a ha ha2 (markZ a n) (by rw [markZ_length]; omega) (fun j hj => by simp [markZ]) (markZ a n).length 0 k (by omega) (by rw [markZ_length]; omega)
  rw [markZ_length] at this
  unfold laws_heldIntS.f
  simpa using this

set_option linter.unusedSimpArgs false
set_option linter.unusedVariables false
def inB (a lo hi : Int) : Bool := decide (lo ≤ a) && decide (a ≤ hi)
theorem specIn_val (a lo hi : Int) : spec_l1In.f a lo hi = some (inB a lo hi) := by
  unfold spec_l1In.f inB
  by_cases h : lo ≤ a
  · rw [if_pos (by omega)]
    simp [h]
  · rw [if_neg (by omega)]
    simp [h]
theorem implIn_val (a lo hi : Int) : impl_in.f a lo hi = some (inB a lo hi) := by
  unfold impl_in.f inB
  by_cases h : lo ≤ a
  · rw [if_pos (by omega)]
    simp [h]
  · rw [if_neg (by omega)]
    simp [h]
def zB (a1 a2 a3 a4 a5 : Int) (f1 f2 f3 f4 f5 : Bool) : Bool := (f1 || a1 == 0) && ((f2 || a2 == 0) && ((f3 || a3 == 0) && ((f4 || a4 == 0) && (f5 || a5 == 0))))
theorem specZero_val (a0 a1 a2 a3 a4 a5 : Int) (f1 f2 f3 f4 f5 : Bool) : spec_l2Zero.f a0 a1 a2 a3 a4 a5 f1 f2 f3 f4 f5 = some (zB a1 a2 a3 a4 a5 f1 f2 f3 f4 f5) := by
  unfold spec_l2Zero.f zB
  cases f1 <;> cases f2 <;> cases f3 <;> cases f4 <;> cases f5 <;> simp only [Bool.false_eq_true, if_true, if_false, Bool.true_or, Bool.false_or, Bool.true_and, Bool.and_true] <;> (repeat' split) <;> simp [*]
/-- A step is well formed. -/
def stepB (a0_0 a0_1 a0_2 a0_3 a0_4 a0_5 : Int) : Bool := inB a0_2 0 5 && (inB a0_3 0 5 &&
  (if a0_0 = 1 then inB a0_1 1 10 && zB a0_1 a0_2 a0_3 a0_4 a0_5 true true true false false
  else if a0_0 = 2 then inB a0_1 1 10 && (inB a0_4 0 255 && zB a0_1 a0_2 a0_3 a0_4 a0_5 true true false true false)
  else if a0_0 = 3 then inB a0_4 0 255 && zB a0_1 a0_2 a0_3 a0_4 a0_5 false true false true false
  else if a0_0 = 4 then inB a0_4 256 65535 && zB a0_1 a0_2 a0_3 a0_4 a0_5 false true false true false
  else if a0_0 = 5 then inB a0_4 0 7 && zB a0_1 a0_2 a0_3 a0_4 a0_5 false true true true false
  else if a0_0 = 6 then inB a0_4 0 255 && zB a0_1 a0_2 a0_3 a0_4 a0_5 false true false true false
  else if a0_0 = 7 then inB a0_4 0 255 && zB a0_1 a0_2 a0_3 a0_4 a0_5 false true false true false
  else if a0_0 = 8 then inB a0_5 1 19 && zB a0_1 a0_2 a0_3 a0_4 a0_5 false false false false true
  else if a0_0 = 9 then inB a0_5 1 19 && zB a0_1 a0_2 a0_3 a0_4 a0_5 false true true false true
  else if a0_0 = 10 then inB a0_5 1 19 && zB a0_1 a0_2 a0_3 a0_4 a0_5 false true true false true
  else if a0_0 = 11 then zB a0_1 a0_2 a0_3 a0_4 a0_5 false false false false false
  else false))
theorem specStep_val (a0_0 a0_1 a0_2 a0_3 a0_4 a0_5 : Int) (k : Nat) (hk : 3 ≤ k) : spec_l2Step.f k a0_0 a0_1 a0_2 a0_3 a0_4 a0_5 = some (stepB a0_0 a0_1 a0_2 a0_3 a0_4 a0_5) := by
  obtain ⟨k, rfl⟩ : ∃ m, k = m + 3 := ⟨k - 3, by omega⟩
  unfold spec_l2Step.f spec_l2Reg.f stepB
  simp only [specIn_val, Option.bind_some, spec_l2Step.j0, spec_l2Step.j1, spec_l2Step.j2, specZero_val]
  cases inB a0_2 0 5 with
  | false => simp
  | true =>
    cases inB a0_3 0 5 with
    | false => simp
    | true =>
      simp only [Bool.true_and, if_true, Bool.not_true, Bool.false_eq_true, if_false]
      by_cases c1 : a0_0 = 1
      · subst c1
        cases inB a0_1 1 10 <;> cases inB a0_4 0 255 <;> cases inB a0_4 256 65535 <;> cases inB a0_4 0 7 <;> cases inB a0_5 1 19 <;> simp
      by_cases c2 : a0_0 = 2
      · subst c2
        cases inB a0_1 1 10 <;> cases inB a0_4 0 255 <;> cases inB a0_4 256 65535 <;> cases inB a0_4 0 7 <;> cases inB a0_5 1 19 <;> simp
      by_cases c3 : a0_0 = 3
      · subst c3
        cases inB a0_1 1 10 <;> cases inB a0_4 0 255 <;> cases inB a0_4 256 65535 <;> cases inB a0_4 0 7 <;> cases inB a0_5 1 19 <;> simp
      by_cases c4 : a0_0 = 4
      · subst c4
        cases inB a0_1 1 10 <;> cases inB a0_4 0 255 <;> cases inB a0_4 256 65535 <;> cases inB a0_4 0 7 <;> cases inB a0_5 1 19 <;> simp
      by_cases c5 : a0_0 = 5
      · subst c5
        cases inB a0_1 1 10 <;> cases inB a0_4 0 255 <;> cases inB a0_4 256 65535 <;> cases inB a0_4 0 7 <;> cases inB a0_5 1 19 <;> simp
      by_cases c6 : a0_0 = 6
      · subst c6
        cases inB a0_1 1 10 <;> cases inB a0_4 0 255 <;> cases inB a0_4 256 65535 <;> cases inB a0_4 0 7 <;> cases inB a0_5 1 19 <;> simp
      by_cases c7 : a0_0 = 7
      · subst c7
        cases inB a0_1 1 10 <;> cases inB a0_4 0 255 <;> cases inB a0_4 256 65535 <;> cases inB a0_4 0 7 <;> cases inB a0_5 1 19 <;> simp
      by_cases c8 : a0_0 = 8
      · subst c8
        cases inB a0_1 1 10 <;> cases inB a0_4 0 255 <;> cases inB a0_4 256 65535 <;> cases inB a0_4 0 7 <;> cases inB a0_5 1 19 <;> simp
      by_cases c9 : a0_0 = 9
      · subst c9
        cases inB a0_1 1 10 <;> cases inB a0_4 0 255 <;> cases inB a0_4 256 65535 <;> cases inB a0_4 0 7 <;> cases inB a0_5 1 19 <;> simp
      by_cases c10 : a0_0 = 10
      · subst c10
        cases inB a0_1 1 10 <;> cases inB a0_4 0 255 <;> cases inB a0_4 256 65535 <;> cases inB a0_4 0 7 <;> cases inB a0_5 1 19 <;> simp
      by_cases c11 : a0_0 = 11
      · subst c11
        cases inB a0_1 1 10 <;> cases inB a0_4 0 255 <;> cases inB a0_4 256 65535 <;> cases inB a0_4 0 7 <;> cases inB a0_5 1 19 <;> simp
      simp [c1, c2, c3, c4, c5, c6, c7, c8, c9, c10, c11]
theorem valid_round (a0_0 a0_1 a0_2 a0_3 a0_4 a0_5 : Int) (z : ByteArray) (r_1 r_2 r_3 r_4 r_5 : Int) (s_1 s_2 s_3 s_4 s_5 : Int) (x L lo hi : Int) (b : Bool) (k : Nat) (h1 : x < (z.size : Int)) (h0 : 0 ≤ x) (hx : x ≤ 100) (hL : bt z x = L) (hr : impl_Step_ranges.f k a0_0 a0_1 a0_2 a0_3 a0_4 a0_5 L = some (lo, hi)) (e1 : zr_ 1 (fieldAt_ L) r_1 = s_1) (e2 : zr_ 2 (fieldAt_ L) r_2 = s_2) (e3 : zr_ 3 (fieldAt_ L) r_3 = s_3) (e4 : zr_ 4 (fieldAt_ L) r_4 = s_4) (e5 : zr_ 5 (fieldAt_ L) r_5 = s_5)
    (hn : impl_Step_valid.l0 k a0_0 a0_1 a0_2 a0_3 a0_4 a0_5 z s_1 s_2 s_3 s_4 s_5 (x + 1) = some b) : impl_Step_valid.l0 (k + 1) a0_0 a0_1 a0_2 a0_3 a0_4 a0_5 z r_1 r_2 r_3 r_4 r_5 x = some (inB (fld_ a0_0 a0_1 a0_2 a0_3 a0_4 a0_5 (fieldAt_ L)) lo hi && b) := by
  simp only [impl_Step_valid.l0]
  rw [if_pos h1, if_pos h0, hL, hr]
  simp only [Option.bind_some]
  rw [implIn_val, e1, e2, e3, e4, e5, w64 (by omega) (by omega), hn]
  simp only [Option.bind_some]
  cases inB (fld_ a0_0 a0_1 a0_2 a0_3 a0_4 a0_5 (fieldAt_ L)) lo hi <;> rfl
theorem valid_end (a0_0 a0_1 a0_2 a0_3 a0_4 a0_5 : Int) (z : ByteArray) (r_1 r_2 r_3 r_4 r_5 : Int) (x : Int) (k : Nat) (h1 : ¬ x < (z.size : Int)) : impl_Step_valid.l0 (k + 1) a0_0 a0_1 a0_2 a0_3 a0_4 a0_5 z r_1 r_2 r_3 r_4 r_5 x = some (inB a0_0 1 11 && decide (r_1 = 0 ∧ r_2 = 0 ∧ r_3 = 0 ∧ r_4 = 0 ∧ r_5 = 0)) := by
  simp only [impl_Step_valid.l0]
  rw [if_neg h1, implIn_val]
  simp only [Option.bind_some]
  cases inB a0_0 1 11 <;> rfl
theorem ranges_o (a0_0 a0_1 a0_2 a0_3 a0_4 a0_5 : Int) (k : Nat) : impl_Step_ranges.f (k + 1) a0_0 a0_1 a0_2 a0_3 a0_4 a0_5 111 = some (1, 10) := by simp [impl_Step_ranges.f]
theorem ranges_d (a0_0 a0_1 a0_2 a0_3 a0_4 a0_5 : Int) (k : Nat) : impl_Step_ranges.f (k + 1) a0_0 a0_1 a0_2 a0_3 a0_4 a0_5 100 = some (0, 5) := by simp [impl_Step_ranges.f, impl_Step_ranges.j0]
theorem ranges_s (a0_0 a0_1 a0_2 a0_3 a0_4 a0_5 : Int) (k : Nat) : impl_Step_ranges.f (k + 1) a0_0 a0_1 a0_2 a0_3 a0_4 a0_5 115 = some (0, 5) := by simp [impl_Step_ranges.f, impl_Step_ranges.j0]
theorem ranges_t (a0_0 a0_1 a0_2 a0_3 a0_4 a0_5 : Int) (k : Nat) : impl_Step_ranges.f (k + 1) a0_0 a0_1 a0_2 a0_3 a0_4 a0_5 116 = some (1, 19) := by simp [impl_Step_ranges.f, impl_Step_ranges.j0]
def immR (a : Int) : Int × Int := if a = 4 then (256, 65535) else if a = 5 then (0, 7) else (0, 255)
theorem ranges_i (a0_0 a0_1 a0_2 a0_3 a0_4 a0_5 : Int) (k : Nat) : impl_Step_ranges.f (k + 1) a0_0 a0_1 a0_2 a0_3 a0_4 a0_5 105 = some ((immR a0_0).1, (immR a0_0).2) := by
  unfold immR
  simp only [impl_Step_ranges.f, impl_Step_ranges.j0]
  by_cases h4 : a0_0 = 4
  · simp [h4]
  · by_cases h5 : a0_0 = 5
    · simp [h5]
    · simp [h4, h5]
theorem valid_ods (a0_0 a0_1 a0_2 a0_3 a0_4 a0_5 : Int) (k : Nat) : impl_Step_valid.l0 (k + 5) a0_0 a0_1 a0_2 a0_3 a0_4 a0_5 ⟨#[111, 100, 115]⟩ a0_1 a0_2 a0_3 a0_4 a0_5 0 = some (inB a0_1 1 10 && (inB a0_2 0 5 && (inB a0_3 0 5 && (inB a0_0 1 11 && decide ((0 : Int) = 0 ∧ (0 : Int) = 0 ∧ (0 : Int) = 0 ∧ a0_4 = 0 ∧ a0_5 = 0))))) := by
  have h3 := valid_end a0_0 a0_1 a0_2 a0_3 a0_4 a0_5 ⟨#[111, 100, 115]⟩ 0 0 0 a0_4 a0_5 3 (k + 1) (by decide)
  have h2 := valid_round a0_0 a0_1 a0_2 a0_3 a0_4 a0_5 ⟨#[111, 100, 115]⟩ 0 0 a0_3 a0_4 a0_5 0 0 0 a0_4 a0_5 2 115 0 5 _ (k + 2) (by decide) (by decide) (by decide) (by rfl) (ranges_s a0_0 a0_1 a0_2 a0_3 a0_4 a0_5 _) (by rfl) (by rfl) (by rfl) (by rfl) (by rfl) h3
  have h1 := valid_round a0_0 a0_1 a0_2 a0_3 a0_4 a0_5 ⟨#[111, 100, 115]⟩ 0 a0_2 a0_3 a0_4 a0_5 0 0 a0_3 a0_4 a0_5 1 100 0 5 _ (k + 3) (by decide) (by decide) (by decide) (by rfl) (ranges_d a0_0 a0_1 a0_2 a0_3 a0_4 a0_5 _) (by rfl) (by rfl) (by rfl) (by rfl) (by rfl) h2
  have h0 := valid_round a0_0 a0_1 a0_2 a0_3 a0_4 a0_5 ⟨#[111, 100, 115]⟩ a0_1 a0_2 a0_3 a0_4 a0_5 0 a0_2 a0_3 a0_4 a0_5 0 111 1 10 _ (k + 4) (by decide) (by decide) (by decide) (by rfl) (ranges_o a0_0 a0_1 a0_2 a0_3 a0_4 a0_5 _) (by rfl) (by rfl) (by rfl) (by rfl) (by rfl) h1
  exact h0
theorem valid_odi (a0_0 a0_1 a0_2 a0_3 a0_4 a0_5 : Int) (k : Nat) : impl_Step_valid.l0 (k + 5) a0_0 a0_1 a0_2 a0_3 a0_4 a0_5 ⟨#[111, 100, 105]⟩ a0_1 a0_2 a0_3 a0_4 a0_5 0 = some (inB a0_1 1 10 && (inB a0_2 0 5 && (inB a0_4 (immR a0_0).1 (immR a0_0).2 && (inB a0_0 1 11 && decide ((0 : Int) = 0 ∧ (0 : Int) = 0 ∧ a0_3 = 0 ∧ (0 : Int) = 0 ∧ a0_5 = 0))))) := by
  have h3 := valid_end a0_0 a0_1 a0_2 a0_3 a0_4 a0_5 ⟨#[111, 100, 105]⟩ 0 0 a0_3 0 a0_5 3 (k + 1) (by decide)
  have h2 := valid_round a0_0 a0_1 a0_2 a0_3 a0_4 a0_5 ⟨#[111, 100, 105]⟩ 0 0 a0_3 a0_4 a0_5 0 0 a0_3 0 a0_5 2 105 (immR a0_0).1 (immR a0_0).2 _ (k + 2) (by decide) (by decide) (by decide) (by rfl) (ranges_i a0_0 a0_1 a0_2 a0_3 a0_4 a0_5 _) (by rfl) (by rfl) (by rfl) (by rfl) (by rfl) h3
  have h1 := valid_round a0_0 a0_1 a0_2 a0_3 a0_4 a0_5 ⟨#[111, 100, 105]⟩ 0 a0_2 a0_3 a0_4 a0_5 0 0 a0_3 a0_4 a0_5 1 100 0 5 _ (k + 3) (by decide) (by decide) (by decide) (by rfl) (ranges_d a0_0 a0_1 a0_2 a0_3 a0_4 a0_5 _) (by rfl) (by rfl) (by rfl) (by rfl) (by rfl) h2
  have h0 := valid_round a0_0 a0_1 a0_2 a0_3 a0_4 a0_5 ⟨#[111, 100, 105]⟩ a0_1 a0_2 a0_3 a0_4 a0_5 0 a0_2 a0_3 a0_4 a0_5 0 111 1 10 _ (k + 4) (by decide) (by decide) (by decide) (by rfl) (ranges_o a0_0 a0_1 a0_2 a0_3 a0_4 a0_5 _) (by rfl) (by rfl) (by rfl) (by rfl) (by rfl) h1
  exact h0
theorem valid_di (a0_0 a0_1 a0_2 a0_3 a0_4 a0_5 : Int) (k : Nat) : impl_Step_valid.l0 (k + 5) a0_0 a0_1 a0_2 a0_3 a0_4 a0_5 ⟨#[100, 105]⟩ a0_1 a0_2 a0_3 a0_4 a0_5 0 = some (inB a0_2 0 5 && (inB a0_4 (immR a0_0).1 (immR a0_0).2 && (inB a0_0 1 11 && decide (a0_1 = 0 ∧ (0 : Int) = 0 ∧ a0_3 = 0 ∧ (0 : Int) = 0 ∧ a0_5 = 0)))) := by
  have h2 := valid_end a0_0 a0_1 a0_2 a0_3 a0_4 a0_5 ⟨#[100, 105]⟩ a0_1 0 a0_3 0 a0_5 2 (k + 2) (by decide)
  have h1 := valid_round a0_0 a0_1 a0_2 a0_3 a0_4 a0_5 ⟨#[100, 105]⟩ a0_1 0 a0_3 a0_4 a0_5 a0_1 0 a0_3 0 a0_5 1 105 (immR a0_0).1 (immR a0_0).2 _ (k + 3) (by decide) (by decide) (by decide) (by rfl) (ranges_i a0_0 a0_1 a0_2 a0_3 a0_4 a0_5 _) (by rfl) (by rfl) (by rfl) (by rfl) (by rfl) h2
  have h0 := valid_round a0_0 a0_1 a0_2 a0_3 a0_4 a0_5 ⟨#[100, 105]⟩ a0_1 a0_2 a0_3 a0_4 a0_5 a0_1 0 a0_3 a0_4 a0_5 0 100 0 5 _ (k + 4) (by decide) (by decide) (by decide) (by rfl) (ranges_d a0_0 a0_1 a0_2 a0_3 a0_4 a0_5 _) (by rfl) (by rfl) (by rfl) (by rfl) (by rfl) h1
  exact h0
theorem valid_dsi (a0_0 a0_1 a0_2 a0_3 a0_4 a0_5 : Int) (k : Nat) : impl_Step_valid.l0 (k + 5) a0_0 a0_1 a0_2 a0_3 a0_4 a0_5 ⟨#[100, 115, 105]⟩ a0_1 a0_2 a0_3 a0_4 a0_5 0 = some (inB a0_2 0 5 && (inB a0_3 0 5 && (inB a0_4 (immR a0_0).1 (immR a0_0).2 && (inB a0_0 1 11 && decide (a0_1 = 0 ∧ (0 : Int) = 0 ∧ (0 : Int) = 0 ∧ (0 : Int) = 0 ∧ a0_5 = 0))))) := by
  have h3 := valid_end a0_0 a0_1 a0_2 a0_3 a0_4 a0_5 ⟨#[100, 115, 105]⟩ a0_1 0 0 0 a0_5 3 (k + 1) (by decide)
  have h2 := valid_round a0_0 a0_1 a0_2 a0_3 a0_4 a0_5 ⟨#[100, 115, 105]⟩ a0_1 0 0 a0_4 a0_5 a0_1 0 0 0 a0_5 2 105 (immR a0_0).1 (immR a0_0).2 _ (k + 2) (by decide) (by decide) (by decide) (by rfl) (ranges_i a0_0 a0_1 a0_2 a0_3 a0_4 a0_5 _) (by rfl) (by rfl) (by rfl) (by rfl) (by rfl) h3
  have h1 := valid_round a0_0 a0_1 a0_2 a0_3 a0_4 a0_5 ⟨#[100, 115, 105]⟩ a0_1 0 a0_3 a0_4 a0_5 a0_1 0 0 a0_4 a0_5 1 115 0 5 _ (k + 3) (by decide) (by decide) (by decide) (by rfl) (ranges_s a0_0 a0_1 a0_2 a0_3 a0_4 a0_5 _) (by rfl) (by rfl) (by rfl) (by rfl) (by rfl) h2
  have h0 := valid_round a0_0 a0_1 a0_2 a0_3 a0_4 a0_5 ⟨#[100, 115, 105]⟩ a0_1 a0_2 a0_3 a0_4 a0_5 a0_1 0 a0_3 a0_4 a0_5 0 100 0 5 _ (k + 4) (by decide) (by decide) (by decide) (by rfl) (ranges_d a0_0 a0_1 a0_2 a0_3 a0_4 a0_5 _) (by rfl) (by rfl) (by rfl) (by rfl) (by rfl) h1
  exact h0
theorem valid_t (a0_0 a0_1 a0_2 a0_3 a0_4 a0_5 : Int) (k : Nat) : impl_Step_valid.l0 (k + 5) a0_0 a0_1 a0_2 a0_3 a0_4 a0_5 ⟨#[116]⟩ a0_1 a0_2 a0_3 a0_4 a0_5 0 = some (inB a0_5 1 19 && (inB a0_0 1 11 && decide (a0_1 = 0 ∧ a0_2 = 0 ∧ a0_3 = 0 ∧ a0_4 = 0 ∧ (0 : Int) = 0))) := by
  have h1 := valid_end a0_0 a0_1 a0_2 a0_3 a0_4 a0_5 ⟨#[116]⟩ a0_1 a0_2 a0_3 a0_4 0 1 (k + 3) (by decide)
  have h0 := valid_round a0_0 a0_1 a0_2 a0_3 a0_4 a0_5 ⟨#[116]⟩ a0_1 a0_2 a0_3 a0_4 a0_5 a0_1 a0_2 a0_3 a0_4 0 0 116 1 19 _ (k + 4) (by decide) (by decide) (by decide) (by rfl) (ranges_t a0_0 a0_1 a0_2 a0_3 a0_4 a0_5 _) (by rfl) (by rfl) (by rfl) (by rfl) (by rfl) h1
  exact h0
theorem valid_dst (a0_0 a0_1 a0_2 a0_3 a0_4 a0_5 : Int) (k : Nat) : impl_Step_valid.l0 (k + 5) a0_0 a0_1 a0_2 a0_3 a0_4 a0_5 ⟨#[100, 115, 116]⟩ a0_1 a0_2 a0_3 a0_4 a0_5 0 = some (inB a0_2 0 5 && (inB a0_3 0 5 && (inB a0_5 1 19 && (inB a0_0 1 11 && decide (a0_1 = 0 ∧ (0 : Int) = 0 ∧ (0 : Int) = 0 ∧ a0_4 = 0 ∧ (0 : Int) = 0))))) := by
  have h3 := valid_end a0_0 a0_1 a0_2 a0_3 a0_4 a0_5 ⟨#[100, 115, 116]⟩ a0_1 0 0 a0_4 0 3 (k + 1) (by decide)
  have h2 := valid_round a0_0 a0_1 a0_2 a0_3 a0_4 a0_5 ⟨#[100, 115, 116]⟩ a0_1 0 0 a0_4 a0_5 a0_1 0 0 a0_4 0 2 116 1 19 _ (k + 2) (by decide) (by decide) (by decide) (by rfl) (ranges_t a0_0 a0_1 a0_2 a0_3 a0_4 a0_5 _) (by rfl) (by rfl) (by rfl) (by rfl) (by rfl) h3
  have h1 := valid_round a0_0 a0_1 a0_2 a0_3 a0_4 a0_5 ⟨#[100, 115, 116]⟩ a0_1 0 a0_3 a0_4 a0_5 a0_1 0 0 a0_4 a0_5 1 115 0 5 _ (k + 3) (by decide) (by decide) (by decide) (by rfl) (ranges_s a0_0 a0_1 a0_2 a0_3 a0_4 a0_5 _) (by rfl) (by rfl) (by rfl) (by rfl) (by rfl) h2
  have h0 := valid_round a0_0 a0_1 a0_2 a0_3 a0_4 a0_5 ⟨#[100, 115, 116]⟩ a0_1 a0_2 a0_3 a0_4 a0_5 a0_1 0 a0_3 a0_4 a0_5 0 100 0 5 _ (k + 4) (by decide) (by decide) (by decide) (by rfl) (ranges_d a0_0 a0_1 a0_2 a0_3 a0_4 a0_5 _) (by rfl) (by rfl) (by rfl) (by rfl) (by rfl) h1
  exact h0
theorem valid_none (a0_0 a0_1 a0_2 a0_3 a0_4 a0_5 : Int) (k : Nat) : impl_Step_valid.l0 (k + 5) a0_0 a0_1 a0_2 a0_3 a0_4 a0_5 ⟨#[]⟩ a0_1 a0_2 a0_3 a0_4 a0_5 0 = some (inB a0_0 1 11 && decide (a0_1 = 0 ∧ a0_2 = 0 ∧ a0_3 = 0 ∧ a0_4 = 0 ∧ a0_5 = 0)) := by
  have h0 := valid_end a0_0 a0_1 a0_2 a0_3 a0_4 a0_5 ⟨#[]⟩ a0_1 a0_2 a0_3 a0_4 a0_5 0 (k + 4) (by decide)
  exact h0
theorem implStep_val (a0_0 a0_1 a0_2 a0_3 a0_4 a0_5 : Int) (k : Nat) (hk : 10 ≤ k) : impl_Step_valid.f k a0_0 a0_1 a0_2 a0_3 a0_4 a0_5 = some (stepB a0_0 a0_1 a0_2 a0_3 a0_4 a0_5) := by
  obtain ⟨k, rfl⟩ : ∃ m, k = m + 5 := ⟨k - 5, by omega⟩
  unfold impl_Step_valid.f impl_fields.f stepB
  by_cases c1 : a0_0 = 1
  · subst c1
    rw [show (if (1 : Int) = 1 then (some (⟨#[111, 100, 115]⟩ : ByteArray)) else (if (1 : Int) = 2 then (some (⟨#[111, 100, 105]⟩ : ByteArray)) else (if (1 : Int) = 3 then (impl_fields.j0 (k + 5) 1 ((1 : Int) == 3)) else (if (1 : Int) = 4 then (impl_fields.j0 (k + 5) 1 ((1 : Int) == 4)) else (if (1 : Int) = 6 then (impl_fields.j0 (k + 5) 1 ((1 : Int) == 6)) else (impl_fields.j0 (k + 5) 1 ((1 : Int) == 7))))))) = some ⟨#[111, 100, 115]⟩ by first | (simp [impl_fields.j0]; done) | simp [impl_fields.j0, impl_fields.j1]]
    simp only [Option.bind_some]
    rw [valid_ods]
    congr 1
    rw [Bool.eq_iff_iff]
    simp [inB, zB, immR]
    first | done | omega
  by_cases c2 : a0_0 = 2
  · subst c2
    rw [show (if (2 : Int) = 1 then (some (⟨#[111, 100, 115]⟩ : ByteArray)) else (if (2 : Int) = 2 then (some (⟨#[111, 100, 105]⟩ : ByteArray)) else (if (2 : Int) = 3 then (impl_fields.j0 (k + 5) 2 ((2 : Int) == 3)) else (if (2 : Int) = 4 then (impl_fields.j0 (k + 5) 2 ((2 : Int) == 4)) else (if (2 : Int) = 6 then (impl_fields.j0 (k + 5) 2 ((2 : Int) == 6)) else (impl_fields.j0 (k + 5) 2 ((2 : Int) == 7))))))) = some ⟨#[111, 100, 105]⟩ by first | (simp [impl_fields.j0]; done) | simp [impl_fields.j0, impl_fields.j1]]
    simp only [Option.bind_some]
    rw [valid_odi]
    congr 1
    rw [Bool.eq_iff_iff]
    simp [inB, zB, immR]
    first | done | omega
  by_cases c3 : a0_0 = 3
  · subst c3
    rw [show (if (3 : Int) = 1 then (some (⟨#[111, 100, 115]⟩ : ByteArray)) else (if (3 : Int) = 2 then (some (⟨#[111, 100, 105]⟩ : ByteArray)) else (if (3 : Int) = 3 then (impl_fields.j0 (k + 5) 3 ((3 : Int) == 3)) else (if (3 : Int) = 4 then (impl_fields.j0 (k + 5) 3 ((3 : Int) == 4)) else (if (3 : Int) = 6 then (impl_fields.j0 (k + 5) 3 ((3 : Int) == 6)) else (impl_fields.j0 (k + 5) 3 ((3 : Int) == 7))))))) = some ⟨#[100, 105]⟩ by first | (simp [impl_fields.j0]; done) | simp [impl_fields.j0, impl_fields.j1]]
    simp only [Option.bind_some]
    rw [valid_di]
    congr 1
    rw [Bool.eq_iff_iff]
    simp [inB, zB, immR]
    first | done | omega
  by_cases c4 : a0_0 = 4
  · subst c4
    rw [show (if (4 : Int) = 1 then (some (⟨#[111, 100, 115]⟩ : ByteArray)) else (if (4 : Int) = 2 then (some (⟨#[111, 100, 105]⟩ : ByteArray)) else (if (4 : Int) = 3 then (impl_fields.j0 (k + 5) 4 ((4 : Int) == 3)) else (if (4 : Int) = 4 then (impl_fields.j0 (k + 5) 4 ((4 : Int) == 4)) else (if (4 : Int) = 6 then (impl_fields.j0 (k + 5) 4 ((4 : Int) == 6)) else (impl_fields.j0 (k + 5) 4 ((4 : Int) == 7))))))) = some ⟨#[100, 105]⟩ by first | (simp [impl_fields.j0]; done) | simp [impl_fields.j0, impl_fields.j1]]
    simp only [Option.bind_some]
    rw [valid_di]
    congr 1
    rw [Bool.eq_iff_iff]
    simp [inB, zB, immR]
    first | done | omega
  by_cases c5 : a0_0 = 5
  · subst c5
    rw [show (if (5 : Int) = 1 then (some (⟨#[111, 100, 115]⟩ : ByteArray)) else (if (5 : Int) = 2 then (some (⟨#[111, 100, 105]⟩ : ByteArray)) else (if (5 : Int) = 3 then (impl_fields.j0 (k + 5) 5 ((5 : Int) == 3)) else (if (5 : Int) = 4 then (impl_fields.j0 (k + 5) 5 ((5 : Int) == 4)) else (if (5 : Int) = 6 then (impl_fields.j0 (k + 5) 5 ((5 : Int) == 6)) else (impl_fields.j0 (k + 5) 5 ((5 : Int) == 7))))))) = some ⟨#[100, 115, 105]⟩ by first | (simp [impl_fields.j0]; done) | simp [impl_fields.j0, impl_fields.j1]]
    simp only [Option.bind_some]
    rw [valid_dsi]
    congr 1
    rw [Bool.eq_iff_iff]
    simp [inB, zB, immR]
    first | done | omega
  by_cases c6 : a0_0 = 6
  · subst c6
    rw [show (if (6 : Int) = 1 then (some (⟨#[111, 100, 115]⟩ : ByteArray)) else (if (6 : Int) = 2 then (some (⟨#[111, 100, 105]⟩ : ByteArray)) else (if (6 : Int) = 3 then (impl_fields.j0 (k + 5) 6 ((6 : Int) == 3)) else (if (6 : Int) = 4 then (impl_fields.j0 (k + 5) 6 ((6 : Int) == 4)) else (if (6 : Int) = 6 then (impl_fields.j0 (k + 5) 6 ((6 : Int) == 6)) else (impl_fields.j0 (k + 5) 6 ((6 : Int) == 7))))))) = some ⟨#[100, 105]⟩ by first | (simp [impl_fields.j0]; done) | simp [impl_fields.j0, impl_fields.j1]]
    simp only [Option.bind_some]
    rw [valid_di]
    congr 1
    rw [Bool.eq_iff_iff]
    simp [inB, zB, immR]
    first | done | omega
  by_cases c7 : a0_0 = 7
  · subst c7
    rw [show (if (7 : Int) = 1 then (some (⟨#[111, 100, 115]⟩ : ByteArray)) else (if (7 : Int) = 2 then (some (⟨#[111, 100, 105]⟩ : ByteArray)) else (if (7 : Int) = 3 then (impl_fields.j0 (k + 5) 7 ((7 : Int) == 3)) else (if (7 : Int) = 4 then (impl_fields.j0 (k + 5) 7 ((7 : Int) == 4)) else (if (7 : Int) = 6 then (impl_fields.j0 (k + 5) 7 ((7 : Int) == 6)) else (impl_fields.j0 (k + 5) 7 ((7 : Int) == 7))))))) = some ⟨#[100, 105]⟩ by first | (simp [impl_fields.j0]; done) | simp [impl_fields.j0, impl_fields.j1]]
    simp only [Option.bind_some]
    rw [valid_di]
    congr 1
    rw [Bool.eq_iff_iff]
    simp [inB, zB, immR]
    first | done | omega
  by_cases c8 : a0_0 = 8
  · subst c8
    rw [show (if (8 : Int) = 1 then (some (⟨#[111, 100, 115]⟩ : ByteArray)) else (if (8 : Int) = 2 then (some (⟨#[111, 100, 105]⟩ : ByteArray)) else (if (8 : Int) = 3 then (impl_fields.j0 (k + 5) 8 ((8 : Int) == 3)) else (if (8 : Int) = 4 then (impl_fields.j0 (k + 5) 8 ((8 : Int) == 4)) else (if (8 : Int) = 6 then (impl_fields.j0 (k + 5) 8 ((8 : Int) == 6)) else (impl_fields.j0 (k + 5) 8 ((8 : Int) == 7))))))) = some ⟨#[116]⟩ by first | (simp [impl_fields.j0]; done) | simp [impl_fields.j0, impl_fields.j1]]
    simp only [Option.bind_some]
    rw [valid_t]
    congr 1
    rw [Bool.eq_iff_iff]
    simp [inB, zB, immR]
    first | done | omega
  by_cases c9 : a0_0 = 9
  · subst c9
    rw [show (if (9 : Int) = 1 then (some (⟨#[111, 100, 115]⟩ : ByteArray)) else (if (9 : Int) = 2 then (some (⟨#[111, 100, 105]⟩ : ByteArray)) else (if (9 : Int) = 3 then (impl_fields.j0 (k + 5) 9 ((9 : Int) == 3)) else (if (9 : Int) = 4 then (impl_fields.j0 (k + 5) 9 ((9 : Int) == 4)) else (if (9 : Int) = 6 then (impl_fields.j0 (k + 5) 9 ((9 : Int) == 6)) else (impl_fields.j0 (k + 5) 9 ((9 : Int) == 7))))))) = some ⟨#[100, 115, 116]⟩ by first | (simp [impl_fields.j0]; done) | simp [impl_fields.j0, impl_fields.j1]]
    simp only [Option.bind_some]
    rw [valid_dst]
    congr 1
    rw [Bool.eq_iff_iff]
    simp [inB, zB, immR]
    first | done | omega
  by_cases c10 : a0_0 = 10
  · subst c10
    rw [show (if (10 : Int) = 1 then (some (⟨#[111, 100, 115]⟩ : ByteArray)) else (if (10 : Int) = 2 then (some (⟨#[111, 100, 105]⟩ : ByteArray)) else (if (10 : Int) = 3 then (impl_fields.j0 (k + 5) 10 ((10 : Int) == 3)) else (if (10 : Int) = 4 then (impl_fields.j0 (k + 5) 10 ((10 : Int) == 4)) else (if (10 : Int) = 6 then (impl_fields.j0 (k + 5) 10 ((10 : Int) == 6)) else (impl_fields.j0 (k + 5) 10 ((10 : Int) == 7))))))) = some ⟨#[100, 115, 116]⟩ by first | (simp [impl_fields.j0]; done) | simp [impl_fields.j0, impl_fields.j1]]
    simp only [Option.bind_some]
    rw [valid_dst]
    congr 1
    rw [Bool.eq_iff_iff]
    simp [inB, zB, immR]
    first | done | omega
  by_cases c11 : a0_0 = 11
  · subst c11
    rw [show (if (11 : Int) = 1 then (some (⟨#[111, 100, 115]⟩ : ByteArray)) else (if (11 : Int) = 2 then (some (⟨#[111, 100, 105]⟩ : ByteArray)) else (if (11 : Int) = 3 then (impl_fields.j0 (k + 5) 11 ((11 : Int) == 3)) else (if (11 : Int) = 4 then (impl_fields.j0 (k + 5) 11 ((11 : Int) == 4)) else (if (11 : Int) = 6 then (impl_fields.j0 (k + 5) 11 ((11 : Int) == 6)) else (impl_fields.j0 (k + 5) 11 ((11 : Int) == 7))))))) = some ⟨#[]⟩ by first | (simp [impl_fields.j0]; done) | simp [impl_fields.j0, impl_fields.j1]]
    simp only [Option.bind_some]
    rw [valid_none]
    congr 1
    rw [Bool.eq_iff_iff]
    simp [inB, zB, immR]
    first | done | omega
  simp only [c1, c2, c3, c4, c5, c6, c7, c8, c9, c10, c11, if_false]
  rw [show impl_fields.j0 (k + 5) a0_0 (a0_0 == 7) = some ⟨#[]⟩ by first | (simp [impl_fields.j0, c1, c2, c3, c4, c5, c6, c7, c8, c9, c10, c11]; done) | simp [impl_fields.j0, impl_fields.j1, c1, c2, c3, c4, c5, c6, c7, c8, c9, c10, c11]]
  simp only [Option.bind_some]
  rw [valid_none]
  congr 1
  rw [Bool.eq_iff_iff]
  simp [inB]
  first | done | omega

theorem step_bd (a0 a1 a2 a3 a4 a5 : Int) (h : stepB a0 a1 a2 a3 a4 a5 = true) : (1 ≤ a0 ∧ a0 ≤ 11) ∧ (0 ≤ a1 ∧ a1 ≤ 10) ∧ (0 ≤ a2 ∧ a2 ≤ 5) ∧ (0 ≤ a3 ∧ a3 ≤ 5) ∧ (0 ≤ a4 ∧ a4 ≤ 65535) ∧ (0 ≤ a5 ∧ a5 ≤ 19) ∧ (a0 ≠ 4 → a4 ≤ 255) := by
  unfold stepB at h
  by_cases c1 : a0 = 1
  · subst c1
    simp [inB, zB] at h
    omega
  by_cases c2 : a0 = 2
  · subst c2
    simp [inB, zB] at h
    omega
  by_cases c3 : a0 = 3
  · subst c3
    simp [inB, zB] at h
    omega
  by_cases c4 : a0 = 4
  · subst c4
    simp [inB, zB] at h
    omega
  by_cases c5 : a0 = 5
  · subst c5
    simp [inB, zB] at h
    omega
  by_cases c6 : a0 = 6
  · subst c6
    simp [inB, zB] at h
    omega
  by_cases c7 : a0 = 7
  · subst c7
    simp [inB, zB] at h
    omega
  by_cases c8 : a0 = 8
  · subst c8
    simp [inB, zB] at h
    omega
  by_cases c9 : a0 = 9
  · subst c9
    simp [inB, zB] at h
    omega
  by_cases c10 : a0 = 10
  · subst c10
    simp [inB, zB] at h
    omega
  by_cases c11 : a0 = 11
  · subst c11
    simp [inB, zB] at h
    omega
  simp [c1, c2, c3, c4, c5, c6, c7, c8, c9, c10, c11] at h

theorem step_to (a0 a1 a2 a3 a4 a5 : Int) (h : stepB a0 a1 a2 a3 a4 a5 = true) : (0 ≤ a5 ∧ a5 ≤ 19) ∧ (0 < a5 ↔ a0 = 8 ∨ a0 = 9 ∨ a0 = 10) := by
  unfold stepB at h
  by_cases c1 : a0 = 1
  · subst c1
    simp [inB, zB] at h
    omega
  by_cases c2 : a0 = 2
  · subst c2
    simp [inB, zB] at h
    omega
  by_cases c3 : a0 = 3
  · subst c3
    simp [inB, zB] at h
    omega
  by_cases c4 : a0 = 4
  · subst c4
    simp [inB, zB] at h
    omega
  by_cases c5 : a0 = 5
  · subst c5
    simp [inB, zB] at h
    omega
  by_cases c6 : a0 = 6
  · subst c6
    simp [inB, zB] at h
    omega
  by_cases c7 : a0 = 7
  · subst c7
    simp [inB, zB] at h
    omega
  by_cases c8 : a0 = 8
  · subst c8
    simp [inB, zB] at h
    omega
  by_cases c9 : a0 = 9
  · subst c9
    simp [inB, zB] at h
    omega
  by_cases c10 : a0 = 10
  · subst c10
    simp [inB, zB] at h
    omega
  by_cases c11 : a0 = 11
  · subst c11
    simp [inB, zB] at h
    omega
  simp [c1, c2, c3, c4, c5, c6, c7, c8, c9, c10, c11] at h
def stepS (x : S26) : Bool := stepB x.f0 x.f1 x.f2 x.f3 x.f4 x.f5
def okFrom (n : Nat) : Nat → List S26 → Bool
  | _, [] => true
  | i, x :: r => stepS x && ((!(decide (0 < x.f5) && decide ((n : Int) ≤ (i : Int) + x.f5 + 1))) && okFrom n (i + 1) r)
def lastB (l : List S26) : Bool := (rd_T26 l ((l.length : Int) - 1)).f0 == 11
def goodP (l : List S26) : Bool := inB (l.length : Int) 1 20 && (lastB l && okFrom l.length 0 l)
theorem specGoodP_l (l : List S26) (hl : l.length ≤ 1048576) : ∀ (d i k : Nat), i + d = l.length → 2 * d + 10 < k → spec_GoodProgram.l0 k l l (l.length : Int) (i : Int) = some (okFrom l.length i (l.drop i) && (inB (l.length : Int) 1 20 && lastB l))
  | 0, i, k, h1, hk => by
    obtain ⟨k, rfl⟩ : ∃ m, k = m + 1 := ⟨k - 1, by omega⟩
    simp only [spec_GoodProgram.l0]
    rw [if_neg (by omega), specIn_val, List.drop_of_length_le (by omega), okFrom]
    simp only [Option.bind_some, Bool.true_and]
    cases hin : inB (l.length : Int) 1 20 with
    | false => simp
    | true =>
      simp [inB] at hin
      rw [if_pos rfl, w64 (by omega) (by omega), if_pos (by omega), if_pos (by omega)]
      simp [lastB]
  | d + 1, i, k, h1, hk => by
    obtain ⟨k, rfl⟩ : ∃ m, k = m + 2 := ⟨k - 2, by omega⟩
    simp only [spec_GoodProgram.l0, spec_GoodProgram.j1]
    rw [if_pos (by omega), if_pos (by omega), if_pos (by omega), rd26_nat l i (by omega), specStep_val _ _ _ _ _ _ (k + 1) (by omega), dropS_at l i (by omega), okFrom, show stepB l[i].f0 l[i].f1 l[i].f2 l[i].f3 l[i].f4 l[i].f5 = stepS l[i] from rfl]
    simp only [Option.bind_some]
    cases hs : stepS l[i] with
    | false => simp
    | true =>
      obtain ⟨hr, _⟩ := step_to _ _ _ _ _ _ hs
      rw [if_pos rfl, w64 (x := (i : Int) + l[i].f5) (by omega) (by omega), w64 (x := (i : Int) + l[i].f5 + 1) (by omega) (by omega), next64 (by omega), specGoodP_l l hl d (i + 1) k (by omega) (by omega)]
      by_cases c5 : 0 < l[i].f5
      · rw [if_pos (show l[i].f5 > 0 from c5), decide_eq_true c5]
        by_cases c6 : (l.length : Int) ≤ (i : Int) + l[i].f5 + 1
        · rw [decide_eq_true c6]
          simp
        · rw [decide_eq_false c6]
          simp
      · rw [if_neg (show ¬ l[i].f5 > 0 from c5), decide_eq_false c5]
        simp
theorem specGoodP_val (l : List S26) (hl : l.length ≤ 1048576) (k : Nat) (hk : 2 * l.length + 10 < k) : spec_GoodProgram.f k l = some (goodP l) := by
  unfold spec_GoodProgram.f goodP
  have := specGoodP_l l hl l.length 0 k (by omega) (by omega)
  rw [show ((0 : Nat) : Int) = 0 from rfl] at this
  rw [this, List.drop_zero]
  cases okFrom l.length 0 l <;> cases inB (l.length : Int) 1 20 <;> cases lastB l <;> rfl
theorem implGoodP_l (l : List S26) (hl : l.length ≤ 1048576) : ∀ (d i k : Nat), i + d = l.length → 2 * d + 20 < k → impl_GoodProgram.l0 k l l (l.length : Int) (i : Int) = some (okFrom l.length i (l.drop i))
  | 0, i, k, h1, hk => by
    obtain ⟨k, rfl⟩ : ∃ m, k = m + 1 := ⟨k - 1, by omega⟩
    simp only [impl_GoodProgram.l0]
    rw [if_neg (by omega), List.drop_of_length_le (by omega), okFrom]
  | d + 1, i, k, h1, hk => by
    obtain ⟨k, rfl⟩ : ∃ m, k = m + 2 := ⟨k - 2, by omega⟩
    simp only [impl_GoodProgram.l0, impl_GoodProgram.j2]
    rw [if_pos (by omega), if_pos (by omega), if_pos (by omega), rd26_nat l i (by omega), implStep_val _ _ _ _ _ _ (k + 1) (by omega), dropS_at l i (by omega), okFrom, show stepB l[i].f0 l[i].f1 l[i].f2 l[i].f3 l[i].f4 l[i].f5 = stepS l[i] from rfl]
    simp only [Option.bind_some]
    cases hs : stepS l[i] with
    | false => simp
    | true =>
      obtain ⟨hr, hj⟩ := step_to _ _ _ _ _ _ hs
      have hjm : impl_Step_jumps.f l[i].f0 l[i].f1 l[i].f2 l[i].f3 l[i].f4 l[i].f5 = some (decide (0 < l[i].f5)) := by
        unfold impl_Step_jumps.f
        by_cases c8 : l[i].f0 = 8
        · rw [if_pos c8, decide_eq_true (hj.2 (Or.inl c8))]
        · rw [if_neg c8]
          by_cases c9 : l[i].f0 = 9
          · rw [if_pos c9, decide_eq_true (hj.2 (Or.inr (Or.inl c9)))]
          · rw [if_neg c9]
            by_cases c10 : l[i].f0 = 10
            · rw [decide_eq_true (hj.2 (Or.inr (Or.inr c10)))]
              simp [c10]
            · rw [decide_eq_false (fun h => by rcases hj.1 h with h | h | h <;> contradiction)]
              simp [c10]
      rw [if_pos rfl, hjm, w64 (x := (i : Int) + l[i].f5) (by omega) (by omega), w64 (x := (i : Int) + l[i].f5 + 1) (by omega) (by omega), next64 (by omega), implGoodP_l l hl d (i + 1) k (by omega) (by omega)]
      simp only [Option.bind_some]
      by_cases c5 : 0 < l[i].f5
      · rw [decide_eq_true c5, if_pos rfl]
        by_cases c6 : (l.length : Int) ≤ (i : Int) + l[i].f5 + 1
        · rw [decide_eq_true c6]
          simp
        · rw [decide_eq_false c6]
          simp
      · rw [decide_eq_false c5]
        simp
theorem implGoodP_val (l : List S26) (hl : l.length ≤ 1048576) (k : Nat) (hk : 2 * l.length + 30 < k) : impl_GoodProgram.f k l = some (goodP l) := by
  obtain ⟨k, rfl⟩ : ∃ m, k = m + 1 := ⟨k - 1, by omega⟩
  unfold impl_GoodProgram.f goodP
  rw [implIn_val]
  simp only [Option.bind_some]
  cases hin : inB (l.length : Int) 1 20 with
  | false => simp [impl_GoodProgram.j0]
  | true =>
    simp [inB] at hin
    rw [if_pos rfl, w64 (by omega) (by omega), if_pos (by omega), if_pos (by omega), show ((rd_T26 l ((l.length : Int) - 1)).f0 != 11) = !(lastB l) from rfl]
    cases lastB l with
    | false => simp [impl_GoodProgram.j0]
    | true =>
      have := implGoodP_l l hl l.length 0 k (by omega) (by omega)
      rw [show ((0 : Nat) : Int) = 0 from rfl, List.drop_zero] at this
      simp [impl_GoodProgram.j0, this]

theorem lwrap_val (a : Int) : Int.tmod (wrap64 ((Int.tmod a 65536) + 65536)) 65536 = a % 65536 := by
  unfold wrap64
  have h1 := Int.tmod_eq_emod (a := a) (b := 65536)
  have h2 : ∀ x : Int, 0 ≤ x → Int.tmod x 65536 = x % 65536 := fun x hx => Int.tmod_eq_emod_of_nonneg hx
  split at h1 <;> (rw [h2 _ (by omega)]; omega)
theorem and65535 {a : Int} (h : -9223372036854775808 ≤ a ∧ a ≤ 9223372036854775807) : Go.bits .and .i64 a 65535 = a % 65536 := by
  have e : BitVec.ofInt 64 a &&& BitVec.ofInt 64 65535 = BitVec.ofInt 64 (a % 65536) := by
    apply BitVec.eq_of_toNat_eq
    rw [BitVec.toNat_and]
    have h1 : (BitVec.ofInt 64 (65535 : Int)).toNat = 2 ^ 16 - 1 := by decide
    rw [h1, Nat.and_two_pow_sub_one_eq_mod]
    simp only [BitVec.toNat_ofInt]
    omega
  show IntKind.i64.wrap ((BitVec.ofInt 64 a &&& BitVec.ofInt 64 65535).toNat : Int) = _
  rw [e, BitVec.toNat_ofInt, IntKind.wrap_i64]
  omega

theorem shl_wf (x y : Int) : (Lit.int .i64 (shl .i64 x y)).wf = true := by
  unfold shl
  rw [IntKind.wrap_i64]
  have h := wrap64_wf (x * 2 ^ min y.toNat IntKind.i64.bits)
  unfold wrap64 at h
  exact h
theorem mod16 (b : Int) (h : 0 ≤ b) : IntKind.u64.wrap (Int.tmod b 16) = Int.tmod b 16 := by
  rw [Int.tmod_eq_emod_of_nonneg h]
  simp [IntKind.wrap, IntKind.bits, IntKind.signed]
  omega
theorem mod16_nonneg (b : Int) (h : 0 ≤ b) : 0 ≤ Int.tmod b 16 := by
  rw [Int.tmod_eq_emod_of_nonneg h]; omega
theorem do_same (op a b : Int) (hb : 0 ≤ b) : impl_do.f op a b = spec_l1Do.f op a b := by
  have w := fun x => and65535 (l64 (wrap64_wf x))
  have w2 := fun x y => and65535 (l64 (shl_wf x y))
  simp only [impl_do.f, spec_l1Do.f, impl_WordOf.f, spec_l1Wrap.f, lwrap_val, w, w2, mod16 b hb]
theorem do_some (op a b : Int) (hb : 0 ≤ b) : ∃ y, spec_l1Do.f op a b = some y := by
  have h0 := mod16_nonneg b hb
  simp only [spec_l1Do.f, spec_l1Wrap.f, mod16 b hb, Option.bind_some, if_pos h0]
  repeat' split
  all_goals exact ⟨_, rfl⟩

theorem u16 (x : Nat) (h : x < 65536) : (BitVec.ofInt 64 (x : Int)).toNat = x := by
  rw [BitVec.toNat_ofInt]
  omega
theorem wrap_i (x : Nat) (h : x < 65536) : IntKind.i64.wrap (x : Int) = (x : Int) := by
  rw [IntKind.wrap_i64]
  omega
theorem bit_and (x y : Nat) (hx : x < 65536) (hy : y < 65536) : Go.bits .and .i64 (x : Int) (y : Int) = ((x &&& y : Nat) : Int) ∧ x &&& y < 65536 := by
  have h : x &&& y < 2 ^ 16 := Nat.and_lt_two_pow x (by omega)
  refine ⟨?_, by omega⟩
  show IntKind.i64.wrap (((BitVec.ofInt 64 (x : Int)) &&& (BitVec.ofInt 64 (y : Int))).toNat : Int) = _
  rw [BitVec.toNat_and, u16 x hx, u16 y hy, wrap_i _ (by omega)]
theorem bit_or (x y : Nat) (hx : x < 65536) (hy : y < 65536) : Go.bits .or .i64 (x : Int) (y : Int) = ((x ||| y : Nat) : Int) ∧ x ||| y < 65536 := by
  have h : x ||| y < 2 ^ 16 := Nat.or_lt_two_pow (by omega) (by omega)
  refine ⟨?_, by omega⟩
  show IntKind.i64.wrap (((BitVec.ofInt 64 (x : Int)) ||| (BitVec.ofInt 64 (y : Int))).toNat : Int) = _
  rw [BitVec.toNat_or, u16 x hx, u16 y hy, wrap_i _ (by omega)]
theorem bit_xor (x y : Nat) (hx : x < 65536) (hy : y < 65536) : Go.bits .xor .i64 (x : Int) (y : Int) = ((x ^^^ y : Nat) : Int) ∧ x ^^^ y < 65536 := by
  have h : x ^^^ y < 2 ^ 16 := Nat.xor_lt_two_pow (by omega) (by omega)
  refine ⟨?_, by omega⟩
  show IntKind.i64.wrap (((BitVec.ofInt 64 (x : Int)) ^^^ (BitVec.ofInt 64 (y : Int))).toNat : Int) = _
  rw [BitVec.toNat_xor, u16 x hx, u16 y hy, wrap_i _ (by omega)]

theorem specIn_dec (n a b : Int) : spec_l1In.f n a b = some (decide (a ≤ n) && decide (n ≤ b)) := specIn_val n a b
theorem all_l (l : List Int) (a b : Int) (hl : l.length ≤ 1048576) : ∀ (d i k : Nat), i + d = l.length → d < k → spec_l1All.l0 k a b l (l.length : Int) (i : Int) = some ((l.drop i).all fun n => decide (a ≤ n) && decide (n ≤ b))
  | 0, i, k, h1, hk => by
    obtain ⟨k, rfl⟩ : ∃ m, k = m + 1 := ⟨k - 1, by omega⟩
    simp only [spec_l1All.l0]
    rw [if_neg (by omega), List.drop_of_length_le (by omega)]
    rfl
  | d + 1, i, k, h1, hk => by
    obtain ⟨k, rfl⟩ : ∃ m, k = m + 1 := ⟨k - 1, by omega⟩
    have hil : i < l.length := by omega
    simp only [spec_l1All.l0]
    rw [if_pos (by omega), if_pos (by omega), if_pos (by omega), rd_nat l i hil, next64 (by omega), specIn_dec, List.drop_eq_getElem_cons hil, List.all_cons]
    simp only [Option.bind_some]
    cases (decide (a ≤ l[i]) && decide (l[i] ≤ b)) with
    | false => rfl
    | true =>
      first | rw [if_pos rfl] | rw [if_true]
      rw [all_l l a b hl d (i + 1) k (by omega) (by omega)]
      rfl
theorem all_val (l : List Int) (a b : Int) (hl : l.length ≤ 1048576) (k : Nat) (hk : 3000000 ≤ k) : spec_l1All.f k l a b = some (l.all fun n => decide (a ≤ n) && decide (n ≤ b)) := by
  unfold spec_l1All.f
  have := all_l l a b hl l.length 0 k (by omega) (by omega)
  simpa using this

theorem rd_mem {l : List Int} {i : Int} (h0 : 0 ≤ i) (h1 : i < (l.length : Int)) : rd l i ∈ l := by
  obtain ⟨n, rfl⟩ : ∃ n : Nat, i = n := ⟨i.toNat, by omega⟩
  rw [rd_nat l n (by omega)]
  exact List.getElem_mem _
theorem do_bd (op : Int) (x y : Int) (hx : 0 ≤ x ∧ x ≤ 65535) (hy : 0 ≤ y ∧ y ≤ 65535) (r : Int) (h : spec_l1Do.f op x y = some r) : 0 ≤ r ∧ r ≤ 65535 := by
  obtain ⟨x, rfl⟩ : ∃ n : Nat, x = n := ⟨x.toNat, by omega⟩
  obtain ⟨y, rfl⟩ : ∃ n : Nat, y = n := ⟨y.toNat, by omega⟩
  have b1 := bit_and x y (by omega) (by omega)
  have b2 := bit_or x y (by omega) (by omega)
  have b3 := bit_xor x y (by omega) (by omega)
  have h0 := mod16_nonneg (y : Int) (by omega)
  simp only [spec_l1Do.f, spec_l1Wrap.f, mod16 (y : Int) (by omega), Option.bind_some, if_pos h0, lwrap_val] at h
  have w : ∀ z : Int, 0 ≤ z % 65536 ∧ z % 65536 ≤ 65535 := fun z => by omega
  have dv : ∀ m : Nat, 0 ≤ (x : Int) / 2 ^ m ∧ (x : Int) / 2 ^ m ≤ 65535 := fun m => by
    refine ⟨Int.ediv_nonneg (by omega) (Int.le_of_lt (Int.pow_pos (by omega))), ?_⟩
    have := Int.ediv_le_self (2 ^ m : Int) (show (0 : Int) ≤ x by omega)
    omega
  by_cases c1 : op = 1
  · rw [if_pos c1] at h
    rw [← Option.some.inj h]
    exact w _
  rw [if_neg c1] at h
  by_cases c2 : op = 2
  · rw [if_pos c2] at h
    rw [← Option.some.inj h]
    exact w _
  rw [if_neg c2] at h
  by_cases c3 : op = 3
  · rw [if_pos c3] at h
    rw [← Option.some.inj h]
    exact w _
  rw [if_neg c3] at h
  by_cases c4 : op = 4
  · rw [if_pos c4] at h
    by_cases z : (y : Int) = 0
    · rw [if_pos z] at h
      rw [← Option.some.inj h]
      omega
    · rw [if_neg z] at h
      rw [← Option.some.inj h, Int.tdiv_eq_ediv_of_nonneg (by omega)]
      have e1 := Int.ediv_nonneg (show (0 : Int) ≤ x by omega) (show (0 : Int) ≤ y by omega)
      have e2 := Int.ediv_le_self (y : Int) (show (0 : Int) ≤ x by omega)
      rw [w64 (by omega) (by omega)]
      omega
  rw [if_neg c4] at h
  by_cases c5 : op = 5
  · rw [if_pos c5] at h
    by_cases z : (y : Int) = 0
    · rw [if_pos z] at h
      rw [← Option.some.inj h]
      omega
    · rw [if_neg z] at h
      rw [← Option.some.inj h, Int.tmod_eq_emod_of_nonneg (by omega)]
      have e1 := Int.emod_nonneg (x : Int) z
      have e2 := Int.emod_lt_of_pos (x : Int) (show (0 : Int) < y by omega)
      omega
  rw [if_neg c5] at h
  by_cases c6 : op = 6
  · rw [if_pos c6] at h
    rw [← Option.some.inj h, b1.1]
    omega
  rw [if_neg c6] at h
  by_cases c7 : op = 7
  · rw [if_pos c7] at h
    rw [← Option.some.inj h, b2.1]
    omega
  rw [if_neg c7] at h
  by_cases c8 : op = 8
  · rw [if_pos c8] at h
    rw [← Option.some.inj h, b3.1]
    omega
  rw [if_neg c8] at h
  by_cases c9 : op = 9
  · rw [if_pos c9] at h
    rw [← Option.some.inj h]
    exact w _
  rw [if_neg c9] at h
  rw [← Option.some.inj h]
  exact dv _
theorem okFrom_at (n : Nat) : ∀ (l : List S26) (i : Nat), okFrom n i l = true → ∀ (j : Nat) (h : j < l.length), stepS l[j] = true ∧ (0 < l[j].f5 → ((i + j : Nat) : Int) + l[j].f5 + 1 < (n : Int))
  | [], _, _, j, h => by simp at h
  | y :: r, i, h, 0, _ => by
    unfold okFrom at h
    simp only [Bool.and_eq_true, Bool.not_eq_true', Bool.and_eq_false_iff, decide_eq_false_iff_not] at h
    refine ⟨h.1, fun h5 => ?_⟩
    have := h.2.1
    simp only [List.getElem_cons_zero] at h5 ⊢
    omega
  | y :: r, i, h, j + 1, hj => by
    unfold okFrom at h
    simp only [Bool.and_eq_true] at h
    have := okFrom_at n r (i + 1) h.2.2 j (by simpa using hj)
    refine ⟨this.1, fun h5 => ?_⟩
    have := this.2 h5
    simp only [List.getElem_cons_succ] at h5 this ⊢
    omega
/-- What a machine holds between steps. -/
def okM (n : Nat) (a : Int) (R C : List Int) (B : List Bool) : Prop := (0 ≤ a ∧ a < (n : Int)) ∧ R.length = 6 ∧ C.length = 16 ∧ B.length = 16 ∧ (∀ x ∈ R, 0 ≤ x ∧ x ≤ 65535) ∧ (∀ x ∈ C, 0 ≤ x ∧ x ≤ 65535)
theorem set_bd {l : List Int} {i : Nat} {v : Int} (h : ∀ x ∈ l, 0 ≤ x ∧ x ≤ 65535) (hv : 0 ≤ v ∧ v ≤ 65535) : ∀ x ∈ l.set i v, 0 ≤ x ∧ x ≤ 65535 := fun x hx => by
  rcases List.mem_or_eq_of_mem_set hx with hx | rfl
  · exact h x hx
  · exact hv

theorem wr4 (i : Nat) (t : Int) (hi : i < 100) (t0 : 0 ≤ t) (t1 : t ≤ 19) : wrap64 ((i : Int) + 1) = (i : Int) + 1 ∧ wrap64 ((i : Int) + t) = (i : Int) + t ∧ wrap64 ((i : Int) + t + 1) = (i : Int) + t + 1 ∧ wrap64 ((i : Int) + 1 + t) = (i : Int) + t + 1 ∧ 0 ≤ (i : Int) + t + 1 := by
  refine ⟨w64 (by omega) (by omega), w64 (by omega) (by omega), w64 (by omega) (by omega), ?_, by omega⟩
  rw [w64 (by omega) (by omega)]
  omega
theorem add_w (x y : Int) (hx : 0 ≤ x ∧ x ≤ 65535) (hy : 0 ≤ y ∧ y ≤ 65535) : wrap64 (x + y) = x + y ∧ 0 ≤ x + y := ⟨w64 (by omega) (by omega), by omega⟩
theorem kinds11 (x : Int) (h0 : 1 ≤ x) (h1 : x ≤ 11) : x = 1 ∨ x = 2 ∨ x = 3 ∨ x = 4 ∨ x = 5 ∨ x = 6 ∨ x = 7 ∨ x = 8 ∨ x = 9 ∨ x = 10 ∨ x = 11 := by omega
theorem not_last (p : List S26) (i : Nat) (hi : i < p.length) (hlast : lastB p = true) (h11 : (rd_T26 p (i : Int)).f0 ≠ 11) : (i : Int) + 1 < (p.length : Int) := by
  by_cases hz : i + 1 < p.length
  · omega
  · exfalso
    unfold lastB at hlast
    rw [show ((p.length : Int) - 1) = (i : Int) by omega] at hlast
    exact h11 (by simpa using hlast)
theorem jump_in (p : List S26) (hall : okFrom p.length 0 p = true) (i : Nat) (hi : i < p.length) : stepS p[i] = true ∧ (0 < p[i].f5 → (i : Int) + p[i].f5 + 1 < (p.length : Int)) := by
  have := okFrom_at p.length p 0 hall i hi
  rw [Nat.zero_add] at this
  exact this
theorem goodP_parts {p : List S26} (hg : goodP p = true) : (1 ≤ p.length ∧ p.length ≤ 20) ∧ lastB p = true ∧ okFrom p.length 0 p = true := by
  unfold goodP inB at hg
  simp only [Bool.and_eq_true, decide_eq_true_eq] at hg
  exact ⟨by omega, hg.2.1, hg.2.2⟩
/-- What a step says of a machine: the program's and the reference's. -/
def Both_ (p : List S26) (ctx : List Int) (i : Int) (R C : List Int) (B : List Bool) (k : Nat) : Prop :=
    ∃ f e a' R' C' B', impl_Machine_step.f (k + 4) i R C B p ctx = some (f, e, a', R', C', B') ∧ spec_l3Do.f (k + 4) p ctx i R C B = some (a', R', C', B', f, e) ∧ (0 ≤ f ∧ R'.length = 6) ∧ (f = 0 → e = false → okM p.length a' R' C' B')
theorem step_k1 (p : List S26) (ctx : List Int) (hc : ctx.length = 8 ∧ ∀ x ∈ ctx, 0 ≤ x ∧ x ≤ 255) (i : Int) (R C : List Int) (B : List Bool) (k : Nat) (s : S26) (hrd : rd_T26 p i = s) (ha0 : 0 ≤ i) (ha1 : i < (p.length : Int)) (d0 : 0 ≤ s.f2) (d1 : s.f2 < (R.length : Int)) (s0 : 0 ≤ s.f3) (s1 : s.f3 < (R.length : Int)) (m0 : 0 ≤ s.f4) (m1 : s.f4 ≤ 65535) (e1 : wrap64 (i + 1) = i + 1) (e2 : wrap64 (i + s.f5) = i + s.f5) (e3 : wrap64 (i + s.f5 + 1) = i + s.f5 + 1) (e4 : wrap64 (i + 1 + s.f5) = i + s.f5 + 1) (hR : R.length = 6) (hC : C.length = 16) (hB : B.length = 16) (hRb : ∀ x ∈ R, 0 ≤ x ∧ x ≤ 65535) (hCb : ∀ x ∈ C, 0 ≤ x ∧ x ≤ 65535) (bd : 0 ≤ rd R s.f2 ∧ rd R s.f2 ≤ 65535) (bs : 0 ≤ rd R s.f3 ∧ rd R s.f3 ≤ 65535) (hn : i + 1 < (p.length : Int)) (h0 : s.f0 = 1) : Both_ p ctx i R C B k := by
  obtain ⟨y, hy⟩ := do_some s.f1 (rd R s.f2) (rd R s.f3) bs.1
  have hy2 : impl_do.f s.f1 (rd R s.f2) (rd R s.f3) = some y := by rw [do_same _ _ _ bs.1]; exact hy
  have yb := do_bd _ _ _ bd bs _ hy
  refine ⟨0, false, i + 1, R.set s.f2.toNat y, C, B, ?_, ?_, ⟨by decide, by simp [hR]⟩, fun _ _ => ⟨⟨Int.add_nonneg ha0 (by decide), hn⟩, by simp [hR], hC, hB, set_bd hRb yb, hCb⟩⟩
  · simp [impl_Machine_step.f, impl_Machine_step.j0, impl_Machine_step.j1, impl_Machine_step.j2, hrd, h0, ha0, ha1, d0, d1, s0, s1, e1, e2, e3, e4, ge_iff_le, if_true, if_false, Option.bind_some, hy, hy2]
  · simp [spec_l3Do.f, spec_l3Do.j0, spec_l3Do.j1, spec_l3Do.j2, spec_l3Do.j3, hrd, h0, ha0, ha1, d0, d1, s0, s1, e1, e2, e3, e4, ge_iff_le, if_true, if_false, Option.bind_some, hy, hy2]
theorem step_k2 (p : List S26) (ctx : List Int) (hc : ctx.length = 8 ∧ ∀ x ∈ ctx, 0 ≤ x ∧ x ≤ 255) (i : Int) (R C : List Int) (B : List Bool) (k : Nat) (s : S26) (hrd : rd_T26 p i = s) (ha0 : 0 ≤ i) (ha1 : i < (p.length : Int)) (d0 : 0 ≤ s.f2) (d1 : s.f2 < (R.length : Int)) (s0 : 0 ≤ s.f3) (s1 : s.f3 < (R.length : Int)) (m0 : 0 ≤ s.f4) (m1 : s.f4 ≤ 65535) (e1 : wrap64 (i + 1) = i + 1) (e2 : wrap64 (i + s.f5) = i + s.f5) (e3 : wrap64 (i + s.f5 + 1) = i + s.f5 + 1) (e4 : wrap64 (i + 1 + s.f5) = i + s.f5 + 1) (hR : R.length = 6) (hC : C.length = 16) (hB : B.length = 16) (hRb : ∀ x ∈ R, 0 ≤ x ∧ x ≤ 65535) (hCb : ∀ x ∈ C, 0 ≤ x ∧ x ≤ 65535) (bd : 0 ≤ rd R s.f2 ∧ rd R s.f2 ≤ 65535) (bs : 0 ≤ rd R s.f3 ∧ rd R s.f3 ≤ 65535) (hn : i + 1 < (p.length : Int)) (h0 : s.f0 = 2) : Both_ p ctx i R C B k := by
  obtain ⟨y, hy⟩ := do_some s.f1 (rd R s.f2) s.f4 m0
  have hy2 : impl_do.f s.f1 (rd R s.f2) s.f4 = some y := by rw [do_same _ _ _ m0]; exact hy
  have yb := do_bd _ _ _ bd ⟨m0, m1⟩ _ hy
  refine ⟨0, false, i + 1, R.set s.f2.toNat y, C, B, ?_, ?_, ⟨by decide, by simp [hR]⟩, fun _ _ => ⟨⟨Int.add_nonneg ha0 (by decide), hn⟩, by simp [hR], hC, hB, set_bd hRb yb, hCb⟩⟩
  · simp [impl_Machine_step.f, impl_Machine_step.j0, impl_Machine_step.j1, impl_Machine_step.j2, hrd, h0, ha0, ha1, d0, d1, s0, s1, e1, e2, e3, e4, ge_iff_le, if_true, if_false, Option.bind_some, hy, hy2]
  · simp [spec_l3Do.f, spec_l3Do.j0, spec_l3Do.j1, spec_l3Do.j2, spec_l3Do.j3, hrd, h0, ha0, ha1, d0, d1, s0, s1, e1, e2, e3, e4, ge_iff_le, if_true, if_false, Option.bind_some, hy, hy2]
theorem step_k3 (p : List S26) (ctx : List Int) (hc : ctx.length = 8 ∧ ∀ x ∈ ctx, 0 ≤ x ∧ x ≤ 255) (i : Int) (R C : List Int) (B : List Bool) (k : Nat) (s : S26) (hrd : rd_T26 p i = s) (ha0 : 0 ≤ i) (ha1 : i < (p.length : Int)) (d0 : 0 ≤ s.f2) (d1 : s.f2 < (R.length : Int)) (s0 : 0 ≤ s.f3) (s1 : s.f3 < (R.length : Int)) (m0 : 0 ≤ s.f4) (m1 : s.f4 ≤ 65535) (e1 : wrap64 (i + 1) = i + 1) (e2 : wrap64 (i + s.f5) = i + s.f5) (e3 : wrap64 (i + s.f5 + 1) = i + s.f5 + 1) (e4 : wrap64 (i + 1 + s.f5) = i + s.f5 + 1) (hR : R.length = 6) (hC : C.length = 16) (hB : B.length = 16) (hRb : ∀ x ∈ R, 0 ≤ x ∧ x ≤ 65535) (hCb : ∀ x ∈ C, 0 ≤ x ∧ x ≤ 65535) (bd : 0 ≤ rd R s.f2 ∧ rd R s.f2 ≤ 65535) (bs : 0 ≤ rd R s.f3 ∧ rd R s.f3 ≤ 65535) (hn : i + 1 < (p.length : Int)) (h0 : s.f0 = 3) : Both_ p ctx i R C B k := by
  refine ⟨0, false, i + 1, R.set s.f2.toNat s.f4, C, B, ?_, ?_, ⟨by decide, by simp [hR]⟩, fun _ _ => ⟨⟨Int.add_nonneg ha0 (by decide), hn⟩, by simp [hR], hC, hB, set_bd hRb ⟨m0, m1⟩, hCb⟩⟩
  · simp [impl_Machine_step.f, impl_Machine_step.j0, impl_Machine_step.j1, impl_Machine_step.j2, hrd, h0, ha0, ha1, d0, d1, s0, s1, e1, e2, e3, e4, ge_iff_le, if_true, if_false, Option.bind_some]
  · simp [spec_l3Do.f, spec_l3Do.j0, spec_l3Do.j1, spec_l3Do.j2, spec_l3Do.j3, hrd, h0, ha0, ha1, d0, d1, s0, s1, e1, e2, e3, e4, ge_iff_le, if_true, if_false, Option.bind_some]
theorem step_k4 (p : List S26) (ctx : List Int) (hc : ctx.length = 8 ∧ ∀ x ∈ ctx, 0 ≤ x ∧ x ≤ 255) (i : Int) (R C : List Int) (B : List Bool) (k : Nat) (s : S26) (hrd : rd_T26 p i = s) (ha0 : 0 ≤ i) (ha1 : i < (p.length : Int)) (d0 : 0 ≤ s.f2) (d1 : s.f2 < (R.length : Int)) (s0 : 0 ≤ s.f3) (s1 : s.f3 < (R.length : Int)) (m0 : 0 ≤ s.f4) (m1 : s.f4 ≤ 65535) (e1 : wrap64 (i + 1) = i + 1) (e2 : wrap64 (i + s.f5) = i + s.f5) (e3 : wrap64 (i + s.f5 + 1) = i + s.f5 + 1) (e4 : wrap64 (i + 1 + s.f5) = i + s.f5 + 1) (hR : R.length = 6) (hC : C.length = 16) (hB : B.length = 16) (hRb : ∀ x ∈ R, 0 ≤ x ∧ x ≤ 65535) (hCb : ∀ x ∈ C, 0 ≤ x ∧ x ≤ 65535) (bd : 0 ≤ rd R s.f2 ∧ rd R s.f2 ≤ 65535) (bs : 0 ≤ rd R s.f3 ∧ rd R s.f3 ≤ 65535) (hn : i + 1 < (p.length : Int)) (h0 : s.f0 = 4) : Both_ p ctx i R C B k := by
  refine ⟨0, false, i + 1, R.set s.f2.toNat s.f4, C, B, ?_, ?_, ⟨by decide, by simp [hR]⟩, fun _ _ => ⟨⟨Int.add_nonneg ha0 (by decide), hn⟩, by simp [hR], hC, hB, set_bd hRb ⟨m0, m1⟩, hCb⟩⟩
  · simp [impl_Machine_step.f, impl_Machine_step.j0, impl_Machine_step.j1, impl_Machine_step.j2, hrd, h0, ha0, ha1, d0, d1, s0, s1, e1, e2, e3, e4, ge_iff_le, if_true, if_false, Option.bind_some]
  · simp [spec_l3Do.f, spec_l3Do.j0, spec_l3Do.j1, spec_l3Do.j2, spec_l3Do.j3, hrd, h0, ha0, ha1, d0, d1, s0, s1, e1, e2, e3, e4, ge_iff_le, if_true, if_false, Option.bind_some]
theorem step_k5 (p : List S26) (ctx : List Int) (hc : ctx.length = 8 ∧ ∀ x ∈ ctx, 0 ≤ x ∧ x ≤ 255) (i : Int) (R C : List Int) (B : List Bool) (k : Nat) (s : S26) (hrd : rd_T26 p i = s) (ha0 : 0 ≤ i) (ha1 : i < (p.length : Int)) (d0 : 0 ≤ s.f2) (d1 : s.f2 < (R.length : Int)) (s0 : 0 ≤ s.f3) (s1 : s.f3 < (R.length : Int)) (m0 : 0 ≤ s.f4) (m1 : s.f4 ≤ 65535) (e1 : wrap64 (i + 1) = i + 1) (e2 : wrap64 (i + s.f5) = i + s.f5) (e3 : wrap64 (i + s.f5 + 1) = i + s.f5 + 1) (e4 : wrap64 (i + 1 + s.f5) = i + s.f5 + 1) (hR : R.length = 6) (hC : C.length = 16) (hB : B.length = 16) (hRb : ∀ x ∈ R, 0 ≤ x ∧ x ≤ 65535) (hCb : ∀ x ∈ C, 0 ≤ x ∧ x ≤ 65535) (bd : 0 ≤ rd R s.f2 ∧ rd R s.f2 ≤ 65535) (bs : 0 ≤ rd R s.f3 ∧ rd R s.f3 ≤ 65535) (hn : i + 1 < (p.length : Int)) (h0 : s.f0 = 5) : Both_ p ctx i R C B k := by
  obtain ⟨m2, z0⟩ := add_w _ _ bs ⟨m0, m1⟩
  by_cases z : 8 ≤ rd R s.f3 + s.f4
  · refine ⟨1, false, i, R, C, B, ?_, ?_, ⟨by decide, by simp [hR]⟩, fun h => absurd h (by decide)⟩
    · simp [impl_Machine_step.f, impl_Machine_step.j0, impl_Machine_step.j1, impl_Machine_step.j2, hrd, h0, ha0, ha1, d0, d1, s0, s1, e1, e2, e3, e4, ge_iff_le, if_true, if_false, Option.bind_some, m2, z]
    · simp [spec_l3Do.f, spec_l3Do.j0, spec_l3Do.j1, spec_l3Do.j2, spec_l3Do.j3, hrd, h0, ha0, ha1, d0, d1, s0, s1, e1, e2, e3, e4, ge_iff_le, if_true, if_false, Option.bind_some, m2, z]
  · have z1 : rd R s.f3 + s.f4 < (ctx.length : Int) := by rw [hc.1]; exact Int.not_le.1 z
    have vb := hc.2 _ (rd_mem z0 z1)
    refine ⟨0, false, i + 1, R.set s.f2.toNat (rd ctx (rd R s.f3 + s.f4)), C, B, ?_, ?_, ⟨by decide, by simp [hR]⟩, fun _ _ => ⟨⟨Int.add_nonneg ha0 (by decide), hn⟩, by simp [hR], hC, hB, set_bd hRb ⟨vb.1, Int.le_trans vb.2 (by decide)⟩, hCb⟩⟩
    · simp [impl_Machine_step.f, impl_Machine_step.j0, impl_Machine_step.j1, impl_Machine_step.j2, hrd, h0, ha0, ha1, d0, d1, s0, s1, e1, e2, e3, e4, ge_iff_le, if_true, if_false, Option.bind_some, m2, z, z0, z1]
    · simp [spec_l3Do.f, spec_l3Do.j0, spec_l3Do.j1, spec_l3Do.j2, spec_l3Do.j3, hrd, h0, ha0, ha1, d0, d1, s0, s1, e1, e2, e3, e4, ge_iff_le, if_true, if_false, Option.bind_some, m2, z, z0, z1]
theorem step_k6 (p : List S26) (ctx : List Int) (hc : ctx.length = 8 ∧ ∀ x ∈ ctx, 0 ≤ x ∧ x ≤ 255) (i : Int) (R C : List Int) (B : List Bool) (k : Nat) (s : S26) (hrd : rd_T26 p i = s) (ha0 : 0 ≤ i) (ha1 : i < (p.length : Int)) (d0 : 0 ≤ s.f2) (d1 : s.f2 < (R.length : Int)) (s0 : 0 ≤ s.f3) (s1 : s.f3 < (R.length : Int)) (m0 : 0 ≤ s.f4) (m1 : s.f4 ≤ 65535) (e1 : wrap64 (i + 1) = i + 1) (e2 : wrap64 (i + s.f5) = i + s.f5) (e3 : wrap64 (i + s.f5 + 1) = i + s.f5 + 1) (e4 : wrap64 (i + 1 + s.f5) = i + s.f5 + 1) (hR : R.length = 6) (hC : C.length = 16) (hB : B.length = 16) (hRb : ∀ x ∈ R, 0 ≤ x ∧ x ≤ 65535) (hCb : ∀ x ∈ C, 0 ≤ x ∧ x ≤ 65535) (bd : 0 ≤ rd R s.f2 ∧ rd R s.f2 ≤ 65535) (bs : 0 ≤ rd R s.f3 ∧ rd R s.f3 ≤ 65535) (hn : i + 1 < (p.length : Int)) (h0 : s.f0 = 6) : Both_ p ctx i R C B k := by
  by_cases z : 16 ≤ s.f4
  · refine ⟨2, false, i, R, C, B, ?_, ?_, ⟨by decide, by simp [hR]⟩, fun h => absurd h (by decide)⟩
    · simp [impl_Machine_step.f, impl_Machine_step.j0, impl_Machine_step.j1, impl_Machine_step.j2, hrd, h0, ha0, ha1, d0, d1, s0, s1, e1, e2, e3, e4, ge_iff_le, if_true, if_false, Option.bind_some, z]
    · simp [spec_l3Do.f, spec_l3Do.j0, spec_l3Do.j1, spec_l3Do.j2, spec_l3Do.j3, hrd, h0, ha0, ha1, d0, d1, s0, s1, e1, e2, e3, e4, ge_iff_le, if_true, if_false, Option.bind_some, z]
  have z1 : s.f4 < (C.length : Int) := by rw [hC]; exact Int.not_le.1 z
  have z2 : s.f4 < (B.length : Int) := by rw [hB]; exact Int.not_le.1 z
  have cb := hCb _ (rd_mem m0 z1)
  cases zb : rdOf false B s.f4 with
  | false =>
    refine ⟨3, false, i, R, C, B, ?_, ?_, ⟨by decide, by simp [hR]⟩, fun h => absurd h (by decide)⟩
    · simp [impl_Machine_step.f, impl_Machine_step.j0, impl_Machine_step.j1, impl_Machine_step.j2, hrd, h0, ha0, ha1, d0, d1, s0, s1, e1, e2, e3, e4, ge_iff_le, if_true, if_false, Option.bind_some, z, m0, z1, z2, zb]
    · simp [spec_l3Do.f, spec_l3Do.j0, spec_l3Do.j1, spec_l3Do.j2, spec_l3Do.j3, hrd, h0, ha0, ha1, d0, d1, s0, s1, e1, e2, e3, e4, ge_iff_le, if_true, if_false, Option.bind_some, z, m0, z1, z2, zb]
  | true =>
    refine ⟨0, false, i + 1, R.set s.f2.toNat (rd C s.f4), C, B, ?_, ?_, ⟨by decide, by simp [hR]⟩, fun _ _ => ⟨⟨Int.add_nonneg ha0 (by decide), hn⟩, by simp [hR], hC, hB, set_bd hRb cb, hCb⟩⟩
    · simp [impl_Machine_step.f, impl_Machine_step.j0, impl_Machine_step.j1, impl_Machine_step.j2, hrd, h0, ha0, ha1, d0, d1, s0, s1, e1, e2, e3, e4, ge_iff_le, if_true, if_false, Option.bind_some, z, m0, z1, z2, zb]
    · simp [spec_l3Do.f, spec_l3Do.j0, spec_l3Do.j1, spec_l3Do.j2, spec_l3Do.j3, hrd, h0, ha0, ha1, d0, d1, s0, s1, e1, e2, e3, e4, ge_iff_le, if_true, if_false, Option.bind_some, z, m0, z1, z2, zb]
theorem step_k7 (p : List S26) (ctx : List Int) (hc : ctx.length = 8 ∧ ∀ x ∈ ctx, 0 ≤ x ∧ x ≤ 255) (i : Int) (R C : List Int) (B : List Bool) (k : Nat) (s : S26) (hrd : rd_T26 p i = s) (ha0 : 0 ≤ i) (ha1 : i < (p.length : Int)) (d0 : 0 ≤ s.f2) (d1 : s.f2 < (R.length : Int)) (s0 : 0 ≤ s.f3) (s1 : s.f3 < (R.length : Int)) (m0 : 0 ≤ s.f4) (m1 : s.f4 ≤ 65535) (e1 : wrap64 (i + 1) = i + 1) (e2 : wrap64 (i + s.f5) = i + s.f5) (e3 : wrap64 (i + s.f5 + 1) = i + s.f5 + 1) (e4 : wrap64 (i + 1 + s.f5) = i + s.f5 + 1) (hR : R.length = 6) (hC : C.length = 16) (hB : B.length = 16) (hRb : ∀ x ∈ R, 0 ≤ x ∧ x ≤ 65535) (hCb : ∀ x ∈ C, 0 ≤ x ∧ x ≤ 65535) (bd : 0 ≤ rd R s.f2 ∧ rd R s.f2 ≤ 65535) (bs : 0 ≤ rd R s.f3 ∧ rd R s.f3 ≤ 65535) (hn : i + 1 < (p.length : Int)) (h0 : s.f0 = 7) : Both_ p ctx i R C B k := by
  by_cases z : 16 ≤ s.f4
  · refine ⟨2, false, i, R, C, B, ?_, ?_, ⟨by decide, by simp [hR]⟩, fun h => absurd h (by decide)⟩
    · simp [impl_Machine_step.f, impl_Machine_step.j0, impl_Machine_step.j1, impl_Machine_step.j2, hrd, h0, ha0, ha1, d0, d1, s0, s1, e1, e2, e3, e4, ge_iff_le, if_true, if_false, Option.bind_some, z]
    · simp [spec_l3Do.f, spec_l3Do.j0, spec_l3Do.j1, spec_l3Do.j2, spec_l3Do.j3, hrd, h0, ha0, ha1, d0, d1, s0, s1, e1, e2, e3, e4, ge_iff_le, if_true, if_false, Option.bind_some, z]
  have z1 : s.f4 < (C.length : Int) := by rw [hC]; exact Int.not_le.1 z
  have z2 : s.f4 < (B.length : Int) := by rw [hB]; exact Int.not_le.1 z
  refine ⟨0, false, i + 1, R, C.set s.f4.toNat (rd R s.f2), B.set s.f4.toNat true, ?_, ?_, ⟨by decide, by simp [hR]⟩, fun _ _ => ⟨⟨Int.add_nonneg ha0 (by decide), hn⟩, hR, by simp [hC], by simp [hB], hRb, set_bd hCb bd⟩⟩
  · simp [impl_Machine_step.f, impl_Machine_step.j0, impl_Machine_step.j1, impl_Machine_step.j2, hrd, h0, ha0, ha1, d0, d1, s0, s1, e1, e2, e3, e4, ge_iff_le, if_true, if_false, Option.bind_some, z, m0, z1, z2]
  · simp [spec_l3Do.f, spec_l3Do.j0, spec_l3Do.j1, spec_l3Do.j2, spec_l3Do.j3, hrd, h0, ha0, ha1, d0, d1, s0, s1, e1, e2, e3, e4, ge_iff_le, if_true, if_false, Option.bind_some, z, m0, z1, z2]
theorem step_k8 (p : List S26) (ctx : List Int) (hc : ctx.length = 8 ∧ ∀ x ∈ ctx, 0 ≤ x ∧ x ≤ 255) (i : Int) (R C : List Int) (B : List Bool) (k : Nat) (s : S26) (hrd : rd_T26 p i = s) (ha0 : 0 ≤ i) (ha1 : i < (p.length : Int)) (d0 : 0 ≤ s.f2) (d1 : s.f2 < (R.length : Int)) (s0 : 0 ≤ s.f3) (s1 : s.f3 < (R.length : Int)) (m0 : 0 ≤ s.f4) (m1 : s.f4 ≤ 65535) (e1 : wrap64 (i + 1) = i + 1) (e2 : wrap64 (i + s.f5) = i + s.f5) (e3 : wrap64 (i + s.f5 + 1) = i + s.f5 + 1) (e4 : wrap64 (i + 1 + s.f5) = i + s.f5 + 1) (hR : R.length = 6) (hC : C.length = 16) (hB : B.length = 16) (hRb : ∀ x ∈ R, 0 ≤ x ∧ x ≤ 65535) (hCb : ∀ x ∈ C, 0 ≤ x ∧ x ≤ 65535) (bd : 0 ≤ rd R s.f2 ∧ rd R s.f2 ≤ 65535) (bs : 0 ≤ rd R s.f3 ∧ rd R s.f3 ≤ 65535) (t0 : 0 ≤ i + s.f5 + 1) (hj : i + s.f5 + 1 < (p.length : Int)) (h0 : s.f0 = 8) : Both_ p ctx i R C B k := by
  refine ⟨0, false, i + s.f5 + 1, R, C, B, ?_, ?_, ⟨by decide, by simp [hR]⟩, fun _ _ => ⟨⟨t0, hj⟩, hR, hC, hB, hRb, hCb⟩⟩
  · simp [impl_Machine_step.f, impl_Machine_step.j0, impl_Machine_step.j1, impl_Machine_step.j2, hrd, h0, ha0, ha1, d0, d1, s0, s1, e1, e2, e3, e4, ge_iff_le, if_true, if_false, Option.bind_some]
  · simp [spec_l3Do.f, spec_l3Do.j0, spec_l3Do.j1, spec_l3Do.j2, spec_l3Do.j3, hrd, h0, ha0, ha1, d0, d1, s0, s1, e1, e2, e3, e4, ge_iff_le, if_true, if_false, Option.bind_some]
theorem step_k9 (p : List S26) (ctx : List Int) (hc : ctx.length = 8 ∧ ∀ x ∈ ctx, 0 ≤ x ∧ x ≤ 255) (i : Int) (R C : List Int) (B : List Bool) (k : Nat) (s : S26) (hrd : rd_T26 p i = s) (ha0 : 0 ≤ i) (ha1 : i < (p.length : Int)) (d0 : 0 ≤ s.f2) (d1 : s.f2 < (R.length : Int)) (s0 : 0 ≤ s.f3) (s1 : s.f3 < (R.length : Int)) (m0 : 0 ≤ s.f4) (m1 : s.f4 ≤ 65535) (e1 : wrap64 (i + 1) = i + 1) (e2 : wrap64 (i + s.f5) = i + s.f5) (e3 : wrap64 (i + s.f5 + 1) = i + s.f5 + 1) (e4 : wrap64 (i + 1 + s.f5) = i + s.f5 + 1) (hR : R.length = 6) (hC : C.length = 16) (hB : B.length = 16) (hRb : ∀ x ∈ R, 0 ≤ x ∧ x ≤ 65535) (hCb : ∀ x ∈ C, 0 ≤ x ∧ x ≤ 65535) (bd : 0 ≤ rd R s.f2 ∧ rd R s.f2 ≤ 65535) (bs : 0 ≤ rd R s.f3 ∧ rd R s.f3 ≤ 65535) (hn : i + 1 < (p.length : Int)) (t0 : 0 ≤ i + s.f5 + 1) (hj : i + s.f5 + 1 < (p.length : Int)) (h0 : s.f0 = 9) : Both_ p ctx i R C B k := by
  by_cases z : rd R s.f2 = rd R s.f3
  · refine ⟨0, false, i + s.f5 + 1, R, C, B, ?_, ?_, ⟨by decide, by simp [hR]⟩, fun _ _ => ⟨⟨t0, hj⟩, hR, hC, hB, hRb, hCb⟩⟩
    · simp [impl_Machine_step.f, impl_Machine_step.j0, impl_Machine_step.j1, impl_Machine_step.j2, hrd, h0, ha0, ha1, d0, d1, s0, s1, e1, e2, e3, e4, ge_iff_le, if_true, if_false, Option.bind_some, z]
    · simp [spec_l3Do.f, spec_l3Do.j0, spec_l3Do.j1, spec_l3Do.j2, spec_l3Do.j3, hrd, h0, ha0, ha1, d0, d1, s0, s1, e1, e2, e3, e4, ge_iff_le, if_true, if_false, Option.bind_some, z]
  · refine ⟨0, false, i + 1, R, C, B, ?_, ?_, ⟨by decide, by simp [hR]⟩, fun _ _ => ⟨⟨Int.add_nonneg ha0 (by decide), hn⟩, hR, hC, hB, hRb, hCb⟩⟩
    · simp [impl_Machine_step.f, impl_Machine_step.j0, impl_Machine_step.j1, impl_Machine_step.j2, hrd, h0, ha0, ha1, d0, d1, s0, s1, e1, e2, e3, e4, ge_iff_le, if_true, if_false, Option.bind_some, z]
    · simp [spec_l3Do.f, spec_l3Do.j0, spec_l3Do.j1, spec_l3Do.j2, spec_l3Do.j3, hrd, h0, ha0, ha1, d0, d1, s0, s1, e1, e2, e3, e4, ge_iff_le, if_true, if_false, Option.bind_some, z]
theorem step_k10 (p : List S26) (ctx : List Int) (hc : ctx.length = 8 ∧ ∀ x ∈ ctx, 0 ≤ x ∧ x ≤ 255) (i : Int) (R C : List Int) (B : List Bool) (k : Nat) (s : S26) (hrd : rd_T26 p i = s) (ha0 : 0 ≤ i) (ha1 : i < (p.length : Int)) (d0 : 0 ≤ s.f2) (d1 : s.f2 < (R.length : Int)) (s0 : 0 ≤ s.f3) (s1 : s.f3 < (R.length : Int)) (m0 : 0 ≤ s.f4) (m1 : s.f4 ≤ 65535) (e1 : wrap64 (i + 1) = i + 1) (e2 : wrap64 (i + s.f5) = i + s.f5) (e3 : wrap64 (i + s.f5 + 1) = i + s.f5 + 1) (e4 : wrap64 (i + 1 + s.f5) = i + s.f5 + 1) (hR : R.length = 6) (hC : C.length = 16) (hB : B.length = 16) (hRb : ∀ x ∈ R, 0 ≤ x ∧ x ≤ 65535) (hCb : ∀ x ∈ C, 0 ≤ x ∧ x ≤ 65535) (bd : 0 ≤ rd R s.f2 ∧ rd R s.f2 ≤ 65535) (bs : 0 ≤ rd R s.f3 ∧ rd R s.f3 ≤ 65535) (hn : i + 1 < (p.length : Int)) (t0 : 0 ≤ i + s.f5 + 1) (hj : i + s.f5 + 1 < (p.length : Int)) (h0 : s.f0 = 10) : Both_ p ctx i R C B k := by
  by_cases z : rd R s.f2 < rd R s.f3
  · refine ⟨0, false, i + s.f5 + 1, R, C, B, ?_, ?_, ⟨by decide, by simp [hR]⟩, fun _ _ => ⟨⟨t0, hj⟩, hR, hC, hB, hRb, hCb⟩⟩
    · simp [impl_Machine_step.f, impl_Machine_step.j0, impl_Machine_step.j1, impl_Machine_step.j2, hrd, h0, ha0, ha1, d0, d1, s0, s1, e1, e2, e3, e4, ge_iff_le, if_true, if_false, Option.bind_some, z]
    · simp [spec_l3Do.f, spec_l3Do.j0, spec_l3Do.j1, spec_l3Do.j2, spec_l3Do.j3, hrd, h0, ha0, ha1, d0, d1, s0, s1, e1, e2, e3, e4, ge_iff_le, if_true, if_false, Option.bind_some, z]
  · refine ⟨0, false, i + 1, R, C, B, ?_, ?_, ⟨by decide, by simp [hR]⟩, fun _ _ => ⟨⟨Int.add_nonneg ha0 (by decide), hn⟩, hR, hC, hB, hRb, hCb⟩⟩
    · simp [impl_Machine_step.f, impl_Machine_step.j0, impl_Machine_step.j1, impl_Machine_step.j2, hrd, h0, ha0, ha1, d0, d1, s0, s1, e1, e2, e3, e4, ge_iff_le, if_true, if_false, Option.bind_some, z]
    · simp [spec_l3Do.f, spec_l3Do.j0, spec_l3Do.j1, spec_l3Do.j2, spec_l3Do.j3, hrd, h0, ha0, ha1, d0, d1, s0, s1, e1, e2, e3, e4, ge_iff_le, if_true, if_false, Option.bind_some, z]
theorem step_k11 (p : List S26) (ctx : List Int) (hc : ctx.length = 8 ∧ ∀ x ∈ ctx, 0 ≤ x ∧ x ≤ 255) (i : Int) (R C : List Int) (B : List Bool) (k : Nat) (s : S26) (hrd : rd_T26 p i = s) (ha0 : 0 ≤ i) (ha1 : i < (p.length : Int)) (d0 : 0 ≤ s.f2) (d1 : s.f2 < (R.length : Int)) (s0 : 0 ≤ s.f3) (s1 : s.f3 < (R.length : Int)) (m0 : 0 ≤ s.f4) (m1 : s.f4 ≤ 65535) (e1 : wrap64 (i + 1) = i + 1) (e2 : wrap64 (i + s.f5) = i + s.f5) (e3 : wrap64 (i + s.f5 + 1) = i + s.f5 + 1) (e4 : wrap64 (i + 1 + s.f5) = i + s.f5 + 1) (hR : R.length = 6) (hC : C.length = 16) (hB : B.length = 16) (hRb : ∀ x ∈ R, 0 ≤ x ∧ x ≤ 65535) (hCb : ∀ x ∈ C, 0 ≤ x ∧ x ≤ 65535) (bd : 0 ≤ rd R s.f2 ∧ rd R s.f2 ≤ 65535) (bs : 0 ≤ rd R s.f3 ∧ rd R s.f3 ≤ 65535) (h0 : s.f0 = 11) : Both_ p ctx i R C B k := by
  refine ⟨0, true, i, R, C, B, ?_, ?_, ⟨by decide, by simp [hR]⟩, fun _ h => by cases h⟩
  · simp [impl_Machine_step.f, impl_Machine_step.j0, impl_Machine_step.j1, impl_Machine_step.j2, hrd, h0, ha0, ha1, d0, d1, s0, s1, e1, e2, e3, e4, ge_iff_le, if_true, if_false, Option.bind_some]
  · simp [spec_l3Do.f, spec_l3Do.j0, spec_l3Do.j1, spec_l3Do.j2, spec_l3Do.j3, hrd, h0, ha0, ha1, d0, d1, s0, s1, e1, e2, e3, e4, ge_iff_le, if_true, if_false, Option.bind_some]
theorem step_both (p : List S26) (hg : goodP p = true) (ctx : List Int) (hc : ctx.length = 8 ∧ ∀ x ∈ ctx, 0 ≤ x ∧ x ≤ 255) (a : Int) (R C : List Int) (B : List Bool) (hM : okM p.length a R C B) (k : Nat) : Both_ p ctx a R C B k := by
  obtain ⟨⟨ha0, ha1⟩, hR, hC, hB, hRb, hCb⟩ := hM
  obtain ⟨hlen, hlast, hall⟩ := goodP_parts hg
  obtain ⟨i, rfl⟩ : ∃ i : Nat, a = i := ⟨a.toNat, by omega⟩
  have hi : i < p.length := by omega
  have hi2 : i < 100 := by omega
  have hrd := rd26_nat p i hi
  have hnl := not_last p i hi hlast
  obtain ⟨hst, hjump⟩ := jump_in p hall i hi
  clear hall hlast hg hlen
  rw [hrd] at hnl
  obtain ⟨s, hs⟩ : ∃ s, s = p[i] := ⟨_, rfl⟩
  rw [← hs] at hst hjump hrd hnl
  obtain ⟨⟨k0, k1⟩, _, ⟨d0, d1'⟩, ⟨s0, s1'⟩, ⟨m0, m1⟩, ⟨t0, t1⟩, _⟩ := step_bd _ _ _ _ _ _ hst
  have hto := (step_to _ _ _ _ _ _ hst).2
  have d1 : s.f2 < (R.length : Int) := by rw [hR]; exact Int.lt_of_le_of_lt d1' (by decide)
  have s1 : s.f3 < (R.length : Int) := by rw [hR]; exact Int.lt_of_le_of_lt s1' (by decide)
  obtain ⟨e1, e2, e3, e4, e5⟩ := wr4 i s.f5 hi2 t0 t1
  have bd := hRb _ (rd_mem d0 d1)
  have bs := hRb _ (rd_mem s0 s1)
  have n11 : ∀ c : Int, c ≠ 11 → s.f0 = c → (i : Int) + 1 < (p.length : Int) := fun c hc h => hnl (by rw [h]; exact hc)
  rcases kinds11 _ k0 k1 with h | h | h | h | h | h | h | h | h | h | h
  · exact step_k1 p ctx hc i R C B k s hrd ha0 ha1 d0 d1 s0 s1 m0 m1 e1 e2 e3 e4 hR hC hB hRb hCb bd bs (n11 _ (by decide) h) h
  · exact step_k2 p ctx hc i R C B k s hrd ha0 ha1 d0 d1 s0 s1 m0 m1 e1 e2 e3 e4 hR hC hB hRb hCb bd bs (n11 _ (by decide) h) h
  · exact step_k3 p ctx hc i R C B k s hrd ha0 ha1 d0 d1 s0 s1 m0 m1 e1 e2 e3 e4 hR hC hB hRb hCb bd bs (n11 _ (by decide) h) h
  · exact step_k4 p ctx hc i R C B k s hrd ha0 ha1 d0 d1 s0 s1 m0 m1 e1 e2 e3 e4 hR hC hB hRb hCb bd bs (n11 _ (by decide) h) h
  · exact step_k5 p ctx hc i R C B k s hrd ha0 ha1 d0 d1 s0 s1 m0 m1 e1 e2 e3 e4 hR hC hB hRb hCb bd bs (n11 _ (by decide) h) h
  · exact step_k6 p ctx hc i R C B k s hrd ha0 ha1 d0 d1 s0 s1 m0 m1 e1 e2 e3 e4 hR hC hB hRb hCb bd bs (n11 _ (by decide) h) h
  · exact step_k7 p ctx hc i R C B k s hrd ha0 ha1 d0 d1 s0 s1 m0 m1 e1 e2 e3 e4 hR hC hB hRb hCb bd bs (n11 _ (by decide) h) h
  · exact step_k8 p ctx hc i R C B k s hrd ha0 ha1 d0 d1 s0 s1 m0 m1 e1 e2 e3 e4 hR hC hB hRb hCb bd bs e5 (hjump (hto.2 (.inl h))) h
  · exact step_k9 p ctx hc i R C B k s hrd ha0 ha1 d0 d1 s0 s1 m0 m1 e1 e2 e3 e4 hR hC hB hRb hCb bd bs (n11 _ (by decide) h) e5 (hjump (hto.2 (.inr (.inl h)))) h
  · exact step_k10 p ctx hc i R C B k s hrd ha0 ha1 d0 d1 s0 s1 m0 m1 e1 e2 e3 e4 hR hC hB hRb hCb bd bs (n11 _ (by decide) h) e5 (hjump (hto.2 (.inr (.inr h)))) h
  · exact step_k11 p ctx hc i R C B k s hrd ha0 ha1 d0 d1 s0 s1 m0 m1 e1 e2 e3 e4 hR hC hB hRb hCb bd bs h

theorem run_both (p : List S26) (hg : goodP p = true) (ctx : List Int) (hc : ctx.length = 8 ∧ ∀ x ∈ ctx, 0 ≤ x ∧ x ≤ 255) : ∀ (d k : Nat) (tr : List Int) (a : Int) (R C : List Int) (B : List Bool), tr.length + d ≤ 100 → okM p.length a R C B →
    ∃ r, spec_l3Run.l0 (k + d + 5) p ctx (d : Int) tr a R C B = some r ∧ impl_run.l0 (k + d + 5) p ctx ((tr.length + d : Nat) : Int) tr a R C B = some r ∧ r.2.2.2.length ≤ 100
  | 0, k, tr, a, R, C, B, hl, hM => by
    refine ⟨(0, 4, a, tr), ?_, ?_, by simpa using hl⟩
    · show spec_l3Run.l0 (k + 4 + 1) p ctx ((0 : Nat) : Int) tr a R C B = _
      rw [spec_l3Run.l0, if_neg (by decide)]
    · show impl_run.l0 (k + 4 + 1) p ctx ((tr.length + 0 : Nat) : Int) tr a R C B = _
      rw [impl_run.l0, if_pos (by simp)]
  | d + 1, k, tr, a, R, C, B, hl, hM => by
    obtain ⟨f, e, a', R', C', B', h1, h2, ⟨h3, h4⟩, h5⟩ := step_both p hg ctx hc a R C B hM (k + d + 1)
    have e1 : wrap64 (((d + 1 : Nat) : Int) - 1) = (d : Int) := by rw [w64 (by omega) (by omega)]; omega
    have ih := fun hM' => run_both p hg ctx hc d k (tr ++ [a]) a' R' C' B' (by rw [List.length_append, List.length_singleton]; omega) hM'
    rw [show (tr ++ [a]).length + d = tr.length + (d + 1) by rw [List.length_append, List.length_singleton]; omega] at ih
    have n1 : ¬ ((tr.length : Int) = ((tr.length + (d + 1) : Nat) : Int)) := by omega
    have n2 : ((d + 1 : Nat) : Int) > 0 := by omega
    have n3 : tr.length < 17592186044416 := by omega
    have n4 : (tr ++ [a]).length ≤ 100 := by rw [List.length_append, List.length_singleton]; omega
    have s1 : spec_l3Run.l0 (k + (d + 1) + 5) p ctx ((d + 1 : Nat) : Int) tr a R C B = if f > 0 then some (0, f, a, tr ++ [a]) else (if e = true then (if 0 < (R'.length : Int) then some (rd R' 0, 0, 0, tr ++ [a]) else none) else spec_l3Run.l0 (k + d + 5) p ctx (d : Int) (tr ++ [a]) a' R' C' B') := by
      show spec_l3Run.l0 (k + d + 1 + 4 + 1) p ctx _ tr a R C B = _
      rw [spec_l3Run.l0, if_pos n2, if_pos n3, h2, e1]
      rfl
    have s2 : impl_run.l0 (k + (d + 1) + 5) p ctx ((tr.length + (d + 1) : Nat) : Int) tr a R C B = if f = 0 then (if e = true then (if 0 < (R'.length : Int) then some (rd R' 0, 0, 0, tr ++ [a]) else none) else impl_run.l0 (k + d + 5) p ctx ((tr.length + (d + 1) : Nat) : Int) (tr ++ [a]) a' R' C' B') else some (0, f, a, tr ++ [a]) := by
      show impl_run.l0 (k + d + 1 + 4 + 1) p ctx _ tr a R C B = _
      rw [impl_run.l0, if_neg n1, if_pos n3, h1]
      rfl
    rw [s1, s2]
    clear s1 s2 h1 h2
    by_cases c : f = 0
    · rw [if_neg (by omega), if_pos c]
      cases e with
      | true =>
        rw [if_pos rfl, if_pos (by omega), if_pos rfl]
        exact ⟨_, rfl, rfl, n4⟩
      | false =>
        rw [if_neg Bool.false_ne_true, if_neg Bool.false_ne_true]
        exact ih (h5 c rfl)
    · rw [if_pos (by omega), if_neg c]
      exact ⟨_, rfl, rfl, n4⟩
theorem okM_new (n : Nat) (h : 1 ≤ n) : okM n 0 (List.replicate 6 0) (List.replicate 16 0) (List.replicate 16 false) := by
  refine ⟨⟨by omega, by omega⟩, by simp, by simp, by simp, fun x hx => ?_, fun x hx => ?_⟩
  · rw [(List.mem_replicate.1 hx).2]
    omega
  · rw [(List.mem_replicate.1 hx).2]
    omega
theorem runs_same (p : List S26) (hg : goodP p = true) (ctx : List Int) (hc : ctx.length = 8 ∧ ∀ x ∈ ctx, 0 ≤ x ∧ x ≤ 255) (m : Int) (h0 : 0 ≤ m) (h1 : m ≤ 100) (k : Nat) (hk : 200 ≤ k) : ∃ r, spec_l3Run.f k p ctx m = some r ∧ impl_run.f k p ctx m = some r ∧ r.2.2.2.length ≤ 100 := by
  obtain ⟨d, rfl⟩ : ∃ d : Nat, m = d := ⟨m.toNat, by omega⟩
  obtain ⟨k, rfl⟩ : ∃ q, k = q + d + 5 := ⟨k - d - 5, by omega⟩
  obtain ⟨r, e1, e2, e3⟩ := run_both p hg ctx hc d k [] 0 (List.replicate 6 0) (List.replicate 16 0) (List.replicate 16 false) (by simp; omega) (okM_new p.length (goodP_parts hg).1.1)
  refine ⟨r, ?_, ?_, e3⟩
  · unfold spec_l3Run.f spec_NewMachine.f
    rw [if_pos (by decide), if_pos (by decide), if_pos (by decide)]
    exact e1
  · unfold impl_run.f impl_NewMachine.f
    rw [if_pos (by decide), if_pos (by decide), if_pos (by decide)]
    rw [List.length_nil, Nat.zero_add] at e2
    exact e2
def ctxB (l : List Int) : Bool := decide (l.length = 8) && l.all fun n => decide (0 ≤ n) && decide (n ≤ 255)
theorem ctxB_ok {l : List Int} (h : ctxB l = true) : l.length = 8 ∧ ∀ x ∈ l, 0 ≤ x ∧ x ≤ 255 := by
  unfold ctxB at h
  rw [Bool.and_eq_true, decide_eq_true_eq] at h
  refine ⟨h.1, fun x hx => ?_⟩
  have := List.all_eq_true.1 h.2 x hx
  rw [Bool.and_eq_true, decide_eq_true_eq, decide_eq_true_eq] at this
  exact this
theorem specCtx_val (l : List Int) (hl : l.length ≤ 1048576) (k : Nat) (hk : 3000000 ≤ k) : spec_l3Ctx.f k l = some (ctxB l) := by
  unfold spec_l3Ctx.f ctxB
  by_cases h : l.length = 8
  · rw [if_pos (by omega), all_val l 0 255 hl k hk, decide_eq_true h]
    rfl
  · rw [if_neg (by omega), decide_eq_false h]
    rfl
theorem implCtx_val (l : List Int) : impl_isContext.f l = some (ctxB l) := by
  unfold impl_isContext.f ctxB
  rw [List.all_eq_not_any_not]

theorem trace_same (p : List S26) (hp : p.length ≤ 1048576) (ctx : List Int) (hc : ctx.length ≤ 1048576) (k : Nat) (hk : 8000000 ≤ k) : ∃ r, spec_TraceOf.f k p ctx = some r ∧ impl_TraceOf.f k p ctx = some r ∧ r.1.length ≤ 100 := by
  obtain ⟨k, rfl⟩ : ∃ q, k = q + 1 := ⟨k - 1, by omega⟩
  unfold spec_TraceOf.f impl_TraceOf.f
  rw [specGoodP_val p hp _ (by omega), implGoodP_val p hp _ (by omega)]
  simp only [Option.bind_some]
  cases hg : goodP p with
  | false => exact ⟨([], 0, false), by rw [if_neg Bool.false_ne_true, spec_TraceOf.j0, if_pos rfl], by rw [if_neg Bool.false_ne_true, impl_TraceOf.j0, if_pos rfl], by simp⟩
  | true =>
    rw [if_pos rfl, if_pos rfl, specCtx_val ctx hc _ (by omega), implCtx_val ctx]
    simp only [Option.bind_some]
    rw [spec_TraceOf.j0, impl_TraceOf.j0]
    cases hx : ctxB ctx with
    | false => exact ⟨([], 0, false), rfl, rfl, by simp⟩
    | true =>
      obtain ⟨r, e1, e2, e3⟩ := runs_same p hg ctx (ctxB_ok hx) 100 (by decide) (by decide) k (by omega)
      rw [e1, e2]
      exact ⟨_, rfl, rfl, e3⟩

theorem FnExactTraceOf : laws_FnExactTraceOf.Pure := by
  rintro l0 l1 ⟨h0, _⟩ _
  obtain ⟨k, hk⟩ : ∃ k : Nat, 9000000 ≤ k := ⟨_, Nat.le_refl _⟩
  refine ⟨k, ?_⟩
  unfold laws_FnExactTraceOf.f
  by_cases hn : (l1.length : Int) > 1048576
  · rw [if_pos hn]
  rw [if_neg hn]
  obtain ⟨t, ht, _, hte⟩ := szStepS_val l0 (by unfold maxLen at h0; omega)
  rw [ht]
  simp only [Option.bind_some]
  by_cases hn2 : t < 0
  · rw [if_pos hn2]
  · rw [if_neg hn2]
    have hb := hte (by omega)
    obtain ⟨l, hl⟩ : ∃ l, l = l0.map cv_ := ⟨_, rfl⟩
    have hll : l.length ≤ 1048576 := by rw [hl, List.length_map]; exact hb
    have hl1 : l1.length ≤ 1048576 := by omega
    have hT : ∀ q, 9000000 ≤ q → laws_toStepS.f q l0 = some l := fun q hq => by rw [hl]; exact toStepS_val l0 hb q (by omega)
    have hI : ∀ q, 9000000 ≤ q → laws_toIntS.f q l1 = some l1 := fun q hq => toIntS_val l1 hl1 q (by omega)
    have hE : ∀ q, 9000000 ≤ q → laws_eqStepS.f q l l = some true := fun q hq => eqStepS_val l (by omega) q (by omega)
    have hEI : ∀ q, 9000000 ≤ q → laws_eqIntS.f q l1 l1 = some true := fun q hq => eqIntS_val l1 (by omega) q (by omega)
    have hMS : ∀ q, 9000000 ≤ q → laws_markStepS.f q l 1 = some (1 + 6 * (l.length : Int), mk_ q l) := fun q hq => markStepS_val l hll q (by omega)
    have hMI : ∀ q, 9000000 ≤ q → laws_markIntS.f q l1 (1 + 6 * (l.length : Int)) = some (1 + 6 * (l.length : Int) + (l1.length : Int), markZ (1 + 6 * (l.length : Int)) l1.length) := fun q hq => markIntS_val l1 _ (by omega) (by omega) (by omega) q (by omega)
    obtain ⟨⟨r1, r2, r3⟩, e1, e2, e3⟩ := trace_same l hll l1 hl1 k (by omega)
    replace e3 : r1.length ≤ 100 := e3
    have hER : ∀ q, 9000000 ≤ q → laws_eqIntS.f q r1 r1 = some true := fun q hq => eqIntS_val r1 (by omega) q (by omega)
    have hM : ∀ q, 9000000 ≤ q → laws_markIntS.f q r1 1 = some (1 + (r1.length : Int), markZ 1 r1.length) := fun q hq => markIntS_val r1 1 (by omega) (by omega) (by omega) q (by omega)
    have hH : ∀ q, 9000000 ≤ q → laws_heldIntS.f q (markZ 1 r1.length) 1 = some (1 + (r1.length : Int)) := fun q hq => heldIntS_val r1.length 1 (by omega) (by omega) (by omega) q (by omega)
    have n1 : ¬ (1 + 6 * (l.length : Int) + (l1.length : Int) < 0) := by omega
    have n2 : ¬ (1 + (r1.length : Int) < 0) := by omega
    have hs : ∀ q, q = k → spec_TraceOf.f q l l1 = some (r1, r2, r3) := fun q hq => by rw [hq]; exact e1
    have him : ∀ q, q = k → impl_TraceOf.f q l l1 = some (r1, r2, r3) := fun q hq => by rw [hq]; exact e2
    repeat (first
      | (rw [hT _ (by omega)]; simp only [Option.bind_some])
      | (rw [hI _ (by omega)]; simp only [Option.bind_some])
      | (rw [hs _ (by omega)]; simp only [Option.bind_some])
      | (rw [him _ (by omega)]; simp only [Option.bind_some])
      | (rw [hE _ (by omega)]; simp only [Option.bind_some])
      | (rw [hEI _ (by omega)]; simp only [Option.bind_some])
      | (rw [hER _ (by omega)]; simp only [Option.bind_some])
      | (rw [hMS _ (by omega)]; simp only [Option.bind_some])
      | (rw [hMI _ (by omega)]; simp only [Option.bind_some])
      | (rw [hM _ (by omega)]; simp only [Option.bind_some])
      | (rw [hH _ (by omega)]; simp only [Option.bind_some])
      | rw [if_neg n1]
      | rw [if_neg n2]
      | rw [if_pos rfl]
      | rw [bne_self_eq_false]
      | rw [if_neg Bool.false_ne_true]
      | simp only [Option.bind_some])
    try simp

end Go.Proofs.Ytjopmdogdmdanaa.Pure
