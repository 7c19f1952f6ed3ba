/- The pure statement of the law FnExactTrimProof: the printed functions of the program and of the reference give the same answers, at every input that the statement's guards let in. -/
import Derived.Test.YtafffpbagdoniaaPFnExactTrimProofx8
namespace Go.Proofs.Ytafffpbagdoniaa.Pure
open Go.RowKit Go.Proofs.Ytafffpbagdoniaa.PFnExactTrimProof Go.Proofs.YtafffpbagdoniaaW.PrintWords Go.Proofs.YtafffpbagdoniaaW.PrintLast Go.Proofs.YtafffpbagdoniaaW.PrintMore
theorem w64 {x : Int} (h0 : -9223372036854775808 ≤ x) (h1 : x ≤ 9223372036854775807) : wrap64 x = x := by
  unfold wrap64
  omega
theorem l64 {a : Int} (h : (Lit.int .i64 a).wf = true) : -9223372036854775808 ≤ a ∧ a ≤ 9223372036854775807 := by
  simp only [Lit.wf, IntKind.min, IntKind.max, IntKind.signed, IntKind.bits, Bool.and_eq_true, decide_eq_true_eq, if_true] at h
  omega
theorem rd_nat (l : List Int) (i : Nat) (h : i < l.length) : rd l (i : Int) = l[i] := by
  unfold rd
  rw [List.getD_eq_getElem?_getD, show ((i : Int).toNat) = i by omega, List.getElem?_eq_getElem h]
  rfl
theorem next64 {i : Nat} (h : i ≤ 4611686018427387904) : wrap64 ((i : Int) + 1) = ((i + 1 : Nat) : Int) := by
  rw [w64 (by omega) (by omega)]
  omega

theorem rdL_nat (l : List (List Int)) (i : Nat) (h : i < l.length) : rd_L1 l (i : Int) = l[i] := by
  unfold rd_L1
  rw [List.getD_eq_getElem?_getD, show ((i : Int).toNat) = i by omega, List.getElem?_eq_getElem h]
  rfl

theorem szIntS_val (l : List Int) (a : Int) (h0 : 0 ≤ a) (h1 : a ≤ 1048576) (hl : l.length ≤ 9223372036854775807) : ∃ t, laws_szIntS.f l a = some t ∧ t ≤ 1048576 ∧ (0 ≤ t → (l.length : Int) ≤ a) := by
  unfold laws_szIntS.f
  rw [w64 (by omega) (by omega)]
  by_cases h : a - (l.length : Int) < 0
  · rw [if_pos h]
    exact ⟨-1, rfl, by omega, fun h => absurd h (by omega)⟩
  · rw [if_neg h]
    exact ⟨_, rfl, by omega, fun _ => by omega⟩
theorem szIntSS_l (l : List (List Int)) (hl : l.length ≤ 1048576) (hm : ∀ x ∈ l, x.length ≤ 9223372036854775807) : ∀ (d i : Nat) (a : Int) (k : Nat), i + d = l.length → 0 ≤ a → a ≤ 1048576 → (∀ j (hj : j < l.length), j < i → l[j].length ≤ 1048576) → d < k →
    ∃ t, laws_szIntSS.l0 k l a (i : Int) = some t ∧ t ≤ 1048576 ∧ (0 ≤ t → ∀ x ∈ l, x.length ≤ 1048576)
  | 0, i, a, k, h1, h2, h3, h4, hk => by
    obtain ⟨k, rfl⟩ : ∃ m, k = m + 1 := ⟨k - 1, by omega⟩
    simp only [laws_szIntSS.l0]
    rw [if_neg (by omega)]
    refine ⟨a, rfl, h3, fun _ x hx => ?_⟩
    obtain ⟨j, hj, rfl⟩ := List.mem_iff_getElem.1 hx
    exact h4 j hj (by omega)
  | d + 1, i, a, k, h1, h2, h3, h4, hk => by
    obtain ⟨k, rfl⟩ : ∃ m, k = m + 1 := ⟨k - 1, by omega⟩
    simp only [laws_szIntSS.l0]
    rw [if_pos (by omega), if_pos (by omega), rdL_nat l i (by omega)]
    obtain ⟨t, ht, htb, hte⟩ := szIntS_val l[i] a h2 h3 (hm _ (List.getElem_mem _))
    rw [ht]
    simp only [Option.bind_some]
    by_cases hn : t < 0
    · rw [if_pos hn]
      exact ⟨-1, rfl, by omega, fun h => absurd h (by omega)⟩
    · rw [if_neg hn, next64 (by omega)]
      refine szIntSS_l l hl hm d (i + 1) t k (by omega) (by omega) htb (fun j hj hji => ?_) (by omega)
      by_cases e : j = i
      · subst e
        have := hte (by omega)
        omega
      · exact h4 j hj (by omega)
theorem szIntSS_gen (l : List (List Int)) (hl : l.length ≤ 9223372036854775807) (hm : ∀ x ∈ l, x.length ≤ 9223372036854775807) (a : Int) (h0 : 0 ≤ a) (h1 : a ≤ 1048576) (k : Nat) (hk : 1048577 ≤ k) :
    ∃ t, laws_szIntSS.f k l a = some t ∧ t ≤ 1048576 ∧ (0 ≤ t → l.length ≤ 1048576 ∧ ∀ x ∈ l, x.length ≤ 1048576) := by
  unfold laws_szIntSS.f
  rw [w64 (by omega) (by omega)]
  by_cases h : a - (l.length : Int) < 0
  · rw [if_pos h]
    exact ⟨-1, rfl, by omega, fun h => absurd h (by omega)⟩
  · rw [if_neg h]
    obtain ⟨t, ht, htb, hte⟩ := szIntSS_l l (by omega) hm l.length 0 (a - (l.length : Int)) k (by omega) (by omega) (by omega) (fun j _ hj => absurd hj (by omega)) (by omega)
    exact ⟨t, ht, htb, fun h0 => ⟨by omega, hte h0⟩⟩
theorem szIntSS_val (l : List (List Int)) (hl : l.length ≤ 9223372036854775807) (hm : ∀ x ∈ l, x.length ≤ 9223372036854775807) (k : Nat) (hk : 1048577 ≤ k) :
    ∃ t, laws_szIntSS.f k l 1048576 = some t ∧ (0 ≤ t → l.length ≤ 1048576 ∧ ∀ x ∈ l, x.length ≤ 1048576) := by
  obtain ⟨t, ht, _, hte⟩ := szIntSS_gen l hl hm 1048576 (by omega) (by omega) k hk
  exact ⟨t, ht, hte⟩

theorem toIntS_l (l : List Int) (hl : l.length ≤ 4611686018427387904) : ∀ (d i : Nat) (y : List Int) (k : Nat), i + d = l.length → y.length = l.length → (∀ j, j < i → y[j]? = l[j]?) → d < k → laws_toIntS.l0 k l y (i : Int) = some l
  | 0, i, y, k, h1, h2, h3, hk => by
    obtain ⟨k, rfl⟩ : ∃ m, k = m + 1 := ⟨k - 1, by omega⟩
    simp only [laws_toIntS.l0]
    rw [if_neg (by omega)]
    congr 1
    apply List.ext_getElem?
    intro j
    by_cases hj : j < i
    · exact h3 j hj
    · rw [List.getElem?_eq_none (by omega), List.getElem?_eq_none (by omega)]
  | d + 1, i, y, k, h1, h2, h3, hk => by
    obtain ⟨k, rfl⟩ : ∃ m, k = m + 1 := ⟨k - 1, by omega⟩
    simp only [laws_toIntS.l0]
    rw [if_pos (by omega), if_pos (by omega), if_pos (by omega), next64 (by omega), rd_nat l i (by omega)]
    refine toIntS_l l hl d (i + 1) _ k (by omega) (by rw [List.length_set]; exact h2) (fun j hj => ?_) (by omega)
    rw [show ((i : Int).toNat) = i by omega, List.getElem?_set]
    by_cases e : i = j
    · subst e
      rw [if_pos rfl, if_pos (by omega), List.getElem?_eq_getElem (by omega)]
    · rw [if_neg e]
      exact h3 j (by omega)
theorem toIntS_val (l : List Int) (hl : l.length ≤ 1048576) (k : Nat) (hk : l.length < k) : laws_toIntS.f k l = some l := by
  unfold laws_toIntS.f
  rw [if_pos (by omega), if_pos (by omega)]
  exact toIntS_l l (by omega) l.length 0 _ k (by omega) (by rw [List.length_replicate]; omega) (fun j hj => absurd hj (by omega)) hk

theorem toIntSS_l (l : List (List Int)) (hl : l.length ≤ 1048576) (hi : ∀ x ∈ l, x.length ≤ 1048576) : ∀ (d i : Nat) (y : List (List Int)) (k : Nat), i + d = l.length → y.length = l.length → (∀ j, j < i → y[j]? = l[j]?) → d + 1048577 < k → laws_toIntSS.l0 k l y (i : Int) = some l
  | 0, i, y, k, h1, h2, h3, hk => by
    obtain ⟨k, rfl⟩ : ∃ m, k = m + 1 := ⟨k - 1, by omega⟩
    simp only [laws_toIntSS.l0]
    rw [if_neg (by omega)]
    congr 1
    apply List.ext_getElem?
    intro j
    by_cases hj : j < i
    · exact h3 j hj
    · rw [List.getElem?_eq_none (by omega), List.getElem?_eq_none (by omega)]
  | d + 1, i, y, k, h1, h2, h3, hk => by
    obtain ⟨k, rfl⟩ : ∃ m, k = m + 1 := ⟨k - 1, by omega⟩
    simp only [laws_toIntSS.l0]
    have hin := hi l[i] (List.getElem_mem _)
    rw [if_pos (by omega), if_pos (by omega), rdL_nat l i (by omega), toIntS_val l[i] hin k (by omega)]
    simp only [Option.bind_some]
    rw [if_pos (by omega), next64 (by omega)]
    refine toIntSS_l l hl hi d (i + 1) _ k (by omega) (by rw [List.length_set]; exact h2) (fun j hj => ?_) (by omega)
    rw [show ((i : Int).toNat) = i by omega, List.getElem?_set]
    by_cases e : i = j
    · subst e
      rw [if_pos rfl, if_pos (by omega), List.getElem?_eq_getElem (by omega)]
    · rw [if_neg e]
      exact h3 j (by omega)
theorem toIntSS_val (l : List (List Int)) (hl : l.length ≤ 1048576) (hi : ∀ x ∈ l, x.length ≤ 1048576) (k : Nat) (hk : 3000000 ≤ k) : laws_toIntSS.f k l = some l := by
  unfold laws_toIntSS.f
  rw [if_pos (by omega), if_pos (by omega)]
  exact toIntSS_l l hl hi l.length 0 _ k (by omega) (by rw [List.length_replicate]; omega) (fun j hj => absurd hj (by omega)) (by omega)

theorem eqIntS_l (l : List Int) (hl : l.length ≤ 4611686018427387904) : ∀ (d i k : Nat), i + d = l.length → d < k → laws_eqIntS.l0 k l l (i : Int) = some true
  | 0, i, k, h1, hk => by
    obtain ⟨k, rfl⟩ : ∃ m, k = m + 1 := ⟨k - 1, by omega⟩
    simp only [laws_eqIntS.l0]
    rw [if_neg (by omega)]
  | d + 1, i, k, h1, hk => by
    obtain ⟨k, rfl⟩ : ∃ m, k = m + 1 := ⟨k - 1, by omega⟩
    simp only [laws_eqIntS.l0]
    rw [if_pos (by omega), if_pos (by omega), if_pos (by omega), if_true, next64 (by omega)]
    exact eqIntS_l l hl d (i + 1) k (by omega) (by omega)
theorem eqIntS_val (l : List Int) (hl : l.length ≤ 4611686018427387904) (k : Nat) (hk : l.length < k) : laws_eqIntS.f k l l = some true := by
  unfold laws_eqIntS.f
  rw [if_pos rfl]
  exact eqIntS_l l hl l.length 0 k (by omega) hk

theorem eqIntSS_l (l : List (List Int)) (hl : l.length ≤ 1048576) (hi : ∀ x ∈ l, x.length ≤ 1048576) : ∀ (d i k : Nat), i + d = l.length → d + 1048577 < k → laws_eqIntSS.l0 k l l (i : Int) = some true
  | 0, i, k, h1, hk => by
    obtain ⟨k, rfl⟩ : ∃ m, k = m + 1 := ⟨k - 1, by omega⟩
    simp only [laws_eqIntSS.l0]
    rw [if_neg (by omega)]
  | d + 1, i, k, h1, hk => by
    obtain ⟨k, rfl⟩ : ∃ m, k = m + 1 := ⟨k - 1, by omega⟩
    simp only [laws_eqIntSS.l0]
    have hin := hi l[i] (List.getElem_mem _)
    rw [if_pos (by omega), if_pos (by omega), if_pos (by omega), rdL_nat l i (by omega), eqIntS_val l[i] (by omega) k (by omega)]
    simp only [Option.bind_some, if_true]
    rw [next64 (by omega)]
    exact eqIntSS_l l hl hi d (i + 1) k (by omega) (by omega)
theorem eqIntSS_val (l : List (List Int)) (hl : l.length ≤ 1048576) (hi : ∀ x ∈ l, x.length ≤ 1048576) (k : Nat) (hk : 3000000 ≤ k) : laws_eqIntSS.f k l l = some true := by
  unfold laws_eqIntSS.f
  rw [if_pos rfl]
  exact eqIntSS_l l hl hi l.length 0 k (by omega) (by omega)

theorem markIntS_l (a : Int) (ha : 0 ≤ a) (ha2 : a ≤ 4398046511104) : ∀ (d i : Nat) (y : List Int) (k : Nat), i + d = y.length → y.length ≤ 4398046511104 → (∀ j (hj : j < y.length), j < i → y[j] = a + j) → d < k →
    ∃ z : List Int, laws_markIntS.l0 k y (a + i) (i : Int) = some (a + y.length, z) ∧ z.length = y.length ∧ ∀ j (hj : j < z.length), z[j] = a + j
  | 0, i, y, k, h1, h2, h3, hk => by
    obtain ⟨k, rfl⟩ : ∃ m, k = m + 1 := ⟨k - 1, by omega⟩
    simp only [laws_markIntS.l0]
    rw [if_neg (by omega)]
    exact ⟨y, by rw [show (a + (i : Int)) = a + (y.length : Int) by omega], rfl, fun j hj => h3 j hj (by omega)⟩
  | d + 1, i, y, k, h1, h2, h3, hk => by
    obtain ⟨k, rfl⟩ : ∃ m, k = m + 1 := ⟨k - 1, by omega⟩
    simp only [laws_markIntS.l0]
    rw [if_pos (by omega), if_pos (by omega), next64 (by omega), w64 (by omega) (by omega), show a + (i : Int) + 1 = a + ((i + 1 : Nat) : Int) by omega, show ((i : Int).toNat) = i by omega]
    obtain ⟨z, hz, hzl, hze⟩ := markIntS_l a ha ha2 d (i + 1) (y.set i (a + i)) k (by rw [List.length_set]; omega) (by rw [List.length_set]; omega) (fun j hj hji => by
      rw [List.getElem_set]
      by_cases e : i = j
      · rw [if_pos e, e]
      · rw [if_neg e]
        exact h3 j (by rw [List.length_set] at hj; exact hj) (by omega)) (by omega)
    rw [List.length_set] at hz hzl
    exact ⟨z, hz, hzl, hze⟩
theorem heldIntS_l (a : Int) (ha : 0 ≤ a) (ha2 : a ≤ 4398046511104) (z : List Int) (hl : z.length ≤ 4398046511104) (hz : ∀ j (hj : j < z.length), z[j] = a + j) : ∀ (d i k : Nat), i + d = z.length → d < k → laws_heldIntS.l0 k z (a + i) (i : Int) = some (a + z.length)
  | 0, i, k, h1, hk => by
    obtain ⟨k, rfl⟩ : ∃ m, k = m + 1 := ⟨k - 1, by omega⟩
    simp only [laws_heldIntS.l0]
    rw [if_neg (by omega), show (a + (i : Int)) = a + (z.length : Int) by omega]
  | d + 1, i, k, h1, hk => by
    obtain ⟨k, rfl⟩ : ∃ m, k = m + 1 := ⟨k - 1, by omega⟩
    simp only [laws_heldIntS.l0]
    rw [if_pos (by omega), if_pos (by omega), rd_nat z i (by omega), if_pos (hz i (by omega)), next64 (by omega), w64 (by omega) (by omega), show a + (i : Int) + 1 = a + ((i + 1 : Nat) : Int) by omega]
    exact heldIntS_l a ha ha2 z hl hz d (i + 1) k (by omega) (by omega)
def markZ (a : Int) (n : Nat) : List Int := (List.range n).map fun (j : Nat) => a + (j : Int)
theorem markZ_length (a : Int) (n : Nat) : (markZ a n).length = n := by simp [markZ]
theorem markIntS_val (y : List Int) (a : Int) (ha : 0 ≤ a) (ha2 : a ≤ 4398046511104) (hl : y.length ≤ 4398046511104) (k : Nat) (hk : y.length < k) :
    laws_markIntS.f k y a = some (a + y.length, markZ a y.length) := by
  obtain ⟨z, h1, h2, h3⟩ := markIntS_l a ha ha2 y.length 0 y k (by omega) hl (fun j _ hj => absurd hj (by omega)) hk
  have hz : z = markZ a y.length := by
    apply List.ext_getElem (by rw [h2, markZ_length])
    intro j hj1 hj2
    rw [h3 j hj1]
    simp [markZ]
  rw [← hz]
  unfold laws_markIntS.f
  simpa using h1
theorem heldIntS_val (n : Nat) (a : Int) (ha : 0 ≤ a) (ha2 : a ≤ 4398046511104) (hn : n ≤ 4398046511104) (k : Nat) (hk : n < k) : laws_heldIntS.f k (markZ a n) a = some (a + n) := by
  have := heldIntS_l a ha ha2 (markZ a n) (by rw [markZ_length]; omega) (fun j hj => by simp [markZ]) (markZ a n).length 0 k (by omega) (by rw [markZ_length]; omega)
  rw [markZ_length] at this
  unfold laws_heldIntS.f
  simpa using this

def markZZ : Int → List (List Int) → List (List Int)
  | _, [] => []
  | a, x :: r => markZ a x.length :: markZZ (a + (x.length : Int)) r
def sumL : List (List Int) → Int
  | [] => 0
  | x :: r => (x.length : Int) + sumL r
theorem sumL_nonneg : ∀ l : List (List Int), 0 ≤ sumL l
  | [] => by simp [sumL]
  | x :: r => by
    have := sumL_nonneg r
    simp only [sumL]
    omega
theorem sumL_le (b : Nat) : ∀ l : List (List Int), (∀ x ∈ l, x.length ≤ b) → sumL l ≤ ((l.length * b : Nat) : Int)
  | [], _ => by simp [sumL]
  | x :: r, h => by
    have h1 := sumL_le b r (fun y hy => h y (List.mem_cons_of_mem _ hy))
    have h2 := h x List.mem_cons_self
    have h3 : (r.length + 1) * b = r.length * b + b := by rw [Nat.succ_mul]
    simp only [sumL, List.length_cons]
    omega
theorem sumL_small (l : List (List Int)) (hl : l.length ≤ 1048576) (hi : ∀ x ∈ l, x.length ≤ 1048576) : sumL l ≤ 1099511627776 := by
  have h1 := sumL_le 1048576 l hi
  have h2 : l.length * 1048576 ≤ 1048576 * 1048576 := Nat.mul_le_mul_right _ hl
  omega
theorem markIntSS_l : ∀ (rest done : List (List Int)) (a : Int) (k : Nat), 0 ≤ a → a + sumL rest ≤ 4398046511104 → done.length + rest.length ≤ 1048576 → (∀ x ∈ rest, x.length ≤ 1048576) → rest.length + 1048578 ≤ k →
    laws_markIntSS.l0 k (done ++ rest) a (done.length : Int) = some (a + sumL rest, done ++ markZZ a rest)
  | [], done, a, k, h0, h1, h2, h3, hk => by
    obtain ⟨k, rfl⟩ : ∃ m, k = m + 1 := ⟨k - 1, by omega⟩
    simp only [laws_markIntSS.l0, markZZ, sumL]
    rw [if_neg (by simp)]
    simp
  | x :: r, done, a, k, h0, h1, h2, h3, hk => by
    obtain ⟨k, rfl⟩ : ∃ m, k = m + 1 := ⟨k - 1, by omega⟩
    have hs := sumL_nonneg r
    have hx := h3 x List.mem_cons_self
    simp only [sumL] at h1
    simp only [List.length_cons] at h2 hk
    simp only [laws_markIntSS.l0]
    rw [if_pos (by simp only [List.length_append, List.length_cons]; omega), if_pos (by omega), show ((done.length : Int).toNat) = done.length by omega]
    rw [show (done ++ x :: r).getD done.length [] = x by simp]
    rw [markIntS_val x a h0 (by omega) (by omega) k (by omega)]
    simp only [Option.bind_some]
    rw [next64 (by omega), show (done ++ x :: r).set done.length (markZ a x.length) = (done ++ [markZ a x.length]) ++ r by simp]
    have := markIntSS_l r (done ++ [markZ a x.length]) (a + x.length) k (by omega) (by omega) (by simp only [List.length_append, List.length_cons, List.length_nil]; omega) (fun y hy => h3 y (List.mem_cons_of_mem _ hy)) (by omega)
    rw [show (((done ++ [markZ a x.length]).length : Nat) : Int) = ((done.length + 1 : Nat) : Int) by simp] at this
    rw [this]
    simp only [sumL, markZZ, List.append_assoc, List.singleton_append, Int.add_assoc]
theorem markIntSS_val (l : List (List Int)) (hl : l.length ≤ 1048576) (hi : ∀ x ∈ l, x.length ≤ 1048576) (a : Int) (h0 : 0 ≤ a) (h1 : a ≤ 1099511627776) (k : Nat) (hk : 3000000 ≤ k) : laws_markIntSS.f k l a = some (a + sumL l, markZZ a l) := by
  have := markIntSS_l l [] a k h0 (by have := sumL_small l hl hi; omega) (by simpa using hl) hi (by omega)
  unfold laws_markIntSS.f
  simpa using this
theorem markIntSS_gen (l : List (List Int)) (hl : l.length ≤ 1048576) (hi : ∀ x ∈ l, x.length ≤ 1048576) (a : Int) (h0 : 0 ≤ a) (h1 : a ≤ 1099511627777) (k : Nat) (hk : 3000000 ≤ k) : laws_markIntSS.f k l a = some (a + sumL l, markZZ a l) := by
  have := markIntSS_l l [] a k h0 (by have := sumL_small l hl hi; omega) (by simpa using hl) hi (by omega)
  unfold laws_markIntSS.f
  simpa using this

theorem heldIntSS_l : ∀ (rest done : List (List Int)) (a : Int) (k : Nat), 0 ≤ a → a + sumL rest ≤ 4398046511104 → done.length + rest.length ≤ 1048576 → (∀ x ∈ rest, x.length ≤ 1048576) → rest.length + 1048578 ≤ k →
    laws_heldIntSS.l0 k (done ++ markZZ a rest) a (done.length : Int) = some (a + sumL rest)
  | [], done, a, k, h0, h1, h2, h3, hk => by
    obtain ⟨k, rfl⟩ : ∃ m, k = m + 1 := ⟨k - 1, by omega⟩
    show laws_heldIntSS.l0 (k + 1) (done ++ []) a (done.length : Int) = some (a + 0)
    rw [List.append_nil, Int.add_zero]
    simp only [laws_heldIntSS.l0]
    rw [if_neg (by omega)]
  | x :: r, done, a, k, h0, h1, h2, h3, hk => by
    obtain ⟨k, rfl⟩ : ∃ m, k = m + 1 := ⟨k - 1, by omega⟩
    have hs := sumL_nonneg r
    have hx := h3 x List.mem_cons_self
    simp only [sumL] at h1
    simp only [List.length_cons] at h2 hk
    show laws_heldIntSS.l0 (k + 1) (done ++ markZ a x.length :: markZZ (a + (x.length : Int)) r) a (done.length : Int) = _
    simp only [laws_heldIntSS.l0]
    rw [if_pos (by simp only [List.length_append, List.length_cons]; omega), if_pos (by omega)]
    rw [show rd_L1 (done ++ markZ a x.length :: markZZ (a + (x.length : Int)) r) (done.length : Int) = markZ a x.length by simp [rd_L1]]
    rw [heldIntS_val x.length a h0 (by omega) (by omega) k (by omega)]
    simp only [Option.bind_some]
    rw [if_neg (by omega), next64 (by omega)]
    have := heldIntSS_l r (done ++ [markZ a x.length]) (a + x.length) k (by omega) (by omega) (by simp only [List.length_append, List.length_cons, List.length_nil]; omega) (fun y hy => h3 y (List.mem_cons_of_mem _ hy)) (by omega)
    rw [show (((done ++ [markZ a x.length]).length : Nat) : Int) = ((done.length + 1 : Nat) : Int) by simp, show (done ++ [markZ a x.length]) ++ markZZ (a + (x.length : Int)) r = done ++ markZ a x.length :: markZZ (a + (x.length : Int)) r by simp] at this
    rw [this]
    simp only [sumL, Int.add_assoc]
theorem heldIntSS_val (l : List (List Int)) (hl : l.length ≤ 1048576) (hi : ∀ x ∈ l, x.length ≤ 1048576) (a : Int) (h0 : 0 ≤ a) (h1 : a ≤ 1099511627776) (k : Nat) (hk : 3000000 ≤ k) : laws_heldIntSS.f k (markZZ a l) a = some (a + sumL l) := by
  have := heldIntSS_l l [] a k h0 (by have := sumL_small l hl hi; omega) (by simpa using hl) hi (by omega)
  unfold laws_heldIntSS.f
  simpa using this


theorem any_flip (l : List Int) (a : Int) : (l.any fun y => a == y) = l.any (· == a) := by
  congr 1
  funext y
  rw [Bool.eq_iff_iff]
  simp only [beq_iff_eq]
  exact eq_comm

def hasB (l : List Int) (n : Int) : Bool := l.any (· == n)

theorem meets_cons (x : Int) (r out : List Int) : meetsB (x :: r) out = (hasB out x || meetsB r out) := by
  unfold meetsB hasB
  rw [List.any_cons, any_flip]
theorem without_cons (x : Int) (r out : List Int) : withoutL (x :: r) out = if hasB out (wrap64 (-x)) = true then withoutL r out else x :: withoutL r out := by
  unfold withoutL hasB
  rw [List.filter_cons, any_flip]
  cases out.any (· == wrap64 (-x)) <;> simp

theorem drop_at (l : List Int) (i : Nat) (h : i < l.length) : l.drop i = l[i] :: l.drop (i + 1) := List.drop_eq_getElem_cons h
theorem has_l (l : List Int) (x : Int) (hl : l.length ≤ 1099511627776) : ∀ (d i k : Nat), i + d = l.length → d < k → spec_l1Has.l0 k x l (l.length : Int) (i : Int) = some ((l.drop i).any (· == x))
  | 0, i, k, h1, hk => by
    obtain ⟨k, rfl⟩ : ∃ m, k = m + 1 := ⟨k - 1, by omega⟩
    simp only [spec_l1Has.l0]
    rw [if_neg (by omega), List.drop_of_length_le (by omega)]
    rfl
  | d + 1, i, k, h1, hk => by
    obtain ⟨k, rfl⟩ : ∃ m, k = m + 1 := ⟨k - 1, by omega⟩
    simp only [spec_l1Has.l0]
    rw [if_pos (by omega), if_pos (by omega), if_pos (by omega), rd_nat l i (by omega), next64 (by omega), drop_at l i (by omega)]
    by_cases e : l[i] = x
    · rw [if_pos e]
      rw [List.any_cons, show (l[i] == x) = true by simpa using e, Bool.true_or]
    · rw [if_neg e, has_l l x hl d (i + 1) k (by omega) (by omega), List.any_cons, show (l[i] == x) = false by simpa using e, Bool.false_or]
theorem has_val (l : List Int) (x : Int) (hl : l.length ≤ 1099511627776) (k : Nat) (hk : l.length < k) : spec_l1Has.f k l x = some (l.any (· == x)) := by
  unfold spec_l1Has.f
  have := has_l l x hl l.length 0 k (by omega) hk
  simpa using this

theorem specIn_val (n a b : Int) : spec_l1In.f n a b = some (decide (a ≤ n) && decide (n ≤ b)) := by
  unfold spec_l1In.f
  by_cases h : n ≥ a
  · rw [if_pos h]
    simp [h]
  · rw [if_neg h]
    simp [h]
theorem neg64 {n : Int} (h0 : -4611686018427387904 ≤ n) (h1 : n ≤ 4611686018427387904) : wrap64 (-n) = -n := w64 (by omega) (by omega)
theorem vab_small {n : Int} (h0 : -12 ≤ n) (h1 : n ≤ 12) : vab n = if n < -n then -n else n := by
  unfold vab
  rw [neg64 (by omega) (by omega)]
theorem vab_eq {n m : Int} (h0 : -12 ≤ n) (h1 : n ≤ 12) (h2 : -12 ≤ m) (h3 : m ≤ 12) : (vab n == vab m) = ((n == m) || (n == -m)) := by
  rw [vab_small h0 h1, vab_small h2 h3, Bool.eq_iff_iff]
  simp only [beq_iff_eq, Bool.or_eq_true]
  split <;> split <;> omega
theorem litB_small {n v : Int} (h0 : 0 ≤ v) (h1 : v ≤ 12) (h : litB n v = true) : n ≠ 0 ∧ -v ≤ n ∧ n ≤ v := by
  unfold litB at h
  rw [neg64 (by omega) (by omega)] at h
  simpa [Bool.and_eq_true] using h
theorem any_vab (l : List Int) (m : Int) (h2 : -12 ≤ m) (h3 : m ≤ 12) (hl : ∀ x ∈ l, -12 ≤ x ∧ x ≤ 12) : (l.any fun k => vab k == vab m) = (l.any (· == m) || l.any (· == -m)) := by
  induction l with
  | nil => rfl
  | cons a l ih =>
    have ha := hl a List.mem_cons_self
    rw [List.any_cons, List.any_cons, List.any_cons, ih (fun x hx => hl x (List.mem_cons_of_mem _ hx)), vab_eq ha.1 ha.2 h2 h3]
    cases (a == m) <;> cases (a == -m) <;> cases l.any (· == m) <;> simp

theorem clause_l (v : Int) (hv0 : 0 ≤ v) (hv1 : v ≤ 12) (l : List Int) (hl : l.length ≤ 1099511627776) : ∀ (d i k : Nat), i + d = l.length → (∀ x ∈ l.take i, -12 ≤ x ∧ x ≤ 12) → d + l.length + 1 < k →
    spec_l4Clause.l0 k v l l (l.length : Int) (i : Int) = some (clauseFrom v (l.take i) (l.drop i) && decide (l.length ≤ 12))
  | 0, i, k, h1, hs, hk => by
    obtain ⟨k, rfl⟩ : ∃ m, k = m + 1 := ⟨k - 1, by omega⟩
    simp only [spec_l4Clause.l0]
    rw [if_neg (by omega), List.drop_of_length_le (by omega)]
    simp only [clauseFrom, Bool.true_and]
    congr 2
    exact propext (by omega)
  | d + 1, i, k, h1, hs, hk => by
    obtain ⟨k, rfl⟩ : ∃ m, k = m + 1 := ⟨k - 1, by omega⟩
    have hil : i < l.length := by omega
    have ht : (l.take i).length = i := by rw [List.length_take]; omega
    simp only [spec_l4Clause.l0]
    rw [if_pos (by omega), if_pos (by omega), if_pos (by omega), rd_nat l i hil, next64 (by omega), drop_at l i hil, show ((i : Int).toNat) = i by omega, if_pos (show (i : Int) ≤ (l.length : Int) by omega)]
    simp only [clauseFrom]
    by_cases e0 : l[i] = 0
    · rw [if_pos e0]
      have : litB l[i] v = false := by unfold litB; simp [e0]
      rw [this]
      rfl
    · rw [if_neg e0, specIn_val]
      simp only [Option.bind_some]
      have hlit : litB l[i] v = (decide (wrap64 (-v) ≤ l[i]) && decide (l[i] ≤ v)) := by unfold litB; simp [e0]
      rw [← hlit]
      cases hb : litB l[i] v with
      | false => rfl
      | true =>
        obtain ⟨_, h4, h5⟩ := litB_small hv0 hv1 hb
        rw [if_pos rfl, has_val _ _ (by omega) _ (by omega), neg64 (by omega) (by omega), has_val _ _ (by omega) _ (by omega), any_vab _ _ (by omega) (by omega) hs]
        simp only [Option.bind_some]
        cases (l.take i).any (· == l[i]) with
        | true => rfl
        | false =>
          cases (l.take i).any (· == -l[i]) with
          | true => rfl
          | false =>
            have hst : l.take (i + 1) = l.take i ++ [l[i]] := List.take_succ_eq_append_getElem hil
            have := clause_l v hv0 hv1 l hl d (i + 1) k (by omega) (fun x hx => by
              rw [hst] at hx
              rcases List.mem_append.1 hx with hx | hx
              · exact hs x hx
              · rw [List.mem_singleton.1 hx]
                omega) (by omega)
            rw [hst] at this
            simp only [Bool.false_eq_true, if_false, Bool.or_false, Bool.not_false, Bool.true_and]
            exact this
theorem clause_val (v : Int) (hv0 : 0 ≤ v) (hv1 : v ≤ 12) (l : List Int) (hl : l.length ≤ 1048576) (k : Nat) (hk : 3000000 ≤ k) : spec_l4Clause.f k v l = some (isClauseB l v) := by
  unfold spec_l4Clause.f isClauseB
  have := clause_l v hv0 hv1 l (by omega) l.length 0 k (by omega) (by simp) (by omega)
  simpa using this

def goodB (v : Int) (l : List (List Int)) : Bool := (decide (0 ≤ v) && decide (v ≤ 12)) && (decide (l.length ≤ 60) && l.all fun x => isClauseB x v)
theorem good_l (v : Int) (hv0 : 0 ≤ v) (hv1 : v ≤ 12) (l : List (List Int)) (hl : l.length ≤ 1048576) (hi : ∀ x ∈ l, x.length ≤ 1048576) : ∀ (d i k : Nat), i + d = l.length → d + 3000001 ≤ k → spec_l4Good.l0 k v l (l.length : Int) (i : Int) = some ((l.drop i).all fun x => isClauseB x v)
  | 0, i, k, h1, hk => by
    obtain ⟨k, rfl⟩ : ∃ m, k = m + 1 := ⟨k - 1, by omega⟩
    simp only [spec_l4Good.l0]
    rw [if_neg (by omega), List.drop_of_length_le (by omega)]
    rfl
  | d + 1, i, k, h1, hk => by
    obtain ⟨k, rfl⟩ : ∃ m, k = m + 1 := ⟨k - 1, by omega⟩
    have hil : i < l.length := by omega
    simp only [spec_l4Good.l0]
    rw [if_pos (by omega), if_pos (by omega), if_pos (by omega), rdL_nat l i hil, next64 (by omega), clause_val v hv0 hv1 l[i] (hi _ (List.getElem_mem _)) k (by omega), List.drop_eq_getElem_cons hil, List.all_cons]
    simp only [Option.bind_some]
    cases isClauseB l[i] v with
    | false => rfl
    | true =>
      first | rw [if_pos rfl] | rw [if_true]
      rw [good_l v hv0 hv1 l hl hi d (i + 1) k (by omega) (by omega)]
      rfl
theorem specGood_val (v : Int) (l : List (List Int)) (hl : l.length ≤ 1048576) (hi : ∀ x ∈ l, x.length ≤ 1048576) (k : Nat) (hk : 5000000 ≤ k) : spec_GoodClauses.f k v l = some (goodB v l) := by
  obtain ⟨k, rfl⟩ : ∃ m, k = m + 1 := ⟨k - 1, by omega⟩
  unfold spec_GoodClauses.f spec_l4Good.f goodB
  rw [specIn_val]
  simp only [Option.bind_some, spec_l4Good.j0]
  by_cases hv : 0 ≤ v ∧ v ≤ 12
  · rw [show (decide (0 ≤ v) && decide (v ≤ 12)) = true by simp [hv.1, hv.2], if_pos rfl]
    by_cases h60 : l.length ≤ 60
    · have : decide ((l.length : Int) > 60) = false := decide_eq_false (by omega)
      rw [this, if_neg Bool.false_ne_true]
      have h := good_l v hv.1 hv.2 l hl hi l.length 0 k (by omega) (by omega)
      simp only [List.drop_zero] at h
      rw [show ((0 : Nat) : Int) = 0 from rfl] at h
      rw [h]
      simp [h60]
    · have : decide ((l.length : Int) > 60) = true := decide_eq_true (by omega)
      rw [this]
      first | rw [if_pos rfl] | rw [if_true]
      simp [h60]
  · have hd : (decide (0 ≤ v) && decide (v ≤ 12)) = false := by
      rw [Bool.and_eq_false_iff]
      rcases Int.lt_or_le v 0 with h | h
      · exact .inl (decide_eq_false (by omega))
      · exact .inr (decide_eq_false (by omega))
    rw [hd, if_neg Bool.false_ne_true]
    first | rw [if_pos rfl] | rw [if_true]
    rfl
theorem implIn_val (n a b : Int) : impl_in.f n a b = some (decide (a ≤ n) && decide (n ≤ b)) := by
  unfold impl_in.f
  by_cases h : n ≥ a
  · rw [if_pos h]
    simp [h]
  · rw [if_neg h]
    simp [h]
theorem implGood_val (v : Int) (l : List (List Int)) : impl_GoodClauses.f v l = some (goodB v l) := by
  unfold impl_GoodClauses.f impl_areClauses.f goodB
  rw [implIn_val]
  simp only [Option.bind_some]
  cases (decide (0 ≤ v) && decide (v ≤ 12)) with
  | false => rfl
  | true =>
    first | rw [if_pos rfl] | rw [if_true]
    by_cases h60 : l.length ≤ 60
    · rw [if_pos (by omega)]
      simp [h60, List.all_eq_not_any_not]
    · rw [if_neg (by omega)]
      simp [h60]
theorem goodB_facts {v : Int} {l : List (List Int)} (h : goodB v l = true) : 0 ≤ v ∧ v ≤ 12 ∧ l.length ≤ 60 ∧ ∀ x ∈ l, isClauseB x v = true := by
  unfold goodB at h
  simp only [Bool.and_eq_true, decide_eq_true_eq, List.all_eq_true] at h
  exact ⟨h.1.1, h.1.2, h.2.1, h.2.2⟩

theorem clause_lits (v : Int) : ∀ (l seen : List Int), clauseFrom v seen l = true → ∀ n ∈ l, litB n v = true
  | [], _, _, n, hn => by simp at hn
  | a :: r, seen, h, n, hn => by
    unfold clauseFrom at h
    simp only [Bool.and_eq_true] at h
    rcases List.mem_cons.1 hn with rfl | hn
    · exact h.1
    · exact clause_lits v r _ h.2.2 n hn
theorem isClause_facts {v : Int} {c : List Int} (h : isClauseB c v = true) : c.length ≤ 12 ∧ ∀ n ∈ c, litB n v = true := by
  unfold isClauseB at h
  simp only [Bool.and_eq_true, decide_eq_true_eq] at h
  exact ⟨h.2, clause_lits v c [] h.1⟩

theorem goodB_lits {v : Int} {l : List (List Int)} (h : goodB v l = true) : ∀ c ∈ l, c.length ≤ 12 ∧ ∀ n ∈ c, n ≠ 0 ∧ -v ≤ n ∧ n ≤ v := by
  obtain ⟨h0, h1, _, h2⟩ := goodB_facts h
  intro c hc
  obtain ⟨a, b⟩ := isClause_facts (h2 c hc)
  exact ⟨a, fun n hn => litB_small h0 h1 (b n hn)⟩

theorem filter_lt {α : Type} (p q : α → Bool) : ∀ (l : List α), (∀ a, q a = true → p a = true) → (∃ a ∈ l, p a = true ∧ q a = false) → (l.filter q).length < (l.filter p).length
  | [], _, ⟨a, ha, _⟩ => by simp at ha
  | b :: l, h, ⟨a, ha, hp, hq⟩ => by
    have hle : ∀ l : List α, (l.filter q).length ≤ (l.filter p).length := by
      intro l
      induction l with
      | nil => simp
      | cons c l ih =>
        cases hqc : q c with
        | true =>
          rw [List.filter_cons_of_pos hqc, List.filter_cons_of_pos (h c hqc)]
          simpa using ih
        | false =>
          rw [List.filter_cons_of_neg (by simp [hqc])]
          cases hpc : p c with
          | true =>
            rw [List.filter_cons_of_pos hpc]
            simp
            omega
          | false =>
            rw [List.filter_cons_of_neg (by simp [hpc])]
            exact ih
    rcases List.mem_cons.1 ha with rfl | ha
    · rw [List.filter_cons_of_neg (by simp [hq]), List.filter_cons_of_pos hp]
      have := hle l
      simp
      omega
    · have ih := filter_lt p q l h ⟨a, ha, hp, hq⟩
      cases hqb : q b with
      | true =>
        rw [List.filter_cons_of_pos hqb, List.filter_cons_of_pos (h b hqb)]
        simpa using ih
      | false =>
        rw [List.filter_cons_of_neg (by simp [hqb])]
        cases hpb : p b with
        | true =>
          rw [List.filter_cons_of_pos hpb]
          simp
          omega
        | false =>
          rw [List.filter_cons_of_neg (by simp [hpb])]
          exact ih
theorem hasB_app (l : List Int) (x n : Int) : hasB (l ++ [x]) n = (hasB l n || x == n) := by simp [hasB]
/-- The variables (less 1) of which no literal is there. -/
def freeV (out : List Int) : Nat := ((List.range 12).filter fun (i : Nat) => !(hasB out ((i : Int) + 1) || hasB out (-((i : Int) + 1)))).length
theorem freeV_lt (out : List Int) (x : Int) (h0 : x ≠ 0) (h1 : -12 ≤ x) (h2 : x ≤ 12) (h3 : hasB out x = false) (h4 : hasB out (-x) = false) : freeV (out ++ [x]) < freeV out := by
  unfold freeV
  refine filter_lt _ _ _ (fun i hi => ?_) ⟨x.natAbs - 1, by rw [List.mem_range]; omega, ?_, ?_⟩
  · simp only [hasB_app] at hi
    cases ha : hasB out ((i : Int) + 1) <;> cases hb : hasB out (-((i : Int) + 1)) <;> simp_all
  · rcases Int.lt_or_le x 0 with h | h
    · have e : ((x.natAbs - 1 : Nat) : Int) + 1 = -x := by omega
      rw [e, h4, Int.neg_neg, h3]
      rfl
    · have e : ((x.natAbs - 1 : Nat) : Int) + 1 = x := by omega
      rw [e, h3, h4]
      rfl
  · simp only [hasB_app]
    rcases Int.lt_or_le x 0 with h | h
    · have e : ((x.natAbs - 1 : Nat) : Int) + 1 = -x := by omega
      rw [e, Int.neg_neg]
      simp
    · have e : ((x.natAbs - 1 : Nat) : Int) + 1 = x := by omega
      rw [e]
      simp
theorem freeV_le (out : List Int) : freeV out ≤ 12 := by
  unfold freeV
  exact Nat.le_trans (List.length_filter_le _ _) (by simp)
def unitS (out : List Int) : Int → Int → List Int → Int × Bool
  | left, many, [] => if many = 0 then (0, true) else if many = 1 then (left, false) else (0, false)
  | left, many, x :: r => if hasB out x = true then (0, false) else if hasB out (wrap64 (-x)) = true then unitS out left many r else unitS out x (many + 1) r
def unitP (out c : List Int) : Int × Bool := if meetsB c out = true then (0, false) else match withoutL c out with | [] => (0, true) | [x] => (x, false) | _ => (0, false)
theorem unitS_val (out : List Int) : ∀ (r : List Int) (left many : Int), 0 ≤ many → unitS out left many r = if meetsB r out = true then (0, false) else
    if many + ((withoutL r out).length : Int) = 0 then (0, true) else if many + ((withoutL r out).length : Int) = 1 then ((withoutL r out).getLast?.getD left, false) else (0, false)
  | [], left, many, h => by
    unfold unitS
    simp [meetsB, withoutL]
  | x :: r, left, many, h => by
    unfold unitS
    rw [meets_cons, without_cons]
    cases hasB out x with
    | true => simp
    | false =>
      rw [if_neg Bool.false_ne_true, Bool.false_or]
      cases hasB out (wrap64 (-x)) with
      | true =>
        simp only [if_true]
        exact unitS_val out r left many h
      | false =>
        rw [if_neg Bool.false_ne_true, if_neg Bool.false_ne_true, unitS_val out r x (many + 1) (by omega)]
        have e1 : ((x :: withoutL r out).length : Int) = ((withoutL r out).length : Int) + 1 := by simp
        rw [e1, show many + 1 + ((withoutL r out).length : Int) = many + (((withoutL r out).length : Int) + 1) by omega]
        cases hL : withoutL r out with
        | nil => simp
        | cons y t => simp [List.getLast?_cons]
theorem unitS_P (out c : List Int) : unitS out 0 0 c = unitP out c := by
  rw [unitS_val out c 0 0 (by omega)]
  unfold unitP
  cases meetsB c out with
  | true => rfl
  | false =>
    rw [if_neg Bool.false_ne_true, if_neg Bool.false_ne_true]
    match h : withoutL c out with
    | [] => simp
    | [x] => simp
    | x :: y :: t =>
      rw [if_neg (by simp; omega), if_neg (by simp; omega)]
theorem specUnit_l (out c : List Int) (ho : out.length ≤ 100000) (hc : c.length ≤ 1000) : ∀ (d j k : Nat) (left : Int) (many : Nat), j + d = c.length → many ≤ j → d + 200000 ≤ k → spec_l4Unit.l0 k out left (many : Int) c (c.length : Int) (j : Int) = some (unitS out left (many : Int) (c.drop j))
  | 0, j, k, left, many, h1, h2, hk => by
    obtain ⟨k, rfl⟩ : ∃ m, k = m + 1 := ⟨k - 1, by omega⟩
    simp only [spec_l4Unit.l0]
    rw [if_neg (by omega), List.drop_of_length_le (by omega)]
    unfold unitS
    split
    · rfl
    · split
      · rfl
      · rfl
  | d + 1, j, k, left, many, h1, h2, hk => by
    obtain ⟨k, rfl⟩ : ∃ m, k = m + 1 := ⟨k - 1, by omega⟩
    have hj : j < c.length := by omega
    simp only [spec_l4Unit.l0]
    rw [if_pos (by omega), if_pos (by omega), if_pos (by omega), rd_nat c j hj, next64 (by omega), has_val out _ (by omega) k (by omega), has_val out _ (by omega) k (by omega), drop_at c j hj]
    unfold unitS hasB
    simp only [Option.bind_some]
    cases out.any (· == c[j]) with
    | true => rfl
    | false =>
      rw [if_neg Bool.false_ne_true, if_neg Bool.false_ne_true]
      cases out.any (· == wrap64 (-c[j])) with
      | true =>
        simp only [if_true]
        exact specUnit_l out c ho hc d (j + 1) k left many (by omega) (by omega) (by omega)
      | false =>
        rw [if_neg Bool.false_ne_true, if_neg Bool.false_ne_true, next64 (by omega)]
        exact specUnit_l out c ho hc d (j + 1) k c[j] (many + 1) (by omega) (by omega) (by omega)
theorem specUnit_val (out c : List Int) (ho : out.length ≤ 100000) (hc : c.length ≤ 1000) (k : Nat) (hk : 300000 ≤ k) : spec_l4Unit.f k c out = some (unitP out c) := by
  unfold spec_l4Unit.f
  have := specUnit_l out c ho hc c.length 0 k 0 0 (by omega) (by omega) (by omega)
  rw [show ((0 : Nat) : Int) = 0 from rfl, List.drop_zero, unitS_P] at this
  exact this
/-- What one run through the clauses finds: nothing, a clause that is falsified, a literal. -/
def scanC (out : List Int) : List (List Int) → Option (Option Int)
  | [] => none
  | c :: r => if (unitP out c).2 = true then some none else if (unitP out c).1 = 0 then scanC out r else some (some (unitP out c).1)
def propL (l : List (List Int)) : Nat → List Int → List Int × Bool
  | 0, out => (out, false)
  | f + 1, out => match scanC out l with | none => (out, false) | some none => (out, true) | some (some x) => propL l f (out ++ [x])
def LitsOk (l : List (List Int)) : Prop := ∀ c ∈ l, c.length ≤ 1000 ∧ ∀ n ∈ c, n ≠ 0 ∧ -12 ≤ n ∧ n ≤ 12
theorem unitP_lit (out c : List Int) (hc : ∀ n ∈ c, n ≠ 0 ∧ -12 ≤ n ∧ n ≤ 12) (h : (unitP out c).1 ≠ 0) : (unitP out c).2 = false ∧ (unitP out c).1 ∈ c ∧ hasB out (unitP out c).1 = false ∧ hasB out (-(unitP out c).1) = false := by
  unfold unitP at h ⊢
  cases hm : meetsB c out with
  | true => rw [hm] at h; simp at h
  | false =>
    rw [hm] at h
    rw [if_neg Bool.false_ne_true] at h ⊢
    match hw : withoutL c out with
    | [] => rw [hw] at h; simp at h
    | x :: y :: t => rw [hw] at h; simp at h
    | [x] =>
      have hx : x ∈ withoutL c out := by rw [hw]; simp
      unfold withoutL at hx
      rw [List.mem_filter, any_flip] at hx
      obtain ⟨h1, h2⟩ := hx
      obtain ⟨_, b1, b2⟩ := hc x h1
      rw [neg64 (by omega) (by omega)] at h2
      refine ⟨rfl, h1, ?_, by simpa [hasB] using h2⟩
      unfold meetsB at hm
      have := List.any_eq_false.1 hm x h1
      rw [any_flip] at this
      exact Bool.eq_false_iff.mpr this
theorem scan_lit (out : List Int) : ∀ (l : List (List Int)) (x : Int), LitsOk l → scanC out l = some (some x) → x ≠ 0 ∧ -12 ≤ x ∧ x ≤ 12 ∧ hasB out x = false ∧ hasB out (-x) = false
  | [], x, _, h => by simp [scanC] at h
  | c :: r, x, hl, h => by
    unfold scanC at h
    have hc := (hl c List.mem_cons_self).2
    split at h
    · simp at h
    · split at h
      · exact scan_lit out r x (fun c' h' => hl c' (List.mem_cons_of_mem _ h')) h
      · rename_i h2
        injection h with h
        injection h with h
        subst h
        obtain ⟨_, hm, h3, h4⟩ := unitP_lit out c hc h2
        obtain ⟨a, b, d⟩ := hc _ hm
        exact ⟨a, b, d, h3, h4⟩
theorem prop_same (l : List (List Int)) (hl : LitsOk l) : ∀ (f f' : Nat) (out : List Int), freeV out < f → freeV out < f' → propL l f out = propL l f' out
  | 0, _, _, h, _ => by omega
  | _ + 1, 0, _, _, h => by omega
  | f + 1, f' + 1, out, h, h' => by
    unfold propL
    match hs : scanC out l with
    | none => rfl
    | some none => rfl
    | some (some x) =>
      obtain ⟨a, b, c, d, e⟩ := scan_lit out l x hl hs
      have := freeV_lt out x a b c d e
      exact prop_same l hl f f' _ (by omega) (by omega)
/-- The place of the clause at which a run ends. -/
def scanAt (out : List Int) : List (List Int) → Nat
  | [] => 0
  | c :: r => if (unitP out c).2 = true then 0 else if (unitP out c).1 = 0 then scanAt out r + 1 else 0
theorem specProp_scan (l : List (List Int)) (hl : LitsOk l) (hn : l.length ≤ 1048576) (out : List Int) (ho : out.length ≤ 100000) : ∀ (d i k : Nat), i + d = l.length → 300001 + d ≤ k →
    ∃ j, k - d - 1 ≤ j ∧ j < k ∧ spec_l4Propagate.l1 k l out false l (l.length : Int) (i : Int) = match scanC out (l.drop i) with | none => spec_l4Propagate.l0 j l out false | some none => some (out, true) | some (some x) => spec_l4Propagate.l0 j l (out ++ [x]) true
  | 0, i, k, h1, hk => by
    obtain ⟨k, rfl⟩ : ∃ m, k = m + 1 := ⟨k - 1, by omega⟩
    simp only [spec_l4Propagate.l1]
    rw [if_neg (by omega), List.drop_of_length_le (by omega)]
    exact ⟨k, by omega, by omega, rfl⟩
  | d + 1, i, k, h1, hk => by
    obtain ⟨k, rfl⟩ : ∃ m, k = m + 1 := ⟨k - 1, by omega⟩
    have hil : i < l.length := by omega
    obtain ⟨c1, c2⟩ := hl l[i] (List.getElem_mem _)
    simp only [spec_l4Propagate.l1]
    rw [if_pos (by omega), if_pos (by omega), if_pos (by omega), rdL_nat l i hil, next64 (by omega), specUnit_val out l[i] ho c1 k (by omega), List.drop_eq_getElem_cons hil]
    unfold scanC
    simp only [Option.bind_some]
    by_cases hb : (unitP out l[i]).2 = true
    · rw [if_pos hb, if_pos hb]
      exact ⟨k, by omega, by omega, rfl⟩
    · rw [if_neg hb, if_neg hb]
      by_cases h0 : (unitP out l[i]).1 = 0
      · rw [if_pos h0, if_pos h0]
        obtain ⟨j, hj1, hj2, hj⟩ := specProp_scan l hl hn out ho d (i + 1) k (by omega) (by omega)
        exact ⟨j, by omega, by omega, hj⟩
      · rw [if_neg h0, if_neg h0, if_pos (by omega)]
        exact ⟨k, by omega, by omega, rfl⟩
theorem specProp_l (l : List (List Int)) (hl : LitsOk l) (hn : l.length ≤ 1048576) : ∀ (f : Nat) (out : List Int) (k : Nat), freeV out < f → out.length + f ≤ 100000 → f * (l.length + 3) + 300010 ≤ k → spec_l4Propagate.l0 k l out true = some (propL l f out)
  | 0, _, _, h, _, _ => by omega
  | f + 1, out, k, h, ho, hk => by
    obtain ⟨k, rfl⟩ : ∃ m, k = m + 1 := ⟨k - 1, by omega⟩
    have hm : (f + 1) * (l.length + 3) = f * (l.length + 3) + (l.length + 3) := Nat.succ_mul _ _
    simp only [spec_l4Propagate.l0, if_true]
    obtain ⟨j, hj1, hj2, hj⟩ := specProp_scan l hl hn out (by omega) l.length 0 k (by omega) (by omega)
    rw [show ((0 : Nat) : Int) = 0 from rfl, List.drop_zero] at hj
    rw [hj]
    unfold propL
    match hs : scanC out l with
    | none =>
      obtain ⟨j', rfl⟩ : ∃ m, j = m + 1 := ⟨j - 1, by omega⟩
      simp [spec_l4Propagate.l0]
    | some none => rfl
    | some (some x) =>
      obtain ⟨a, b, c, d, e⟩ := scan_lit out l x hl hs
      have := freeV_lt out x a b c d e
      exact specProp_l l hl hn f (out ++ [x]) j (by omega) (by simp; omega) (by omega)
theorem implProp_scan (l : List (List Int)) (hl : LitsOk l) (hn : l.length ≤ 1048576) (out : List Int) (ho : out.length ≤ 100000) : ∀ (d i k : Nat), i + d = l.length → 1 + d ≤ k →
    ∃ j, k - d - 1 ≤ j ∧ j < k ∧ impl_propagate.l1 k l out false l (l.length : Int) (i : Int) = match scanC out (l.drop i) with | none => some (out, false) | some none => some (out, true) | some (some x) => impl_propagate.l0 j l (out ++ [x])
  | 0, i, k, h1, hk => by
    obtain ⟨k, rfl⟩ : ∃ m, k = m + 1 := ⟨k - 1, by omega⟩
    simp only [impl_propagate.l1]
    rw [if_neg (by omega), List.drop_of_length_le (by omega), if_neg Bool.false_ne_true]
    exact ⟨k, by omega, by omega, rfl⟩
  | d + 1, i, k, h1, hk => by
    obtain ⟨k, rfl⟩ : ∃ m, k = m + 1 := ⟨k - 1, by omega⟩
    have hil : i < l.length := by omega
    obtain ⟨c1, c2⟩ := hl l[i] (List.getElem_mem _)
    obtain ⟨j, hj1, hj2, hj⟩ := implProp_scan l hl hn out ho d (i + 1) k (by omega) (by omega)
    simp only [impl_propagate.l1, impl_meets.f, impl_without.f]
    rw [if_pos (by omega), if_pos (by omega), if_pos (by omega), rdL_nat l i hil, next64 (by omega), if_pos (by omega), List.drop_eq_getElem_cons hil]
    unfold scanC
    simp only [Option.bind_some]
    cases hm : meetsB l[i] out with
    | true =>
      have hu : unitP out l[i] = (0, false) := by unfold unitP; rw [hm]; rfl
      rw [hu]
      simp only [if_true]
      exact ⟨j, by omega, by omega, by simpa using hj⟩
    | false =>
      rw [if_neg Bool.false_ne_true]
      match hw : withoutL l[i] out with
      | [] =>
        have hu : unitP out l[i] = (0, true) := by unfold unitP; rw [hm, hw]; rfl
        rw [hu]
        exact ⟨k, by omega, by omega, by simp⟩
      | [x] =>
        have hu : unitP out l[i] = (x, false) := by unfold unitP; rw [hm, hw]; rfl
        have hx : x ∈ l[i] := by
          have : x ∈ withoutL l[i] out := by rw [hw]; simp
          unfold withoutL at this
          exact (List.mem_filter.1 this).1
        have h0 := (c2 x hx).1
        rw [hu]
        refine ⟨k, by omega, by omega, ?_⟩
        simp only [List.length_singleton]
        rw [if_neg (by decide), if_pos (by decide), if_pos (by decide), if_pos (by omega), if_neg Bool.false_ne_true, if_neg h0]
        rfl
      | x :: y :: t =>
        have hu : unitP out l[i] = (0, false) := by unfold unitP; rw [hm, hw]; rfl
        rw [hu]
        refine ⟨j, by omega, by omega, ?_⟩
        rw [if_neg (by simp; omega), if_neg (by simp; omega)]
        simpa using hj
theorem implProp_l (l : List (List Int)) (hl : LitsOk l) (hn : l.length ≤ 1048576) : ∀ (f : Nat) (out : List Int) (k : Nat), freeV out < f → out.length + f ≤ 100000 → f * (l.length + 3) + 10 ≤ k → impl_propagate.l0 k l out = some (propL l f out)
  | 0, _, _, h, _, _ => by omega
  | f + 1, out, k, h, ho, hk => by
    obtain ⟨k, rfl⟩ : ∃ m, k = m + 1 := ⟨k - 1, by omega⟩
    have hm : (f + 1) * (l.length + 3) = f * (l.length + 3) + (l.length + 3) := Nat.succ_mul _ _
    simp only [impl_propagate.l0]
    obtain ⟨j, hj1, hj2, hj⟩ := implProp_scan l hl hn out (by omega) l.length 0 k (by omega) (by omega)
    rw [show ((0 : Nat) : Int) = 0 from rfl, List.drop_zero] at hj
    rw [hj]
    unfold propL
    match hs : scanC out l with
    | none => rfl
    | some none => rfl
    | some (some x) =>
      obtain ⟨a, b, c, d, e⟩ := scan_lit out l x hl hs
      have := freeV_lt out x a b c d e
      exact implProp_l l hl hn f (out ++ [x]) j (by omega) (by simp; omega) (by omega)
/-- Unit propagation. -/
def propP (l : List (List Int)) (given : List Int) : List Int × Bool := propL l 13 given
theorem specProp_val (l : List (List Int)) (hl : LitsOk l) (hn : l.length ≤ 10000) (g : List Int) (hg : g.length ≤ 10000) (k : Nat) (hk : 3000000 ≤ k) : spec_l4Propagate.f k l g = some (propP l g) := by
  unfold spec_l4Propagate.f propP
  simp only [Option.bind_some, List.nil_append, List.length_nil]
  rw [if_pos (by omega)]
  exact specProp_l l hl (by omega) 13 g k (by have := freeV_le g; omega) (by omega) (by omega)
theorem implProp_val (l : List (List Int)) (hl : LitsOk l) (hn : l.length ≤ 10000) (g : List Int) (hg : g.length ≤ 10000) (k : Nat) (hk : 3000000 ≤ k) : impl_propagate.f k l g = some (propP l g) := by
  unfold impl_propagate.f slices_Clone_int_int.f propP
  rw [if_pos (by omega)]
  simp only [Option.bind_some]
  exact implProp_l l hl (by omega) 13 g k (by have := freeV_le g; omega) (by omega) (by omega)
theorem good_litsOk {v : Int} {l : List (List Int)} (h : goodB v l = true) : LitsOk l := by
  obtain ⟨h0, h1, _, _⟩ := goodB_facts h
  intro c hc
  obtain ⟨a, b⟩ := goodB_lits h c hc
  exact ⟨by omega, fun n hn => by have := b n hn; omega⟩

theorem negate_l (l : List Int) (hl : l.length ≤ 1048576) : ∀ (d i k : Nat) (y : List Int), i + d = l.length → y.length = i → d < k → spec_l5Negate.l0 k y l (l.length : Int) (i : Int) = some (y ++ (l.drop i).map fun x => wrap64 (-x))
  | 0, i, k, y, h1, h2, hk => by
    obtain ⟨k, rfl⟩ : ∃ m, k = m + 1 := ⟨k - 1, by omega⟩
    simp only [spec_l5Negate.l0]
    rw [if_neg (by omega), List.drop_of_length_le (by omega)]
    simp
  | d + 1, i, k, y, h1, h2, hk => by
    obtain ⟨k, rfl⟩ : ∃ m, k = m + 1 := ⟨k - 1, by omega⟩
    simp only [spec_l5Negate.l0]
    rw [if_pos (by omega), if_pos (by omega), if_pos (by omega), if_pos (by omega), rd_nat l i (by omega), next64 (by omega), negate_l l hl d (i + 1) k _ (by omega) (by simp [h2]) (by omega), drop_at l i (by omega), List.map_cons, List.append_assoc]
    rfl
theorem negate_val (l : List Int) (hl : l.length ≤ 1048576) (k : Nat) (hk : l.length < k) : spec_l5Negate.f k l = some (l.map fun x => wrap64 (-x)) := by
  unfold spec_l5Negate.f
  have := negate_l l hl l.length 0 k [] (by omega) rfl hk
  simpa using this

theorem learn_same : ∀ (k : Nat) (a b : List Int) (c d : Int), impl_learn.l0 k a b c d = spec_l5Negate.l0 k a b c d
  | 0, _, _, _, _ => rfl
  | k + 1, a, b, c, d => by
    simp only [impl_learn.l0, spec_l5Negate.l0, learn_same k]
theorem learn_val (l : List Int) (hl : l.length ≤ 1048576) (k : Nat) (hk : l.length < k) : impl_learn.f k l = some (l.map fun x => wrap64 (-x)) :=
  (learn_same ..).trans (negate_val l hl k hk)

def negL (l : List Int) : List Int := l.map fun x => wrap64 (-x)

theorem copy_l (l : List (List Int)) (hl : l.length ≤ 1048576) (hi : ∀ x ∈ l, x.length ≤ 1048576) : ∀ (d i k : Nat) (y : List (List Int)), i + d = l.length → y.length = i → d < k → spec_l5Copy.l0 k y l (l.length : Int) (i : Int) = some (y ++ l.drop i)
  | 0, i, k, y, h1, h2, hk => by
    obtain ⟨k, rfl⟩ : ∃ m, k = m + 1 := ⟨k - 1, by omega⟩
    simp only [spec_l5Copy.l0]
    rw [if_neg (by omega), List.drop_of_length_le (by omega), List.append_nil]
  | d + 1, i, k, y, h1, h2, hk => by
    obtain ⟨k, rfl⟩ : ∃ m, k = m + 1 := ⟨k - 1, by omega⟩
    have hil : i < l.length := by omega
    have hx := hi l[i] (List.getElem_mem _)
    simp only [spec_l5Copy.l0, Option.bind_some, List.nil_append, List.length_nil]
    rw [if_pos (by omega), if_pos (by omega), if_pos (by omega), rdL_nat l i hil, next64 (by omega), if_pos (by omega), if_pos (by omega)]
    rw [copy_l l hl hi d (i + 1) k (y ++ [l[i]]) (by omega) (by simp [h2]) (by omega), List.drop_eq_getElem_cons hil, List.append_assoc]
    rfl
theorem copy_val (l : List (List Int)) (hl : l.length ≤ 1048576) (hi : ∀ x ∈ l, x.length ≤ 1048576) (k : Nat) (hk : 1048577 ≤ k) : spec_l5Copy.f k l = some l := by
  unfold spec_l5Copy.f
  have := copy_l l hl hi l.length 0 k [] (by omega) rfl (by omega)
  simpa using this

theorem rdB_nat (l : List Bool) (i : Nat) (h : i < l.length) : rdOf false l (i : Int) = l[i] := by
  unfold rdOf
  rw [List.getD_eq_getElem?_getD, show ((i : Int).toNat) = i by omega, List.getElem?_eq_getElem h]
  rfl

def goodN (v : Int) (l : List (List Int)) (most : Nat) : Bool := (decide (0 ≤ v) && decide (v ≤ 12)) && (decide (l.length ≤ most) && l.all fun x => isClauseB x v)
theorem specGoodN_val (v : Int) (l : List (List Int)) (most : Nat) (hl : l.length ≤ 1048576) (hi : ∀ x ∈ l, x.length ≤ 1048576) (k : Nat) (hk : 5000000 ≤ k) : spec_l4Good.f k v l (most : Int) = some (goodN v l most) := by
  obtain ⟨k, rfl⟩ : ∃ m, k = m + 1 := ⟨k - 1, by omega⟩
  unfold spec_l4Good.f goodN
  rw [specIn_val]
  simp only [Option.bind_some, spec_l4Good.j0]
  by_cases hv : 0 ≤ v ∧ v ≤ 12
  · rw [show (decide (0 ≤ v) && decide (v ≤ 12)) = true by simp [hv.1, hv.2], if_pos rfl]
    by_cases h60 : l.length ≤ most
    · have : decide ((l.length : Int) > (most : Int)) = false := decide_eq_false (by omega)
      rw [this, if_neg Bool.false_ne_true]
      have h := good_l v hv.1 hv.2 l hl hi l.length 0 k (by omega) (by omega)
      simp only [List.drop_zero] at h
      rw [show ((0 : Nat) : Int) = 0 from rfl] at h
      rw [h]
      simp [h60]
    · have : decide ((l.length : Int) > (most : Int)) = true := decide_eq_true (by omega)
      rw [this]
      first | rw [if_pos rfl] | rw [if_true]
      simp [h60]
  · have hd : (decide (0 ≤ v) && decide (v ≤ 12)) = false := by
      rw [Bool.and_eq_false_iff]
      rcases Int.lt_or_le v 0 with h | h
      · exact .inl (decide_eq_false (by omega))
      · exact .inr (decide_eq_false (by omega))
    rw [hd, if_neg Bool.false_ne_true]
    first | rw [if_pos rfl] | rw [if_true]
    rfl
theorem goodN_facts {v : Int} {l : List (List Int)} {most : Nat} (h : goodN v l most = true) : 0 ≤ v ∧ v ≤ 12 ∧ l.length ≤ most ∧ ∀ c ∈ l, isClauseB c v = true := by
  unfold goodN at h
  simp only [Bool.and_eq_true, decide_eq_true_eq, List.all_eq_true] at h
  exact ⟨h.1.1, h.1.2, h.2.1, h.2.2⟩
theorem goodN_lits {v : Int} {l : List (List Int)} {most : Nat} (h : goodN v l most = true) : ∀ c ∈ l, c.length ≤ 12 ∧ ∀ n ∈ c, n ≠ 0 ∧ -v ≤ n ∧ n ≤ v := by
  obtain ⟨h0, h1, _, h2⟩ := goodN_facts h
  intro c hc
  obtain ⟨a, b⟩ := isClause_facts (h2 c hc)
  exact ⟨a, fun n hn => litB_small h0 h1 (b n hn)⟩
theorem goodN_litsOk {v : Int} {l : List (List Int)} {most : Nat} (h : goodN v l most = true) : LitsOk l := by
  obtain ⟨h0, h1, _, _⟩ := goodN_facts h
  intro c hc
  obtain ⟨a, b⟩ := goodN_lits h c hc
  exact ⟨by omega, fun n hn => by have := b n hn; omega⟩
theorem implIsProof_val (v : Int) (l p : List (List Int)) : impl_isProof.f v l p = some (goodB v l && goodN v p 300) := by
  unfold impl_isProof.f impl_areClauses.f
  rw [implGood_val]
  simp only [Option.bind_some]
  cases hg : goodB v l with
  | false => rfl
  | true =>
    obtain ⟨h0, h1, _, _⟩ := goodB_facts hg
    simp only [if_true, Bool.true_and]
    unfold goodN
    rw [decide_eq_true h0, decide_eq_true h1]
    by_cases h : p.length ≤ 300
    · rw [if_pos (by omega), decide_eq_true h, List.not_any_eq_all_not]
      simp
    · rw [if_neg (by omega), decide_eq_false h]
      simp
def atOnceB (l : List (List Int)) (c : List Int) : Bool := (propP l (negL c)).2
/-- The place of the first clause that does not follow, of those that are not dropped. -/
def checkD : List (List Int) → List Bool → List (List Int) → Int → Option Int
  | [], _, _, _ => none
  | c :: r, ds, all, i => match ds.headD false with
    | true => checkD r ds.tail all (i + 1)
    | false => match atOnceB all c with
      | true => checkD r ds.tail (all ++ [c]) (i + 1)
      | false => some i
def lastEmpty (p : List (List Int)) : Bool := match p.getLast? with | some c => c.length == 0 | none => false
def checkR (l p : List (List Int)) (ds : List Bool) : Bool × Int := match checkD p ds l 0 with | some i => (false, i) | none => (lastEmpty p, (p.length : Int))
theorem lastEmpty_at (p : List (List Int)) (h : 0 < p.length) : lastEmpty p = (p[p.length - 1].length == 0) := by
  unfold lastEmpty
  rw [List.getLast?_eq_getElem?, List.getElem?_eq_getElem (by omega)]
theorem specAtOnce_val (l : List (List Int)) (c : List Int) (hl : LitsOk l) (hn : l.length ≤ 10000) (hc : c.length ≤ 1000) (k : Nat) (hk : 3000000 ≤ k) : spec_l6AtOnce.f k l c = some (atOnceB l c) := by
  unfold spec_l6AtOnce.f atOnceB negL
  rw [negate_val c (by omega) k (by omega)]
  simp only [Option.bind_some]
  rw [specProp_val l hl hn _ (by simp; omega) k (by omega)]
  rfl
theorem implAtOnce_val (l : List (List Int)) (c : List Int) (hl : LitsOk l) (hn : l.length ≤ 10000) (hc : c.length ≤ 1000) (k : Nat) (hk : 3000000 ≤ k) : impl_atOnce.f k l c = some (atOnceB l c) := by
  unfold impl_atOnce.f atOnceB negL
  rw [learn_val c (by omega) k (by omega)]
  simp only [Option.bind_some]
  rw [implProp_val l hl hn _ (by simp; omega) k (by omega)]
  rfl
theorem litsOk_snoc {l : List (List Int)} {c : List Int} (h : LitsOk l) (hc : c.length ≤ 1000 ∧ ∀ n ∈ c, n ≠ 0 ∧ -12 ≤ n ∧ n ≤ 12) : LitsOk (l ++ [c]) := fun x hx => (List.mem_append.1 hx).elim (h x) (fun hx => by
  have : x = c := by simpa using hx
  exact this ▸ hc)
theorem headD_drop (ds : List Bool) (i : Nat) (h : i < ds.length) : (ds.drop i).headD false = ds[i] := by
  rw [List.drop_eq_getElem_cons h]
  rfl
theorem tail_drop (ds : List Bool) (i : Nat) : (ds.drop i).tail = ds.drop (i + 1) := List.tail_drop
theorem specCheck_l (p : List (List Int)) (ds : List Bool) (hp : LitsOk p) (hn : p.length ≤ 1000) (hd : ds.length = p.length) : ∀ (d i k : Nat) (all : List (List Int)), i + d = p.length → all.length + d ≤ 10000 → LitsOk all → d + 4000000 ≤ k →
    spec_l6Check.l0 k p ds all p (p.length : Int) (i : Int) = some (match checkD (p.drop i) (ds.drop i) all (i : Int) with | some j => (false, j) | none => (lastEmpty p, (p.length : Int)))
  | 0, i, k, all, h1, h2, h3, hk => by
    obtain ⟨k, rfl⟩ : ∃ m, k = m + 1 := ⟨k - 1, by omega⟩
    simp only [spec_l6Check.l0]
    rw [if_neg (by omega), List.drop_of_length_le (by omega)]
    simp only [checkD]
    by_cases h0 : 0 < p.length
    · have e : wrap64 ((p.length : Int) - 1) = ((p.length - 1 : Nat) : Int) := by rw [w64 (by omega) (by omega)]; omega
      rw [if_pos (by omega), e, if_pos (by omega), if_pos (by omega), rdL_nat p (p.length - 1) (by omega), lastEmpty_at p h0]
      congr 2
      rw [Bool.eq_iff_iff]
      simp
    · rw [if_neg (by omega)]
      obtain rfl : p = [] := List.eq_nil_of_length_eq_zero (by omega)
      rfl
  | d + 1, i, k, all, h1, h2, h3, hk => by
    obtain ⟨k, rfl⟩ : ∃ m, k = m + 1 := ⟨k - 1, by omega⟩
    have hil : i < p.length := by omega
    have hcl := hp p[i] (List.getElem_mem _)
    simp only [spec_l6Check.l0]
    rw [if_pos (by omega), if_pos (by omega), if_pos (by omega), if_pos (by omega), rdB_nat ds i (by omega), rdL_nat p i hil, next64 (by omega), List.drop_eq_getElem_cons hil, checkD, headD_drop ds i (by omega), tail_drop]
    cases hdi : ds[i] with
    | true =>
      rw [if_pos rfl, specCheck_l p ds hp hn hd d (i + 1) k all (by omega) (by omega) h3 (by omega)]
      rfl
    | false =>
      rw [if_neg Bool.false_ne_true, specAtOnce_val all p[i] h3 (by omega) hcl.1 k (by omega)]
      simp only [Option.bind_some]
      cases hat : atOnceB all p[i] with
      | false => simp
      | true =>
        rw [if_pos rfl, if_pos (by omega), specCheck_l p ds hp hn hd d (i + 1) k (all ++ [p[i]]) (by omega) (by simp; omega) (litsOk_snoc h3 hcl) (by omega)]
        rfl
theorem specCheck_val (l p : List (List Int)) (ds : List Bool) (hl : LitsOk l) (hln : l.length ≤ 1000) (hp : LitsOk p) (hn : p.length ≤ 1000) (hd : ds.length = p.length) (k : Nat) (hk : 5000000 ≤ k) : spec_l6Check.f k l p ds = some (checkR l p ds) := by
  unfold spec_l6Check.f
  rw [copy_val l (by omega) (fun x hx => by have := (hl x hx).1; omega) k (by omega)]
  simp only [Option.bind_some]
  have := specCheck_l p ds hp hn hd p.length 0 k l (by omega) (by omega) hl (by omega)
  simp only [List.drop_zero] at this
  exact this
theorem rowIn_nat (l : List (List Int)) (i : Nat) (h : i < l.length) : rowIn_ l (i : Int) = l[i] := by
  unfold rowIn_
  rw [List.getD_eq_getElem?_getD, show ((i : Int).toNat) = i by omega, List.getElem?_eq_getElem h]
  rfl
theorem implCheck_l (p : List (List Int)) (hp : LitsOk p) (hn : p.length ≤ 1000) : ∀ (d i k : Nat) (all : List (List Int)), i + d = p.length → all.length + d ≤ 10000 → LitsOk all → d + 4000000 ≤ k →
    impl_check.l0 k p all (i : Int) = some (match checkD (p.drop i) [] all (i : Int) with | some j => (false, j) | none => (lastEmpty p, (p.length : Int)))
  | 0, i, k, all, h1, h2, h3, hk => by
    obtain ⟨k, rfl⟩ : ∃ m, k = m + 1 := ⟨k - 1, by omega⟩
    simp only [impl_check.l0]
    rw [if_neg (by omega), List.drop_of_length_le (by omega)]
    simp only [checkD]
    by_cases h0 : 0 < p.length
    · have e : ((p.length : Int) - 1) = ((p.length - 1 : Nat) : Int) := by omega
      rw [decide_eq_true h0, e, rowIn_nat p (p.length - 1) (by omega), lastEmpty_at p h0, Bool.true_and]
    · obtain rfl : p = [] := List.eq_nil_of_length_eq_zero (by omega)
      rfl
  | d + 1, i, k, all, h1, h2, h3, hk => by
    obtain ⟨k, rfl⟩ : ∃ m, k = m + 1 := ⟨k - 1, by omega⟩
    have hil : i < p.length := by omega
    have hcl := hp p[i] (List.getElem_mem _)
    simp only [impl_check.l0]
    rw [if_pos (by omega), if_pos (by omega), rowIn_nat p i hil, next64 (by omega), List.drop_eq_getElem_cons hil, checkD, implAtOnce_val all p[i] h3 (by omega) hcl.1 k (by omega)]
    simp only [Option.bind_some, List.headD_nil, List.tail_nil]
    cases hat : atOnceB all p[i] with
    | false => simp
    | true =>
      rw [if_pos rfl, if_pos (by omega), implCheck_l p hp hn d (i + 1) k (all ++ [p[i]]) (by omega) (by simp; omega) (litsOk_snoc h3 hcl) (by omega)]
      rfl
theorem implCheck_val (l p : List (List Int)) (hl : LitsOk l) (hln : l.length ≤ 1000) (hp : LitsOk p) (hn : p.length ≤ 1000) (k : Nat) (hk : 5000000 ≤ k) : impl_check.f k l p = some (checkR l p []) := by
  unfold impl_check.f
  rw [if_pos (by omega)]
  have := implCheck_l p hp hn p.length 0 k l (by omega) (by omega) hl (by omega)
  simp only [List.drop_zero] at this
  exact this
theorem checkD_none : ∀ (p : List (List Int)) (n : Nat) (all : List (List Int)) (i : Int), checkD p (List.replicate n false) all i = checkD p [] all i
  | [], _, _, _ => rfl
  | c :: r, n, all, i => by
    rw [checkD, checkD]
    have h1 : (List.replicate n false).headD false = false := by cases n <;> rfl
    have h2 : (List.replicate n false).tail = List.replicate (n - 1) false := by cases n <;> rfl
    rw [h1, h2]
    simp only [checkD_none r, List.headD_nil, List.tail_nil]
theorem checkR_none (l p : List (List Int)) (n : Nat) : checkR l p (List.replicate n false) = checkR l p [] := by
  unfold checkR
  rw [checkD_none]
/-- What CheckProof returns. -/
def checkProofR (v : Int) (l p : List (List Int)) : Bool × Int × Bool := if (goodB v l && goodN v p 300) = true then ((checkR l p []).1, (checkR l p []).2, true) else (false, 0, false)
theorem specL6Good_val (v : Int) (l p : List (List Int)) (hl : l.length ≤ 1048576) (hi : ∀ x ∈ l, x.length ≤ 1048576) (hp : p.length ≤ 1048576) (hpi : ∀ x ∈ p, x.length ≤ 1048576) (k : Nat) (hk : 5000000 ≤ k) : spec_l6Good.f k v l p = some (goodB v l && goodN v p 300) := by
  unfold spec_l6Good.f
  rw [specGood_val v l hl hi k hk]
  simp only [Option.bind_some]
  cases goodB v l with
  | false => rfl
  | true =>
    rw [if_pos rfl, show (300 : Int) = ((300 : Nat) : Int) from rfl, specGoodN_val v p 300 hp hpi k hk]
    rfl
theorem implCheckProof_val (v : Int) (l p : List (List Int)) (k : Nat) (hk : 5000000 ≤ k) : impl_CheckProof.f k v l p = some (checkProofR v l p) := by
  unfold impl_CheckProof.f checkProofR
  rw [implIsProof_val]
  simp only [Option.bind_some]
  cases h : (goodB v l && goodN v p 300) with
  | false => rfl
  | true =>
    rw [Bool.and_eq_true] at h
    obtain ⟨hg, hn⟩ := h
    obtain ⟨h0, h1, h60, _⟩ := goodB_facts hg
    obtain ⟨_, _, h300, _⟩ := goodN_facts hn
    rw [if_pos rfl, if_pos rfl, implCheck_val l p (good_litsOk hg) (by omega) (goodN_litsOk hn) (by omega) k (by omega)]
    rfl

/-- The places of those that are not dropped, from place i on. -/
def keepFrom : List Bool → Int → List Int
  | [], _ => []
  | true :: r, i => keepFrom r (i + 1)
  | false :: r, i => i :: keepFrom r (i + 1)
theorem keepFrom_cons (d : Bool) (r : List Bool) (i : Int) : keepFrom (d :: r) i = match d with
    | true => keepFrom r (i + 1)
    | false => i :: keepFrom r (i + 1) := by cases d <;> rfl
/-- Those that are not dropped. -/
def selL : List (List Int) → List Bool → List (List Int)
  | [], _ => []
  | c :: r, ds => match ds.headD false with
    | true => selL r ds.tail
    | false => c :: selL r ds.tail
theorem keepFrom_mem : ∀ (ds : List Bool) (i x : Int), x ∈ keepFrom ds i → i ≤ x ∧ x < i + (ds.length : Int)
  | [], i, x, h => by simp [keepFrom] at h
  | d :: r, i, x, h => by
    rw [keepFrom_cons] at h
    rw [List.length_cons]
    cases d with
    | true =>
      have := keepFrom_mem r (i + 1) x h
      omega
    | false =>
      rcases List.mem_cons.1 h with rfl | h
      · omega
      · have := keepFrom_mem r (i + 1) x h
        omega
theorem keepFrom_length : ∀ (ds : List Bool) (i : Int), (keepFrom ds i).length ≤ ds.length
  | [], i => by simp [keepFrom]
  | d :: r, i => by
    rw [keepFrom_cons, List.length_cons]
    have := keepFrom_length r (i + 1)
    cases d with
    | true => exact Nat.le_trans this (Nat.le_succ _)
    | false => simpa using this
theorem keepFrom_none : ∀ (n : Nat) (i : Nat), keepFrom (List.replicate n false) (i : Int) = (List.range' i n).map fun (j : Nat) => (j : Int)
  | 0, i => rfl
  | n + 1, i => by
    rw [List.replicate_succ, keepFrom, List.range'_succ, List.map_cons, show ((i : Int) + 1) = ((i + 1 : Nat) : Int) by omega, keepFrom_none n (i + 1)]
theorem placesOf_keep (n : Nat) : placesOf_ n = keepFrom (List.replicate n false) 0 := by
  have := keepFrom_none n 0
  rw [show ((0 : Nat) : Int) = 0 from rfl] at this
  rw [this]
  unfold placesOf_
  rw [List.range_eq_range']
/-- Where nothing is dropped up to place d, the place d is the d-th one. -/
theorem keepFrom_erase : ∀ (d : Nat) (ds : List Bool) (i : Int), (∀ j, j ≤ d → ds[j]? = some false) → (keepFrom ds i).eraseIdx d = keepFrom (ds.set d true) i ∧ d + 1 ≤ (keepFrom ds i).length
  | 0, ds, i, h => by
    have h0 := h 0 (Nat.le_refl _)
    cases ds with
    | nil => simp at h0
    | cons b r =>
      obtain rfl : b = false := by simpa using h0
      simp [keepFrom]
  | d + 1, ds, i, h => by
    have h0 := h 0 (by omega)
    cases ds with
    | nil => simp at h0
    | cons b r =>
      obtain rfl : b = false := by simpa using h0
      obtain ⟨h1, h2⟩ := keepFrom_erase d r (i + 1) (fun j hj => by have := h (j + 1) (by omega); simpa using this)
      rw [List.set_cons_succ, keepFrom, keepFrom]
      simp only [List.eraseIdx_cons_succ, h1, List.length_cons]
      exact ⟨trivial, by omega⟩
theorem sel_keep (p : List (List Int)) : ∀ (q : List (List Int)) (ds : List Bool) (i : Nat), ds.length = q.length → p.drop i = q → (keepFrom ds (i : Int)).map (rowIn_ p) = selL q ds
  | [], ds, i, h, hd => by
    obtain rfl : ds = [] := List.eq_nil_of_length_eq_zero (by simpa using h)
    rfl
  | c :: q, [], i, h, hd => by simp at h
  | c :: q, b :: ds, i, h, hd => by
    have hi : i < p.length := by
      have := congrArg List.length hd
      simp at this
      omega
    rw [List.drop_eq_getElem_cons hi] at hd
    injection hd with hc hq
    have ih := sel_keep p q ds (i + 1) (by simpa using h) hq
    rw [keepFrom_cons, selL, List.headD_cons, List.tail_cons]
    cases b with
    | true =>
      rw [show ((i : Int) + 1) = ((i + 1 : Nat) : Int) by omega]
      exact ih
    | false =>
      simp only [List.map_cons]
      rw [show ((i : Int) + 1) = ((i + 1 : Nat) : Int) by omega, ih, rowIn_nat p i hi, hc]
theorem checkD_sel : ∀ (p : List (List Int)) (ds : List Bool) (all : List (List Int)) (i j : Int), (checkD p ds all i).isNone = (checkD (selL p ds) [] all j).isNone
  | [], _, _, _, _ => rfl
  | c :: r, ds, all, i, j => by
    rw [checkD, selL]
    cases hd : ds.headD false with
    | true => exact checkD_sel r ds.tail all (i + 1) j
    | false =>
      simp only [checkD, List.headD_nil, List.tail_nil]
      cases atOnceB all c with
      | true => exact checkD_sel r ds.tail (all ++ [c]) (i + 1) (j + 1)
      | false => rfl
theorem selL_last : ∀ (p : List (List Int)) (ds : List Bool), ds.length = p.length → ds.getLast? = some false → (selL p ds).getLast? = p.getLast?
  | [], ds, h, hl => rfl
  | [c], ds, h, hl => by
    match ds, h with
    | [b], _ =>
      obtain rfl : b = false := by simpa using hl
      rfl
  | c :: c2 :: r, ds, h, hl => by
    match ds, h with
    | b :: b2 :: ds, h =>
      have ih := selL_last (c2 :: r) (b2 :: ds) (by simpa using h) (by simpa using hl)
      rw [List.getLast?_cons_cons, ← ih, selL, List.headD_cons, List.tail_cons]
      cases b with
      | true => rfl
      | false =>
        simp only
        cases hs : selL (c2 :: r) (b2 :: ds) with
        | nil =>
          rw [hs] at ih
          have h2 := List.getLast?_eq_none_iff.1 ih.symm
          cases h2
        | cons x y => rw [List.getLast?_cons_cons]
/-- A proof is accepted, of which some clauses are dropped. -/
def accB (l p : List (List Int)) (ds : List Bool) : Bool := (checkD p ds l 0).isNone && lastEmpty p
theorem checkR_acc (l p : List (List Int)) (ds : List Bool) : (checkR l p ds).1 = accB l p ds := by
  unfold checkR accB
  cases checkD p ds l 0 with
  | none => simp
  | some i => simp
theorem accB_sel (l p : List (List Int)) (ds : List Bool) (h : ds.length = p.length) (hl : ds.getLast? = some false) : accB l (selL p ds) [] = accB l p ds := by
  unfold accB lastEmpty
  rw [selL_last p ds h hl, checkD_sel p ds l 0 0]
def needL (l p : List (List Int)) : Nat → List Bool → List Bool
  | 0, ds => ds
  | i + 1, ds => needL l p i (if accB l p (ds.set i true) = true then ds.set i true else ds)
theorem needL_length (l p : List (List Int)) : ∀ (d : Nat) (ds : List Bool), (needL l p d ds).length = ds.length
  | 0, ds => rfl
  | i + 1, ds => by
    rw [needL, needL_length l p i]
    split
    · rw [List.length_set]
    · rfl
theorem spec1_val (ds : List Bool) (hn : ds.length ≤ 1000) : ∀ (d i k : Nat) (y : List Int), i + d = ds.length → y.length ≤ i → d < k → spec_NeededIn.l1 k y ds (ds.length : Int) (i : Int) = some (y ++ keepFrom (ds.drop i) (i : Int), true)
  | 0, i, k, y, h1, h2, hk => by
    obtain ⟨k, rfl⟩ : ∃ m, k = m + 1 := ⟨k - 1, by omega⟩
    simp only [spec_NeededIn.l1]
    rw [if_neg (by omega), List.drop_of_length_le (by omega)]
    simp [keepFrom]
  | d + 1, i, k, y, h1, h2, hk => by
    obtain ⟨k, rfl⟩ : ∃ m, k = m + 1 := ⟨k - 1, by omega⟩
    have hil : i < ds.length := by omega
    simp only [spec_NeededIn.l1]
    rw [if_pos (by omega), if_pos (by omega), if_pos (by omega), rdB_nat ds i hil, next64 (by omega), List.drop_eq_getElem_cons hil, keepFrom_cons]
    cases ds[i] with
    | true =>
      rw [if_pos rfl, spec1_val ds hn d (i + 1) k y (by omega) (by omega) (by omega)]
      rfl
    | false =>
      rw [if_neg Bool.false_ne_true, if_pos (by omega), spec1_val ds hn d (i + 1) k (y ++ [(i : Int)]) (by omega) (by simp; omega) (by omega)]
      simp only [List.append_assoc, List.singleton_append]
      rfl
theorem prev64 (d : Nat) (h : d ≤ 1000) : wrap64 (((d + 1 : Nat) : Int) - 1 - 1) = (d : Int) - 1 := by
  rw [w64 (by omega) (by omega)]
  omega
theorem spec0_val (l p : List (List Int)) (hl : LitsOk l) (hln : l.length ≤ 1000) (hp : LitsOk p) (hpn : p.length ≤ 1000) : ∀ (d k : Nat) (ds : List Bool), ds.length = p.length → d < p.length → (∀ j, j < d → ds[j]? = some false) → d + 6000000 ≤ k →
    spec_NeededIn.l0 k l p ds ((d : Int) - 1) = some (keepFrom (needL l p d ds) 0, true)
  | 0, k, ds, h1, h2, h3, hk => by
    obtain ⟨k, rfl⟩ : ∃ m, k = m + 1 := ⟨k - 1, by omega⟩
    simp only [spec_NeededIn.l0]
    rw [if_neg (by omega)]
    have := spec1_val ds (by omega) ds.length 0 k [] (by omega) (by simp) (by omega)
    rw [needL]
    simpa using this
  | d + 1, k, ds, h1, h2, h3, hk => by
    obtain ⟨k, rfl⟩ : ∃ m, k = m + 1 := ⟨k - 1, by omega⟩
    have e : ((d + 1 : Nat) : Int) - 1 = (d : Int) := by omega
    have hset : (ds.set d true).set d false = ds := by
      rw [List.set_set]
      apply List.ext_getElem?
      intro j
      rw [List.getElem?_set]
      by_cases hj : d = j
      · subst hj
        rw [if_pos rfl, if_pos (by omega), h3 d (by omega)]
      · rw [if_neg hj]
    simp only [spec_NeededIn.l0, Option.bind_some]
    rw [prev64 d (by omega), e]
    rw [if_pos (by omega), if_pos (by omega), if_pos (by omega), show ((d : Int).toNat) = d by omega, specCheck_val l p _ hl hln hp hpn (by rw [List.length_set]; exact h1) k (by omega)]
    simp only [Option.bind_some, checkR_acc]
    rw [needL]
    cases hac : accB l p (ds.set d true) with
    | true =>
      rw [if_pos rfl, if_pos rfl]
      exact spec0_val l p hl hln hp hpn d k _ (by rw [List.length_set]; exact h1) (by omega) (fun j hj => by rw [List.getElem?_set_ne (by omega)]; exact h3 j (by omega)) (by omega)
    | false =>
      rw [if_neg Bool.false_ne_true, if_neg Bool.false_ne_true, hset]
      exact spec0_val l p hl hln hp hpn d k _ h1 (by omega) (fun j hj => h3 j (by omega)) (by omega)
theorem pick_l (p : List (List Int)) (hp : p.length ≤ 1000) (hpi : ∀ c ∈ p, c.length ≤ 1000) (at_ : List Int) (hn : at_.length ≤ 1000) (hr : ∀ x ∈ at_, 0 ≤ x ∧ x < (p.length : Int)) : ∀ (d i k : Nat) (y : List (List Int)), i + d = at_.length → y.length ≤ i → d < k →
    impl_pick.l0 k p y at_ (at_.length : Int) (i : Int) = some (y ++ (at_.drop i).map (rowIn_ p))
  | 0, i, k, y, h1, h2, hk => by
    obtain ⟨k, rfl⟩ : ∃ m, k = m + 1 := ⟨k - 1, by omega⟩
    simp only [impl_pick.l0]
    rw [if_neg (by omega), List.drop_of_length_le (by omega)]
    simp
  | d + 1, i, k, y, h1, h2, hk => by
    obtain ⟨k, rfl⟩ : ∃ m, k = m + 1 := ⟨k - 1, by omega⟩
    have hil : i < at_.length := by omega
    obtain ⟨b1, b2⟩ := hr at_[i] (List.getElem_mem _)
    have hx : rd_L1 p at_[i] = rowIn_ p at_[i] := rfl
    have hxl : (rowIn_ p at_[i]).length ≤ 1000 := hpi _ (rowIn_mem b1 b2)
    simp only [impl_pick.l0]
    rw [if_pos (by omega), if_pos (by omega), if_pos (by omega), rd_nat at_ i hil, if_pos b1, if_pos b2, next64 (by omega), hx]
    unfold slices_Clone_int_int.f
    rw [if_pos (by omega)]
    simp only [Option.bind_some]
    rw [if_pos (by omega), pick_l p hp hpi at_ hn hr d (i + 1) k (y ++ [rowIn_ p at_[i]]) (by omega) (by simp; omega) (by omega), List.drop_eq_getElem_cons hil, List.map_cons]
    simp
theorem pick_val (p : List (List Int)) (hp : p.length ≤ 1000) (hpi : ∀ c ∈ p, c.length ≤ 1000) (at_ : List Int) (hn : at_.length ≤ 1000) (hr : ∀ x ∈ at_, 0 ≤ x ∧ x < (p.length : Int)) (k : Nat) (hk : 2000 ≤ k) : impl_pick.f k p at_ = some (at_.map (rowIn_ p)) := by
  unfold impl_pick.f
  have := pick_l p hp hpi at_ hn hr at_.length 0 k [] (by omega) (by simp) (by omega)
  simpa using this
theorem selL_sub : ∀ (p : List (List Int)) (ds : List Bool) (c : List Int), c ∈ selL p ds → c ∈ p
  | [], _, c, h => by simp [selL] at h
  | b :: r, ds, c, h => by
    rw [selL] at h
    cases hd : ds.headD false with
    | true =>
      rw [hd] at h
      exact List.mem_cons_of_mem _ (selL_sub r ds.tail c h)
    | false =>
      rw [hd] at h
      rcases List.mem_cons.1 h with rfl | h
      · exact List.mem_cons_self
      · exact List.mem_cons_of_mem _ (selL_sub r ds.tail c h)
theorem selL_length : ∀ (p : List (List Int)) (ds : List Bool), (selL p ds).length ≤ p.length
  | [], _ => by simp [selL]
  | b :: r, ds => by
    rw [selL, List.length_cons]
    have := selL_length r ds.tail
    cases ds.headD false with
    | true => exact Nat.le_trans this (Nat.le_succ _)
    | false => simpa using this
theorem impl1_val (l p : List (List Int)) (hl : LitsOk l) (hln : l.length ≤ 1000) (hp : LitsOk p) (hpn : p.length ≤ 1000) : ∀ (d k : Nat) (ds : List Bool), ds.length = p.length → d < p.length → (∀ j, j < d → ds[j]? = some false) → ds.getLast? = some false → d + 6000000 ≤ k →
    impl_NeededIn.l1 k l p (keepFrom ds 0) ((d : Int) - 1) = some (keepFrom (needL l p d ds) 0)
  | 0, k, ds, h1, h2, h3, h4, hk => by
    obtain ⟨k, rfl⟩ : ∃ m, k = m + 1 := ⟨k - 1, by omega⟩
    simp only [impl_NeededIn.l1]
    rw [if_neg (by omega)]
    rfl
  | d + 1, k, ds, h1, h2, h3, h4, hk => by
    obtain ⟨k, rfl⟩ : ∃ m, k = m + 1 := ⟨k - 1, by omega⟩
    have e : ((d + 1 : Nat) : Int) - 1 = (d : Int) := by omega
    obtain ⟨he, hlen⟩ := keepFrom_erase d ds 0 (fun j hj => h3 j (by omega))
    have hkl := keepFrom_length ds 0
    have h4' : (ds.set d true).getLast? = some false := by
      rw [List.getLast?_eq_getElem?] at h4 ⊢
      rw [List.length_set, List.getElem?_set_ne (by omega)]
      exact h4
    have hsel := sel_keep p p (ds.set d true) 0 (by rw [List.length_set]; exact h1) (by simp)
    rw [show ((0 : Nat) : Int) = 0 from rfl] at hsel
    simp only [impl_NeededIn.l1]
    rw [prev64 d (by omega), e, if_pos (by omega), if_pos ⟨by omega, by omega⟩, show ((d : Int).toNat) = d by omega, he, pick_val p hpn (fun c hc => (hp c hc).1) _ (by have := keepFrom_length (ds.set d true) 0; rw [List.length_set] at this; omega) (fun x hx => by have := keepFrom_mem _ _ _ hx; rw [List.length_set] at this; omega) k (by omega), hsel]
    simp only [Option.bind_some]
    rw [implCheck_val l _ hl hln (fun c hc => hp c (selL_sub p _ c hc)) (by have := selL_length p (ds.set d true); omega) k (by omega)]
    simp only [Option.bind_some, checkR_acc]
    rw [accB_sel l p _ (by rw [List.length_set]; exact h1) h4', needL]
    cases hac : accB l p (ds.set d true) with
    | true =>
      rw [if_pos rfl, if_pos rfl]
      exact impl1_val l p hl hln hp hpn d k _ (by rw [List.length_set]; exact h1) (by omega) (fun j hj => by rw [List.getElem?_set_ne (by omega)]; exact h3 j (by omega)) h4' (by omega)
    | false =>
      rw [if_neg Bool.false_ne_true, if_neg Bool.false_ne_true]
      exact impl1_val l p hl hln hp hpn d k _ h1 (by omega) (fun j hj => h3 j (by omega)) h4 (by omega)
/-- What NeededIn returns. -/
def neededR (v : Int) (l p : List (List Int)) : List Int × Bool := if (goodB v l && goodN v p 300) = true then (if accB l p [] = true then (keepFrom (needL l p (p.length - 1) (List.replicate p.length false)) 0, true) else ([], false)) else ([], false)
theorem acc_pos {l p : List (List Int)} {ds : List Bool} (h : accB l p ds = true) : 0 < p.length := by
  rcases Nat.eq_zero_or_pos p.length with h0 | h0
  · obtain rfl : p = [] := List.eq_nil_of_length_eq_zero h0
    unfold accB lastEmpty at h
    simp at h
  · exact h0
theorem accB_none (l p : List (List Int)) (n : Nat) : accB l p (List.replicate n false) = accB l p [] := by
  unfold accB
  rw [checkD_none]
theorem repl_at (n j : Nat) (h : j < n) : (List.replicate n false)[j]? = some false := by
  rw [List.getElem?_replicate, if_pos h]
theorem repl_last (n : Nat) (h : 0 < n) : (List.replicate n false).getLast? = some false := by
  rw [List.getLast?_eq_getElem?, List.length_replicate]
  exact repl_at n _ (by omega)
theorem specNeeded_val (v : Int) (l p : List (List Int)) (hl : l.length ≤ 1048576) (hi : ∀ x ∈ l, x.length ≤ 1048576) (hp : p.length ≤ 1048576) (hpi : ∀ x ∈ p, x.length ≤ 1048576) (k : Nat) (hk : 9000000 ≤ k) : spec_NeededIn.f k v l p = some (neededR v l p) := by
  unfold spec_NeededIn.f neededR
  rw [specL6Good_val v l p hl hi hp hpi k (by omega)]
  simp only [Option.bind_some]
  cases h : (goodB v l && goodN v p 300) with
  | false => rfl
  | true =>
    rw [Bool.and_eq_true] at h
    obtain ⟨hg, hn⟩ := h
    obtain ⟨h0, h1, h60, _⟩ := goodB_facts hg
    obtain ⟨_, _, h300, _⟩ := goodN_facts hn
    rw [if_pos rfl, if_pos (by omega), if_pos (by omega), if_pos rfl, show ((p.length : Int).toNat) = p.length by omega, specCheck_val l p _ (good_litsOk hg) (by omega) (goodN_litsOk hn) (by omega) (by rw [List.length_replicate]) k (by omega)]
    simp only [Option.bind_some, checkR_acc, accB_none]
    cases hac : accB l p [] with
    | false => rfl
    | true =>
      have hpos := acc_pos hac
      have e : wrap64 ((p.length : Int) - 2) = ((p.length - 1 : Nat) : Int) - 1 := by rw [w64 (by omega) (by omega)]; omega
      rw [if_pos rfl, if_pos rfl, e]
      exact spec0_val l p (good_litsOk hg) (by omega) (goodN_litsOk hn) (by omega) (p.length - 1) k _ (by rw [List.length_replicate]) (by omega) (fun j hj => repl_at _ _ (by omega)) (by omega)
theorem implNeeded_val (v : Int) (l p : List (List Int)) (k : Nat) (hk : 9000000 ≤ k) : impl_NeededIn.f k v l p = some (neededR v l p) := by
  unfold impl_NeededIn.f neededR
  rw [implCheckProof_val v l p k (by omega)]
  simp only [Option.bind_some, checkProofR]
  cases h : (goodB v l && goodN v p 300) with
  | false => rfl
  | true =>
    rw [Bool.and_eq_true] at h
    obtain ⟨hg, hn⟩ := h
    obtain ⟨h0, h1, h60, _⟩ := goodB_facts hg
    obtain ⟨_, _, h300, _⟩ := goodN_facts hn
    simp only [if_true, checkR_acc]
    cases hac : accB l p [] with
    | false => rfl
    | true =>
      have hpos := acc_pos hac
      have e : wrap64 ((p.length : Int) - 2) = ((p.length - 1 : Nat) : Int) - 1 := by rw [w64 (by omega) (by omega)]; omega
      rw [if_pos rfl, if_pos rfl, if_pos ⟨by omega, by omega⟩, e, placesOf_keep, impl1_val l p (good_litsOk hg) (by omega) (goodN_litsOk hn) (by omega) (p.length - 1) k _ (by rw [List.length_replicate]) (by omega) (fun j hj => repl_at _ _ (by omega)) (repl_last _ hpos) (by omega)]
      rfl
theorem neededR_length (v : Int) (l p : List (List Int)) (hp : p.length ≤ 1048576) : (neededR v l p).1.length ≤ 1048576 := by
  unfold neededR
  split
  · split
    · have := keepFrom_length (needL l p (p.length - 1) (List.replicate p.length false)) 0
      rw [needL_length, List.length_replicate] at this
      simp only
      omega
    · simp
  · simp

theorem specTrim_l (p : List (List Int)) (hp : p.length ≤ 1048576) (hpi : ∀ c ∈ p, c.length ≤ 1048576) (at_ : List Int) (hn : at_.length ≤ 1048576) (hr : ∀ x ∈ at_, 0 ≤ x ∧ x < (p.length : Int)) : ∀ (d i k : Nat) (y : List (List Int)), i + d = at_.length → y.length ≤ i → d < k →
    spec_TrimProof.l0 k p y at_ (at_.length : Int) (i : Int) = some (y ++ (at_.drop i).map (rowIn_ p), true)
  | 0, i, k, y, h1, h2, hk => by
    obtain ⟨k, rfl⟩ : ∃ m, k = m + 1 := ⟨k - 1, by omega⟩
    simp only [spec_TrimProof.l0]
    rw [if_neg (by omega), List.drop_of_length_le (by omega)]
    simp
  | d + 1, i, k, y, h1, h2, hk => by
    obtain ⟨k, rfl⟩ : ∃ m, k = m + 1 := ⟨k - 1, by omega⟩
    have hil : i < at_.length := by omega
    obtain ⟨b1, b2⟩ := hr at_[i] (List.getElem_mem _)
    have hx : rd_L1 p at_[i] = rowIn_ p at_[i] := rfl
    have hxl : (rowIn_ p at_[i]).length ≤ 1048576 := hpi _ (rowIn_mem b1 b2)
    simp only [spec_TrimProof.l0, Option.bind_some, List.nil_append, List.length_nil]
    rw [if_pos (by omega), if_pos (by omega), if_pos (by omega), rd_nat at_ i hil, if_pos b1, if_pos b2, next64 (by omega), hx, if_pos (by omega), if_pos (by omega)]
    rw [specTrim_l p hp hpi at_ hn hr d (i + 1) k (y ++ [rowIn_ p at_[i]]) (by omega) (by simp; omega) (by omega), List.drop_eq_getElem_cons hil, List.map_cons]
    simp
theorem implPick_l (p : List (List Int)) (hp : p.length ≤ 1048576) (hpi : ∀ c ∈ p, c.length ≤ 1048576) (at_ : List Int) (hn : at_.length ≤ 1048576) (hr : ∀ x ∈ at_, 0 ≤ x ∧ x < (p.length : Int)) : ∀ (d i k : Nat) (y : List (List Int)), i + d = at_.length → y.length ≤ i → d < k →
    impl_pick.l0 k p y at_ (at_.length : Int) (i : Int) = some (y ++ (at_.drop i).map (rowIn_ p))
  | 0, i, k, y, h1, h2, hk => by
    obtain ⟨k, rfl⟩ : ∃ m, k = m + 1 := ⟨k - 1, by omega⟩
    simp only [impl_pick.l0]
    rw [if_neg (by omega), List.drop_of_length_le (by omega)]
    simp
  | d + 1, i, k, y, h1, h2, hk => by
    obtain ⟨k, rfl⟩ : ∃ m, k = m + 1 := ⟨k - 1, by omega⟩
    have hil : i < at_.length := by omega
    obtain ⟨b1, b2⟩ := hr at_[i] (List.getElem_mem _)
    have hx : rd_L1 p at_[i] = rowIn_ p at_[i] := rfl
    have hxl : (rowIn_ p at_[i]).length ≤ 1048576 := hpi _ (rowIn_mem b1 b2)
    simp only [impl_pick.l0]
    rw [if_pos (by omega), if_pos (by omega), if_pos (by omega), rd_nat at_ i hil, if_pos b1, if_pos b2, next64 (by omega), hx]
    unfold slices_Clone_int_int.f
    rw [if_pos (by omega)]
    simp only [Option.bind_some]
    rw [if_pos (by omega), implPick_l p hp hpi at_ hn hr d (i + 1) k (y ++ [rowIn_ p at_[i]]) (by omega) (by simp; omega) (by omega), List.drop_eq_getElem_cons hil, List.map_cons]
    simp
def trimR (v : Int) (l p : List (List Int)) : List (List Int) × Bool := ((neededR v l p).1.map (rowIn_ p), (neededR v l p).2)
theorem neededR_mem (v : Int) (l p : List (List Int)) : ∀ x ∈ (neededR v l p).1, 0 ≤ x ∧ x < (p.length : Int) := by
  unfold neededR
  intro x hx
  split at hx
  · split at hx
    · have := keepFrom_mem _ _ _ hx
      rw [needL_length, List.length_replicate] at this
      omega
    · simp at hx
  · simp at hx
theorem neededR_no (v : Int) (l p : List (List Int)) (h : (neededR v l p).2 = false) : (neededR v l p).1 = [] := by
  unfold neededR at h ⊢
  split
  · split
    · rename_i h1 h2
      rw [if_pos h1, if_pos h2] at h
      cases h
    · rfl
  · rfl
theorem specTrim_val (v : Int) (l p : List (List Int)) (hl : l.length ≤ 1048576) (hi : ∀ x ∈ l, x.length ≤ 1048576) (hp : p.length ≤ 1048576) (hpi : ∀ x ∈ p, x.length ≤ 1048576) (k : Nat) (hk : 9000000 ≤ k) : spec_TrimProof.f k v l p = some (trimR v l p) := by
  unfold spec_TrimProof.f trimR
  rw [specNeeded_val v l p hl hi hp hpi k hk]
  simp only [Option.bind_some]
  cases h : (neededR v l p).2 with
  | false =>
    rw [if_neg Bool.false_ne_true, neededR_no v l p h]
    rfl
  | true =>
    rw [if_pos rfl]
    have hn := neededR_length v l p hp
    have := specTrim_l p hp hpi (neededR v l p).1 hn (neededR_mem v l p) (neededR v l p).1.length 0 k [] (by omega) (by simp) (by omega)
    simpa using this
theorem implTrim_val (v : Int) (l p : List (List Int)) (hp : p.length ≤ 1048576) (hpi : ∀ x ∈ p, x.length ≤ 1048576) (k : Nat) (hk : 9000000 ≤ k) : impl_TrimProof.f k v l p = some (trimR v l p) := by
  unfold impl_TrimProof.f trimR impl_pick.f
  rw [implNeeded_val v l p k hk]
  simp only [Option.bind_some]
  have hn := neededR_length v l p hp
  have := implPick_l p hp hpi (neededR v l p).1 hn (neededR_mem v l p) (neededR v l p).1.length 0 k [] (by omega) (by simp) (by omega)
  rw [show ((0 : Nat) : Int) = 0 from rfl] at this
  rw [this]
  simp
theorem trimR_bounds (v : Int) (l p : List (List Int)) (hp : p.length ≤ 1048576) (hpi : ∀ x ∈ p, x.length ≤ 1048576) : (trimR v l p).1.length ≤ 1048576 ∧ ∀ x ∈ (trimR v l p).1, x.length ≤ 1048576 := by
  unfold trimR
  refine ⟨by simp only [List.length_map]; exact neededR_length v l p hp, fun x hx => ?_⟩
  obtain ⟨i, h1, rfl⟩ := List.mem_map.1 hx
  obtain ⟨a, b⟩ := neededR_mem v l p i h1
  exact hpi _ (rowIn_mem a b)

theorem FnExactTrimProof : laws_FnExactTrimProof.Pure := by
  rintro v l m hv ⟨h0, h1⟩ ⟨h2, h3⟩
  obtain ⟨k, hk⟩ : ∃ k : Nat, 9000000 ≤ k := ⟨_, Nat.le_refl _⟩
  refine ⟨k, ?_⟩
  unfold laws_FnExactTrimProof.f
  obtain ⟨t, ht, htb, hte⟩ := szIntSS_gen l h0 (fun x hx => (h1 x hx).1) 1048576 (by omega) (by omega) k (by omega)
  rw [ht]
  simp only [Option.bind_some]
  by_cases hn : t < 0
  · rw [if_pos hn]
  · rw [if_neg hn]
    obtain ⟨hb, hi⟩ := hte (by omega)
    obtain ⟨t2, ht2, _, hte2⟩ := szIntSS_gen m h2 (fun x hx => (h3 x hx).1) t (by omega) (by omega) k (by omega)
    rw [ht2]
    simp only [Option.bind_some]
    by_cases hn2 : t2 < 0
    · rw [if_pos hn2]
    · rw [if_neg hn2]
      obtain ⟨hb2, hi2⟩ := hte2 (by omega)
      have hs : ∀ q, 9000000 ≤ q → spec_TrimProof.f q v l m = some (trimR v l m) := fun q hq => specTrim_val v l m hb hi hb2 hi2 q hq
      have him : ∀ q, 9000000 ≤ q → impl_TrimProof.f q v l m = some (trimR v l m) := fun q hq => implTrim_val v l m hb2 hi2 q hq
      obtain ⟨hr, hri⟩ := trimR_bounds v l m hb2 hi2
      obtain ⟨r, hre⟩ : ∃ r, r = trimR v l m := ⟨_, rfl⟩
      rw [← hre] at hs him hr hri
      obtain ⟨r1, r2⟩ := r
      replace hr : r1.length ≤ 1048576 := hr
      replace hri : ∀ x ∈ r1, x.length ≤ 1048576 := hri
      have hT : ∀ q, 9000000 ≤ q → laws_toIntSS.f q l = some l := fun q hq => toIntSS_val l hb hi q (by omega)
      have hT2 : ∀ q, 9000000 ≤ q → laws_toIntSS.f q m = some m := fun q hq => toIntSS_val m hb2 hi2 q (by omega)
      have hE : ∀ q, 9000000 ≤ q → laws_eqIntSS.f q l l = some true := fun q hq => eqIntSS_val l hb hi q (by omega)
      have hE2 : ∀ q, 9000000 ≤ q → laws_eqIntSS.f q m m = some true := fun q hq => eqIntSS_val m hb2 hi2 q (by omega)
      have hER : ∀ q, 9000000 ≤ q → laws_eqIntSS.f q r1 r1 = some true := fun q hq => eqIntSS_val r1 hr hri q (by omega)
      have hsl := sumL_small l hb hi
      have hs0 := sumL_nonneg l
      have hsm := sumL_small m hb2 hi2
      have hm0 := sumL_nonneg m
      have hrl := sumL_small r1 hr hri
      have hr0 := sumL_nonneg r1
      have hM : ∀ q, 9000000 ≤ q → laws_markIntSS.f q l 1 = some (1 + sumL l, markZZ 1 l) := fun q hq => markIntSS_val l hb hi 1 (by omega) (by omega) q (by omega)
      have hM2 : ∀ q, 9000000 ≤ q → laws_markIntSS.f q m (1 + sumL l) = some (1 + sumL l + sumL m, markZZ (1 + sumL l) m) := fun q hq => markIntSS_gen m hb2 hi2 (1 + sumL l) (by omega) (by omega) q (by omega)
      have hMR : ∀ q, 9000000 ≤ q → laws_markIntSS.f q r1 1 = some (1 + sumL r1, markZZ 1 r1) := fun q hq => markIntSS_val r1 hr hri 1 (by omega) (by omega) q (by omega)
      have hH : ∀ q, 9000000 ≤ q → laws_heldIntSS.f q (markZZ 1 r1) 1 = some (1 + sumL r1) := fun q hq => heldIntSS_val r1 hr hri 1 (by omega) (by omega) q (by omega)
      have n1 : ¬ (1 + sumL l + sumL m < 0) := by omega
      have n2 : ¬ (1 + sumL r1 < 0) := by omega
      repeat (first
        | (rw [hT _ (by omega)]; simp only [Option.bind_some])
        | (rw [hT2 _ (by omega)]; simp only [Option.bind_some])
        | (rw [hs _ (by omega)]; simp only [Option.bind_some])
        | (rw [him _ (by omega)]; simp only [Option.bind_some])
        | (rw [hE _ (by omega)]; simp only [Option.bind_some])
        | (rw [hE2 _ (by omega)]; simp only [Option.bind_some])
        | (rw [hER _ (by omega)]; simp only [Option.bind_some])
        | (rw [hM _ (by omega)]; simp only [Option.bind_some])
        | (rw [hM2 _ (by omega)]; simp only [Option.bind_some])
        | (rw [hMR _ (by omega)]; simp only [Option.bind_some])
        | (rw [hH _ (by omega)]; simp only [Option.bind_some])
        | rw [if_neg n1]
        | rw [if_neg n2]
        | rw [if_pos rfl]
        | rw [bne_self_eq_false]
        | rw [if_neg Bool.false_ne_true]
        | simp only [Option.bind_some])
      try simp

end Go.Proofs.Ytafffpbagdoniaa.Pure
