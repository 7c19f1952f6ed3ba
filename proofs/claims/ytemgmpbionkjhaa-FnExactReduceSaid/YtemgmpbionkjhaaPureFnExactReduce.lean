/- The pure statement of the law FnExactReduce: the printed functions of the program and of the reference give the same answers, at every input that the statement's guards let in. -/
import Derived.Test.YtemgmpbionkjhaaPFnExactReducex5
namespace Go.Proofs.Ytemgmpbionkjhaa.Pure
open Go.RowKit Go.Proofs.Ytemgmpbionkjhaa.PFnExactReduce Go.Proofs.YtemgmpbionkjhaaW.PrintWords Go.Proofs.YtemgmpbionkjhaaW.PrintLast Go.Proofs.YtemgmpbionkjhaaW.PrintMore
theorem w64 {x : Int} (h0 : -9223372036854775808 ≤ x) (h1 : x ≤ 9223372036854775807) : wrap64 x = x := by
  unfold wrap64
  omega
theorem l64 {a : Int} (h : (Lit.int .i64 a).wf = true) : -9223372036854775808 ≤ a ∧ a ≤ 9223372036854775807 := by
  simp only [Lit.wf, IntKind.min, IntKind.max, IntKind.signed, IntKind.bits, Bool.and_eq_true, decide_eq_true_eq, if_true] at h
  omega
theorem rd_nat (l : List Int) (i : Nat) (h : i < l.length) : rd l (i : Int) = l[i] := by
  unfold rd
  rw [List.getD_eq_getElem?_getD, show ((i : Int).toNat) = i by omega, List.getElem?_eq_getElem h]
  rfl
theorem next64 {i : Nat} (h : i ≤ 4611686018427387904) : wrap64 ((i : Int) + 1) = ((i + 1 : Nat) : Int) := by
  rw [w64 (by omega) (by omega)]
  omega

theorem rdL_nat (l : List (List Int)) (i : Nat) (h : i < l.length) : rd_L1 l (i : Int) = l[i] := by
  unfold rd_L1
  rw [List.getD_eq_getElem?_getD, show ((i : Int).toNat) = i by omega, List.getElem?_eq_getElem h]
  rfl

theorem szIntS_val (l : List Int) (a : Int) (h0 : 0 ≤ a) (h1 : a ≤ 1048576) (hl : l.length ≤ 9223372036854775807) : ∃ t, laws_szIntS.f l a = some t ∧ t ≤ 1048576 ∧ (0 ≤ t → (l.length : Int) ≤ a) := by
  unfold laws_szIntS.f
  rw [w64 (by omega) (by omega)]
  by_cases h : a - (l.length : Int) < 0
  · rw [if_pos h]
    exact ⟨-1, rfl, by omega, fun h => absurd h (by omega)⟩
  · rw [if_neg h]
    exact ⟨_, rfl, by omega, fun _ => by omega⟩
theorem szIntSS_l (l : List (List Int)) (hl : l.length ≤ 1048576) (hm : ∀ x ∈ l, x.length ≤ 9223372036854775807) : ∀ (d i : Nat) (a : Int) (k : Nat), i + d = l.length → 0 ≤ a → a ≤ 1048576 → (∀ j (hj : j < l.length), j < i → l[j].length ≤ 1048576) → d < k →
    ∃ t, laws_szIntSS.l0 k l a (i : Int) = some t ∧ (0 ≤ t → ∀ x ∈ l, x.length ≤ 1048576)
  | 0, i, a, k, h1, h2, h3, h4, hk => by
    obtain ⟨k, rfl⟩ : ∃ m, k = m + 1 := ⟨k - 1, by omega⟩
    simp only [laws_szIntSS.l0]
    rw [if_neg (by omega)]
    refine ⟨a, rfl, fun _ x hx => ?_⟩
    obtain ⟨j, hj, rfl⟩ := List.mem_iff_getElem.1 hx
    exact h4 j hj (by omega)
  | d + 1, i, a, k, h1, h2, h3, h4, hk => by
    obtain ⟨k, rfl⟩ : ∃ m, k = m + 1 := ⟨k - 1, by omega⟩
    simp only [laws_szIntSS.l0]
    rw [if_pos (by omega), if_pos (by omega), rdL_nat l i (by omega)]
    obtain ⟨t, ht, htb, hte⟩ := szIntS_val l[i] a h2 h3 (hm _ (List.getElem_mem _))
    rw [ht]
    simp only [Option.bind_some]
    by_cases hn : t < 0
    · rw [if_pos hn]
      exact ⟨-1, rfl, fun h => absurd h (by omega)⟩
    · rw [if_neg hn, next64 (by omega)]
      refine szIntSS_l l hl hm d (i + 1) t k (by omega) (by omega) htb (fun j hj hji => ?_) (by omega)
      by_cases e : j = i
      · subst e
        have := hte (by omega)
        omega
      · exact h4 j hj (by omega)
theorem szIntSS_val (l : List (List Int)) (hl : l.length ≤ 9223372036854775807) (hm : ∀ x ∈ l, x.length ≤ 9223372036854775807) (k : Nat) (hk : 1048577 ≤ k) :
    ∃ t, laws_szIntSS.f k l 1048576 = some t ∧ (0 ≤ t → l.length ≤ 1048576 ∧ ∀ x ∈ l, x.length ≤ 1048576) := by
  unfold laws_szIntSS.f
  rw [w64 (by omega) (by omega)]
  by_cases h : (1048576 : Int) - (l.length : Int) < 0
  · rw [if_pos h]
    exact ⟨-1, rfl, fun h => absurd h (by omega)⟩
  · rw [if_neg h]
    obtain ⟨t, ht, hte⟩ := szIntSS_l l (by omega) hm l.length 0 (1048576 - (l.length : Int)) k (by omega) (by omega) (by omega) (fun j _ hj => absurd hj (by omega)) (by omega)
    exact ⟨t, ht, fun h0 => ⟨by omega, hte h0⟩⟩

theorem toIntS_l (l : List Int) (hl : l.length ≤ 4611686018427387904) : ∀ (d i : Nat) (y : List Int) (k : Nat), i + d = l.length → y.length = l.length → (∀ j, j < i → y[j]? = l[j]?) → d < k → laws_toIntS.l0 k l y (i : Int) = some l
  | 0, i, y, k, h1, h2, h3, hk => by
    obtain ⟨k, rfl⟩ : ∃ m, k = m + 1 := ⟨k - 1, by omega⟩
    simp only [laws_toIntS.l0]
    rw [if_neg (by omega)]
    congr 1
    apply List.ext_getElem?
    intro j
    by_cases hj : j < i
    · exact h3 j hj
    · rw [List.getElem?_eq_none (by omega), List.getElem?_eq_none (by omega)]
  | d + 1, i, y, k, h1, h2, h3, hk => by
    obtain ⟨k, rfl⟩ : ∃ m, k = m + 1 := ⟨k - 1, by omega⟩
    simp only [laws_toIntS.l0]
    rw [if_pos (by omega), if_pos (by omega), if_pos (by omega), next64 (by omega), rd_nat l i (by omega)]
    refine toIntS_l l hl d (i + 1) _ k (by omega) (by rw [List.length_set]; exact h2) (fun j hj => ?_) (by omega)
    rw [show ((i : Int).toNat) = i by omega, List.getElem?_set]
    by_cases e : i = j
    · subst e
      rw [if_pos rfl, if_pos (by omega), List.getElem?_eq_getElem (by omega)]
    · rw [if_neg e]
      exact h3 j (by omega)
theorem toIntS_val (l : List Int) (hl : l.length ≤ 1048576) (k : Nat) (hk : l.length < k) : laws_toIntS.f k l = some l := by
  unfold laws_toIntS.f
  rw [if_pos (by omega), if_pos (by omega)]
  exact toIntS_l l (by omega) l.length 0 _ k (by omega) (by rw [List.length_replicate]; omega) (fun j hj => absurd hj (by omega)) hk

theorem toIntSS_l (l : List (List Int)) (hl : l.length ≤ 1048576) (hi : ∀ x ∈ l, x.length ≤ 1048576) : ∀ (d i : Nat) (y : List (List Int)) (k : Nat), i + d = l.length → y.length = l.length → (∀ j, j < i → y[j]? = l[j]?) → d + 1048577 < k → laws_toIntSS.l0 k l y (i : Int) = some l
  | 0, i, y, k, h1, h2, h3, hk => by
    obtain ⟨k, rfl⟩ : ∃ m, k = m + 1 := ⟨k - 1, by omega⟩
    simp only [laws_toIntSS.l0]
    rw [if_neg (by omega)]
    congr 1
    apply List.ext_getElem?
    intro j
    by_cases hj : j < i
    · exact h3 j hj
    · rw [List.getElem?_eq_none (by omega), List.getElem?_eq_none (by omega)]
  | d + 1, i, y, k, h1, h2, h3, hk => by
    obtain ⟨k, rfl⟩ : ∃ m, k = m + 1 := ⟨k - 1, by omega⟩
    simp only [laws_toIntSS.l0]
    have hin := hi l[i] (List.getElem_mem _)
    rw [if_pos (by omega), if_pos (by omega), rdL_nat l i (by omega), toIntS_val l[i] hin k (by omega)]
    simp only [Option.bind_some]
    rw [if_pos (by omega), next64 (by omega)]
    refine toIntSS_l l hl hi d (i + 1) _ k (by omega) (by rw [List.length_set]; exact h2) (fun j hj => ?_) (by omega)
    rw [show ((i : Int).toNat) = i by omega, List.getElem?_set]
    by_cases e : i = j
    · subst e
      rw [if_pos rfl, if_pos (by omega), List.getElem?_eq_getElem (by omega)]
    · rw [if_neg e]
      exact h3 j (by omega)
theorem toIntSS_val (l : List (List Int)) (hl : l.length ≤ 1048576) (hi : ∀ x ∈ l, x.length ≤ 1048576) (k : Nat) (hk : 3000000 ≤ k) : laws_toIntSS.f k l = some l := by
  unfold laws_toIntSS.f
  rw [if_pos (by omega), if_pos (by omega)]
  exact toIntSS_l l hl hi l.length 0 _ k (by omega) (by rw [List.length_replicate]; omega) (fun j hj => absurd hj (by omega)) (by omega)

theorem eqIntS_l (l : List Int) (hl : l.length ≤ 4611686018427387904) : ∀ (d i k : Nat), i + d = l.length → d < k → laws_eqIntS.l0 k l l (i : Int) = some true
  | 0, i, k, h1, hk => by
    obtain ⟨k, rfl⟩ : ∃ m, k = m + 1 := ⟨k - 1, by omega⟩
    simp only [laws_eqIntS.l0]
    rw [if_neg (by omega)]
  | d + 1, i, k, h1, hk => by
    obtain ⟨k, rfl⟩ : ∃ m, k = m + 1 := ⟨k - 1, by omega⟩
    simp only [laws_eqIntS.l0]
    rw [if_pos (by omega), if_pos (by omega), if_pos (by omega), if_true, next64 (by omega)]
    exact eqIntS_l l hl d (i + 1) k (by omega) (by omega)
theorem eqIntS_val (l : List Int) (hl : l.length ≤ 4611686018427387904) (k : Nat) (hk : l.length < k) : laws_eqIntS.f k l l = some true := by
  unfold laws_eqIntS.f
  rw [if_pos rfl]
  exact eqIntS_l l hl l.length 0 k (by omega) hk

theorem eqIntSS_l (l : List (List Int)) (hl : l.length ≤ 1048576) (hi : ∀ x ∈ l, x.length ≤ 1048576) : ∀ (d i k : Nat), i + d = l.length → d + 1048577 < k → laws_eqIntSS.l0 k l l (i : Int) = some true
  | 0, i, k, h1, hk => by
    obtain ⟨k, rfl⟩ : ∃ m, k = m + 1 := ⟨k - 1, by omega⟩
    simp only [laws_eqIntSS.l0]
    rw [if_neg (by omega)]
  | d + 1, i, k, h1, hk => by
    obtain ⟨k, rfl⟩ : ∃ m, k = m + 1 := ⟨k - 1, by omega⟩
    simp only [laws_eqIntSS.l0]
    have hin := hi l[i] (List.getElem_mem _)
    rw [if_pos (by omega), if_pos (by omega), if_pos (by omega), rdL_nat l i (by omega), eqIntS_val l[i] (by omega) k (by omega)]
    simp only [Option.bind_some, if_true]
    rw [next64 (by omega)]
    exact eqIntSS_l l hl hi d (i + 1) k (by omega) (by omega)
theorem eqIntSS_val (l : List (List Int)) (hl : l.length ≤ 1048576) (hi : ∀ x ∈ l, x.length ≤ 1048576) (k : Nat) (hk : 3000000 ≤ k) : laws_eqIntSS.f k l l = some true := by
  unfold laws_eqIntSS.f
  rw [if_pos rfl]
  exact eqIntSS_l l hl hi l.length 0 k (by omega) (by omega)

theorem markIntS_l (a : Int) (ha : 0 ≤ a) (ha2 : a ≤ 4398046511104) : ∀ (d i : Nat) (y : List Int) (k : Nat), i + d = y.length → y.length ≤ 4398046511104 → (∀ j (hj : j < y.length), j < i → y[j] = a + j) → d < k →
    ∃ z : List Int, laws_markIntS.l0 k y (a + i) (i : Int) = some (a + y.length, z) ∧ z.length = y.length ∧ ∀ j (hj : j < z.length), z[j] = a + j
  | 0, i, y, k, h1, h2, h3, hk => by
    obtain ⟨k, rfl⟩ : ∃ m, k = m + 1 := ⟨k - 1, by omega⟩
    simp only [laws_markIntS.l0]
    rw [if_neg (by omega)]
    exact ⟨y, by rw [show (a + (i : Int)) = a + (y.length : Int) by omega], rfl, fun j hj => h3 j hj (by omega)⟩
  | d + 1, i, y, k, h1, h2, h3, hk => by
    obtain ⟨k, rfl⟩ : ∃ m, k = m + 1 := ⟨k - 1, by omega⟩
    simp only [laws_markIntS.l0]
    rw [if_pos (by omega), if_pos (by omega), next64 (by omega), w64 (by omega) (by omega), show a + (i : Int) + 1 = a + ((i + 1 : Nat) : Int) by omega, show ((i : Int).toNat) = i by omega]
    obtain ⟨z, hz, hzl, hze⟩ := markIntS_l a ha ha2 d (i + 1) (y.set i (a + i)) k (by rw [List.length_set]; omega) (by rw [List.length_set]; omega) (fun j hj hji => by
      rw [List.getElem_set]
      by_cases e : i = j
      · rw [if_pos e, e]
      · rw [if_neg e]
        exact h3 j (by rw [List.length_set] at hj; exact hj) (by omega)) (by omega)
    rw [List.length_set] at hz hzl
    exact ⟨z, hz, hzl, hze⟩
theorem heldIntS_l (a : Int) (ha : 0 ≤ a) (ha2 : a ≤ 4398046511104) (z : List Int) (hl : z.length ≤ 4398046511104) (hz : ∀ j (hj : j < z.length), z[j] = a + j) : ∀ (d i k : Nat), i + d = z.length → d < k → laws_heldIntS.l0 k z (a + i) (i : Int) = some (a + z.length)
  | 0, i, k, h1, hk => by
    obtain ⟨k, rfl⟩ : ∃ m, k = m + 1 := ⟨k - 1, by omega⟩
    simp only [laws_heldIntS.l0]
    rw [if_neg (by omega), show (a + (i : Int)) = a + (z.length : Int) by omega]
  | d + 1, i, k, h1, hk => by
    obtain ⟨k, rfl⟩ : ∃ m, k = m + 1 := ⟨k - 1, by omega⟩
    simp only [laws_heldIntS.l0]
    rw [if_pos (by omega), if_pos (by omega), rd_nat z i (by omega), if_pos (hz i (by omega)), next64 (by omega), w64 (by omega) (by omega), show a + (i : Int) + 1 = a + ((i + 1 : Nat) : Int) by omega]
    exact heldIntS_l a ha ha2 z hl hz d (i + 1) k (by omega) (by omega)
def markZ (a : Int) (n : Nat) : List Int := (List.range n).map fun (j : Nat) => a + (j : Int)
theorem markZ_length (a : Int) (n : Nat) : (markZ a n).length = n := by simp [markZ]
theorem markIntS_val (y : List Int) (a : Int) (ha : 0 ≤ a) (ha2 : a ≤ 4398046511104) (hl : y.length ≤ 4398046511104) (k : Nat) (hk : y.length < k) :
    laws_markIntS.f k y a = some (a + y.length, markZ a y.length) := by
  obtain ⟨z, h1, h2, h3⟩ := markIntS_l a ha ha2 y.length 0 y k (by omega) hl (fun j _ hj => absurd hj (by omega)) hk
  have hz : z = markZ a y.length := by
    apply List.ext_getElem (by rw [h2, markZ_length])
    intro j hj1 hj2
    rw [h3 j hj1]
    simp [markZ]
  rw [← hz]
  unfold laws_markIntS.f
  simpa using h1
theorem heldIntS_val (n : Nat) (a : Int) (ha : 0 ≤ a) (ha2 : a ≤ 4398046511104) (hn : n ≤ 4398046511104) (k : Nat) (hk : n < k) : laws_heldIntS.f k (markZ a n) a = some (a + n) := by
  have := heldIntS_l a ha ha2 (markZ a n) (by rw [markZ_length]; omega) (fun j hj => by simp [markZ]) (markZ a n).length 0 k (by omega) (by rw [markZ_length]; omega)
  rw [markZ_length] at this
  unfold laws_heldIntS.f
  simpa using this

def markZZ : Int → List (List Int) → List (List Int)
  | _, [] => []
  | a, x :: r => markZ a x.length :: markZZ (a + (x.length : Int)) r
def sumL : List (List Int) → Int
  | [] => 0
  | x :: r => (x.length : Int) + sumL r
theorem sumL_nonneg : ∀ l : List (List Int), 0 ≤ sumL l
  | [] => by simp [sumL]
  | x :: r => by
    have := sumL_nonneg r
    simp only [sumL]
    omega
theorem sumL_le (b : Nat) : ∀ l : List (List Int), (∀ x ∈ l, x.length ≤ b) → sumL l ≤ ((l.length * b : Nat) : Int)
  | [], _ => by simp [sumL]
  | x :: r, h => by
    have h1 := sumL_le b r (fun y hy => h y (List.mem_cons_of_mem _ hy))
    have h2 := h x List.mem_cons_self
    have h3 : (r.length + 1) * b = r.length * b + b := by rw [Nat.succ_mul]
    simp only [sumL, List.length_cons]
    omega
theorem sumL_small (l : List (List Int)) (hl : l.length ≤ 1048576) (hi : ∀ x ∈ l, x.length ≤ 1048576) : sumL l ≤ 1099511627776 := by
  have h1 := sumL_le 1048576 l hi
  have h2 : l.length * 1048576 ≤ 1048576 * 1048576 := Nat.mul_le_mul_right _ hl
  omega
theorem markIntSS_l : ∀ (rest done : List (List Int)) (a : Int) (k : Nat), 0 ≤ a → a + sumL rest ≤ 4398046511104 → done.length + rest.length ≤ 1048576 → (∀ x ∈ rest, x.length ≤ 1048576) → rest.length + 1048578 ≤ k →
    laws_markIntSS.l0 k (done ++ rest) a (done.length : Int) = some (a + sumL rest, done ++ markZZ a rest)
  | [], done, a, k, h0, h1, h2, h3, hk => by
    obtain ⟨k, rfl⟩ : ∃ m, k = m + 1 := ⟨k - 1, by omega⟩
    simp only [laws_markIntSS.l0, markZZ, sumL]
    rw [if_neg (by simp)]
    simp
  | x :: r, done, a, k, h0, h1, h2, h3, hk => by
    obtain ⟨k, rfl⟩ : ∃ m, k = m + 1 := ⟨k - 1, by omega⟩
    have hs := sumL_nonneg r
    have hx := h3 x List.mem_cons_self
    simp only [sumL] at h1
    simp only [List.length_cons] at h2 hk
    simp only [laws_markIntSS.l0]
    rw [if_pos (by simp only [List.length_append, List.length_cons]; omega), if_pos (by omega), show ((done.length : Int).toNat) = done.length by omega]
    rw [show (done ++ x :: r).getD done.length [] = x by simp]
    rw [markIntS_val x a h0 (by omega) (by omega) k (by omega)]
    simp only [Option.bind_some]
    rw [next64 (by omega), show (done ++ x :: r).set done.length (markZ a x.length) = (done ++ [markZ a x.length]) ++ r by simp]
    have := markIntSS_l r (done ++ [markZ a x.length]) (a + x.length) k (by omega) (by omega) (by simp only [List.length_append, List.length_cons, List.length_nil]; omega) (fun y hy => h3 y (List.mem_cons_of_mem _ hy)) (by omega)
    rw [show (((done ++ [markZ a x.length]).length : Nat) : Int) = ((done.length + 1 : Nat) : Int) by simp] at this
    rw [this]
    simp only [sumL, markZZ, List.append_assoc, List.singleton_append, Int.add_assoc]
theorem markIntSS_val (l : List (List Int)) (hl : l.length ≤ 1048576) (hi : ∀ x ∈ l, x.length ≤ 1048576) (a : Int) (h0 : 0 ≤ a) (h1 : a ≤ 1099511627776) (k : Nat) (hk : 3000000 ≤ k) : laws_markIntSS.f k l a = some (a + sumL l, markZZ a l) := by
  have := markIntSS_l l [] a k h0 (by have := sumL_small l hl hi; omega) (by simpa using hl) hi (by omega)
  unfold laws_markIntSS.f
  simpa using this

theorem heldIntSS_l : ∀ (rest done : List (List Int)) (a : Int) (k : Nat), 0 ≤ a → a + sumL rest ≤ 4398046511104 → done.length + rest.length ≤ 1048576 → (∀ x ∈ rest, x.length ≤ 1048576) → rest.length + 1048578 ≤ k →
    laws_heldIntSS.l0 k (done ++ markZZ a rest) a (done.length : Int) = some (a + sumL rest)
  | [], done, a, k, h0, h1, h2, h3, hk => by
    obtain ⟨k, rfl⟩ : ∃ m, k = m + 1 := ⟨k - 1, by omega⟩
    show laws_heldIntSS.l0 (k + 1) (done ++ []) a (done.length : Int) = some (a + 0)
    rw [List.append_nil, Int.add_zero]
    simp only [laws_heldIntSS.l0]
    rw [if_neg (by omega)]
  | x :: r, done, a, k, h0, h1, h2, h3, hk => by
    obtain ⟨k, rfl⟩ : ∃ m, k = m + 1 := ⟨k - 1, by omega⟩
    have hs := sumL_nonneg r
    have hx := h3 x List.mem_cons_self
    simp only [sumL] at h1
    simp only [List.length_cons] at h2 hk
    show laws_heldIntSS.l0 (k + 1) (done ++ markZ a x.length :: markZZ (a + (x.length : Int)) r) a (done.length : Int) = _
    simp only [laws_heldIntSS.l0]
    rw [if_pos (by simp only [List.length_append, List.length_cons]; omega), if_pos (by omega)]
    rw [show rd_L1 (done ++ markZ a x.length :: markZZ (a + (x.length : Int)) r) (done.length : Int) = markZ a x.length by simp [rd_L1]]
    rw [heldIntS_val x.length a h0 (by omega) (by omega) k (by omega)]
    simp only [Option.bind_some]
    rw [if_neg (by omega), next64 (by omega)]
    have := heldIntSS_l r (done ++ [markZ a x.length]) (a + x.length) k (by omega) (by omega) (by simp only [List.length_append, List.length_cons, List.length_nil]; omega) (fun y hy => h3 y (List.mem_cons_of_mem _ hy)) (by omega)
    rw [show (((done ++ [markZ a x.length]).length : Nat) : Int) = ((done.length + 1 : Nat) : Int) by simp, show (done ++ [markZ a x.length]) ++ markZZ (a + (x.length : Int)) r = done ++ markZ a x.length :: markZZ (a + (x.length : Int)) r by simp] at this
    rw [this]
    simp only [sumL, Int.add_assoc]
theorem heldIntSS_val (l : List (List Int)) (hl : l.length ≤ 1048576) (hi : ∀ x ∈ l, x.length ≤ 1048576) (a : Int) (h0 : 0 ≤ a) (h1 : a ≤ 1099511627776) (k : Nat) (hk : 3000000 ≤ k) : laws_heldIntSS.f k (markZZ a l) a = some (a + sumL l) := by
  have := heldIntSS_l l [] a k h0 (by have := sumL_small l hl hi; omega) (by simpa using hl) hi (by omega)
  unfold laws_heldIntSS.f
  simpa using this

theorem drop_at (l : List Int) (i : Nat) (h : i < l.length) : l.drop i = l[i] :: l.drop (i + 1) := List.drop_eq_getElem_cons h
theorem has_l (l : List Int) (x : Int) (hl : l.length ≤ 1099511627776) : ∀ (d i k : Nat), i + d = l.length → d < k → spec_l1Has.l0 k x l (l.length : Int) (i : Int) = some ((l.drop i).any (· == x))
  | 0, i, k, h1, hk => by
    obtain ⟨k, rfl⟩ : ∃ m, k = m + 1 := ⟨k - 1, by omega⟩
    simp only [spec_l1Has.l0]
    rw [if_neg (by omega), List.drop_of_length_le (by omega)]
    rfl
  | d + 1, i, k, h1, hk => by
    obtain ⟨k, rfl⟩ : ∃ m, k = m + 1 := ⟨k - 1, by omega⟩
    simp only [spec_l1Has.l0]
    rw [if_pos (by omega), if_pos (by omega), if_pos (by omega), rd_nat l i (by omega), next64 (by omega), drop_at l i (by omega)]
    by_cases e : l[i] = x
    · rw [if_pos e]
      rw [List.any_cons, show (l[i] == x) = true by simpa using e, Bool.true_or]
    · rw [if_neg e, has_l l x hl d (i + 1) k (by omega) (by omega), List.any_cons, show (l[i] == x) = false by simpa using e, Bool.false_or]
theorem has_val (l : List Int) (x : Int) (hl : l.length ≤ 1099511627776) (k : Nat) (hk : l.length < k) : spec_l1Has.f k l x = some (l.any (· == x)) := by
  unfold spec_l1Has.f
  have := has_l l x hl l.length 0 k (by omega) hk
  simpa using this

theorem specIn_val (n a b : Int) : spec_l1In.f n a b = some (decide (a ≤ n) && decide (n ≤ b)) := by
  unfold spec_l1In.f
  by_cases h : n ≥ a
  · rw [if_pos h]
    simp [h]
  · rw [if_neg h]
    simp [h]
theorem neg64 {n : Int} (h0 : -4611686018427387904 ≤ n) (h1 : n ≤ 4611686018427387904) : wrap64 (-n) = -n := w64 (by omega) (by omega)
theorem vab_small {n : Int} (h0 : -12 ≤ n) (h1 : n ≤ 12) : vab n = if n < -n then -n else n := by
  unfold vab
  rw [neg64 (by omega) (by omega)]
theorem vab_eq {n m : Int} (h0 : -12 ≤ n) (h1 : n ≤ 12) (h2 : -12 ≤ m) (h3 : m ≤ 12) : (vab n == vab m) = ((n == m) || (n == -m)) := by
  rw [vab_small h0 h1, vab_small h2 h3, Bool.eq_iff_iff]
  simp only [beq_iff_eq, Bool.or_eq_true]
  split <;> split <;> omega
theorem litB_small {n v : Int} (h0 : 0 ≤ v) (h1 : v ≤ 12) (h : litB n v = true) : n ≠ 0 ∧ -v ≤ n ∧ n ≤ v := by
  unfold litB at h
  rw [neg64 (by omega) (by omega)] at h
  simpa [Bool.and_eq_true] using h
theorem any_vab (l : List Int) (m : Int) (h2 : -12 ≤ m) (h3 : m ≤ 12) (hl : ∀ x ∈ l, -12 ≤ x ∧ x ≤ 12) : (l.any fun k => vab k == vab m) = (l.any (· == m) || l.any (· == -m)) := by
  induction l with
  | nil => rfl
  | cons a l ih =>
    have ha := hl a List.mem_cons_self
    rw [List.any_cons, List.any_cons, List.any_cons, ih (fun x hx => hl x (List.mem_cons_of_mem _ hx)), vab_eq ha.1 ha.2 h2 h3]
    cases (a == m) <;> cases (a == -m) <;> cases l.any (· == m) <;> simp

theorem clause_l (v : Int) (hv0 : 0 ≤ v) (hv1 : v ≤ 12) (l : List Int) (hl : l.length ≤ 1099511627776) : ∀ (d i k : Nat), i + d = l.length → (∀ x ∈ l.take i, -12 ≤ x ∧ x ≤ 12) → d + l.length + 1 < k →
    spec_l4Clause.l0 k v l l (l.length : Int) (i : Int) = some (clauseFrom v (l.take i) (l.drop i) && decide (l.length ≤ 12))
  | 0, i, k, h1, hs, hk => by
    obtain ⟨k, rfl⟩ : ∃ m, k = m + 1 := ⟨k - 1, by omega⟩
    simp only [spec_l4Clause.l0]
    rw [if_neg (by omega), List.drop_of_length_le (by omega)]
    simp only [clauseFrom, Bool.true_and]
    congr 2
    exact propext (by omega)
  | d + 1, i, k, h1, hs, hk => by
    obtain ⟨k, rfl⟩ : ∃ m, k = m + 1 := ⟨k - 1, by omega⟩
    have hil : i < l.length := by omega
    have ht : (l.take i).length = i := by rw [List.length_take]; omega
    simp only [spec_l4Clause.l0]
    rw [if_pos (by omega), if_pos (by omega), if_pos (by omega), rd_nat l i hil, next64 (by omega), drop_at l i hil, show ((i : Int).toNat) = i by omega, if_pos (show (i : Int) ≤ (l.length : Int) by omega)]
    simp only [clauseFrom]
    by_cases e0 : l[i] = 0
    · rw [if_pos e0]
      have : litB l[i] v = false := by unfold litB; simp [e0]
      rw [this]
      rfl
    · rw [if_neg e0, specIn_val]
      simp only [Option.bind_some]
      have hlit : litB l[i] v = (decide (wrap64 (-v) ≤ l[i]) && decide (l[i] ≤ v)) := by unfold litB; simp [e0]
      rw [← hlit]
      cases hb : litB l[i] v with
      | false => rfl
      | true =>
        obtain ⟨_, h4, h5⟩ := litB_small hv0 hv1 hb
        rw [if_pos rfl, has_val _ _ (by omega) _ (by omega), neg64 (by omega) (by omega), has_val _ _ (by omega) _ (by omega), any_vab _ _ (by omega) (by omega) hs]
        simp only [Option.bind_some]
        cases (l.take i).any (· == l[i]) with
        | true => rfl
        | false =>
          cases (l.take i).any (· == -l[i]) with
          | true => rfl
          | false =>
            have hst : l.take (i + 1) = l.take i ++ [l[i]] := List.take_succ_eq_append_getElem hil
            have := clause_l v hv0 hv1 l hl d (i + 1) k (by omega) (fun x hx => by
              rw [hst] at hx
              rcases List.mem_append.1 hx with hx | hx
              · exact hs x hx
              · rw [List.mem_singleton.1 hx]
                omega) (by omega)
            rw [hst] at this
            simp only [Bool.false_eq_true, if_false, Bool.or_false, Bool.not_false, Bool.true_and]
            exact this
theorem clause_val (v : Int) (hv0 : 0 ≤ v) (hv1 : v ≤ 12) (l : List Int) (hl : l.length ≤ 1048576) (k : Nat) (hk : 3000000 ≤ k) : spec_l4Clause.f k v l = some (isClauseB l v) := by
  unfold spec_l4Clause.f isClauseB
  have := clause_l v hv0 hv1 l (by omega) l.length 0 k (by omega) (by simp) (by omega)
  simpa using this

def goodB (v : Int) (l : List (List Int)) : Bool := (decide (0 ≤ v) && decide (v ≤ 12)) && (decide (l.length ≤ 60) && l.all fun x => isClauseB x v)
theorem good_l (v : Int) (hv0 : 0 ≤ v) (hv1 : v ≤ 12) (l : List (List Int)) (hl : l.length ≤ 1048576) (hi : ∀ x ∈ l, x.length ≤ 1048576) : ∀ (d i k : Nat), i + d = l.length → d + 3000001 ≤ k → spec_l4Good.l0 k v l (l.length : Int) (i : Int) = some ((l.drop i).all fun x => isClauseB x v)
  | 0, i, k, h1, hk => by
    obtain ⟨k, rfl⟩ : ∃ m, k = m + 1 := ⟨k - 1, by omega⟩
    simp only [spec_l4Good.l0]
    rw [if_neg (by omega), List.drop_of_length_le (by omega)]
    rfl
  | d + 1, i, k, h1, hk => by
    obtain ⟨k, rfl⟩ : ∃ m, k = m + 1 := ⟨k - 1, by omega⟩
    have hil : i < l.length := by omega
    simp only [spec_l4Good.l0]
    rw [if_pos (by omega), if_pos (by omega), if_pos (by omega), rdL_nat l i hil, next64 (by omega), clause_val v hv0 hv1 l[i] (hi _ (List.getElem_mem _)) k (by omega), List.drop_eq_getElem_cons hil, List.all_cons]
    simp only [Option.bind_some]
    cases isClauseB l[i] v with
    | false => rfl
    | true =>
      first | rw [if_pos rfl] | rw [if_true]
      rw [good_l v hv0 hv1 l hl hi d (i + 1) k (by omega) (by omega)]
      rfl
theorem specGood_val (v : Int) (l : List (List Int)) (hl : l.length ≤ 1048576) (hi : ∀ x ∈ l, x.length ≤ 1048576) (k : Nat) (hk : 5000000 ≤ k) : spec_GoodClauses.f k v l = some (goodB v l) := by
  obtain ⟨k, rfl⟩ : ∃ m, k = m + 1 := ⟨k - 1, by omega⟩
  unfold spec_GoodClauses.f spec_l4Good.f goodB
  rw [specIn_val]
  simp only [Option.bind_some, spec_l4Good.j0]
  by_cases hv : 0 ≤ v ∧ v ≤ 12
  · rw [show (decide (0 ≤ v) && decide (v ≤ 12)) = true by simp [hv.1, hv.2], if_pos rfl]
    by_cases h60 : l.length ≤ 60
    · have : decide ((l.length : Int) > 60) = false := decide_eq_false (by omega)
      rw [this, if_neg Bool.false_ne_true]
      have h := good_l v hv.1 hv.2 l hl hi l.length 0 k (by omega) (by omega)
      simp only [List.drop_zero] at h
      rw [show ((0 : Nat) : Int) = 0 from rfl] at h
      rw [h]
      simp [h60]
    · have : decide ((l.length : Int) > 60) = true := decide_eq_true (by omega)
      rw [this]
      first | rw [if_pos rfl] | rw [if_true]
      simp [h60]
  · have hd : (decide (0 ≤ v) && decide (v ≤ 12)) = false := by
      rw [Bool.and_eq_false_iff]
      rcases Int.lt_or_le v 0 with h | h
      · exact .inl (decide_eq_false (by omega))
      · exact .inr (decide_eq_false (by omega))
    rw [hd, if_neg Bool.false_ne_true]
    first | rw [if_pos rfl] | rw [if_true]
    rfl
theorem implIn_val (n a b : Int) : impl_in.f n a b = some (decide (a ≤ n) && decide (n ≤ b)) := by
  unfold impl_in.f
  by_cases h : n ≥ a
  · rw [if_pos h]
    simp [h]
  · rw [if_neg h]
    simp [h]
theorem implGood_val (v : Int) (l : List (List Int)) : impl_GoodClauses.f v l = some (goodB v l) := by
  unfold impl_GoodClauses.f impl_areClauses.f goodB
  rw [implIn_val]
  simp only [Option.bind_some]
  cases (decide (0 ≤ v) && decide (v ≤ 12)) with
  | false => rfl
  | true =>
    first | rw [if_pos rfl] | rw [if_true]
    by_cases h60 : l.length ≤ 60
    · rw [if_pos (by omega)]
      simp [h60, List.all_eq_not_any_not]
    · rw [if_neg (by omega)]
      simp [h60]
theorem goodB_facts {v : Int} {l : List (List Int)} (h : goodB v l = true) : 0 ≤ v ∧ v ≤ 12 ∧ l.length ≤ 60 ∧ ∀ x ∈ l, isClauseB x v = true := by
  unfold goodB at h
  simp only [Bool.and_eq_true, decide_eq_true_eq, List.all_eq_true] at h
  exact ⟨h.1.1, h.1.2, h.2.1, h.2.2⟩

theorem clause_lits (v : Int) : ∀ (l seen : List Int), clauseFrom v seen l = true → ∀ n ∈ l, litB n v = true
  | [], _, _, n, hn => by simp at hn
  | a :: r, seen, h, n, hn => by
    unfold clauseFrom at h
    simp only [Bool.and_eq_true] at h
    rcases List.mem_cons.1 hn with rfl | hn
    · exact h.1
    · exact clause_lits v r _ h.2.2 n hn
theorem isClause_facts {v : Int} {c : List Int} (h : isClauseB c v = true) : c.length ≤ 12 ∧ ∀ n ∈ c, litB n v = true := by
  unfold isClauseB at h
  simp only [Bool.and_eq_true, decide_eq_true_eq] at h
  exact ⟨h.2, clause_lits v c [] h.1⟩
theorem goodB_lits {v : Int} {l : List (List Int)} (h : goodB v l = true) : ∀ c ∈ l, c.length ≤ 12 ∧ ∀ n ∈ c, n ≠ 0 ∧ -v ≤ n ∧ n ≤ v := by
  obtain ⟨h0, h1, _, h2⟩ := goodB_facts h
  intro c hc
  obtain ⟨a, b⟩ := isClause_facts (h2 c hc)
  exact ⟨a, fun n hn => litB_small h0 h1 (b n hn)⟩

theorem any_flip (l : List Int) (a : Int) : (l.any fun y => a == y) = l.any (· == a) := by
  congr 1
  funext y
  rw [Bool.eq_iff_iff]
  simp only [beq_iff_eq]
  exact eq_comm

def hasB (l : List Int) (n : Int) : Bool := l.any (· == n)
theorem meets_cons (x : Int) (r out : List Int) : meetsB (x :: r) out = (hasB out x || meetsB r out) := by
  unfold meetsB hasB
  rw [List.any_cons, any_flip]
theorem without_cons (x : Int) (r out : List Int) : withoutL (x :: r) out = if hasB out (wrap64 (-x)) = true then withoutL r out else x :: withoutL r out := by
  unfold withoutL hasB
  rw [List.filter_cons, any_flip]
  cases out.any (· == wrap64 (-x)) <;> simp

/-- What is left of the clauses, given literals. -/
def reduceL (g : List Int) : List (List Int) → List (List Int)
  | [] => []
  | c :: r => if meetsB c g = true then reduceL g r else withoutL c g :: reduceL g r
theorem reduceL_length (g : List Int) : ∀ l : List (List Int), (reduceL g l).length ≤ l.length
  | [] => by simp [reduceL]
  | c :: r => by
    have := reduceL_length g r
    unfold reduceL
    split
    · simp only [List.length_cons]
      omega
    · simp only [List.length_cons]
      omega
theorem reduceL_rows (g : List Int) : ∀ l : List (List Int), (∀ x ∈ l, x.length ≤ 1000) → ∀ x ∈ reduceL g l, x.length ≤ 1000
  | [], _, x, hx => by simp [reduceL] at hx
  | c :: r, h, x, hx => by
    have ih := reduceL_rows g r (fun y hy => h y (List.mem_cons_of_mem _ hy))
    unfold reduceL at hx
    split at hx
    · exact ih x hx
    · rcases List.mem_cons.1 hx with e | hx
      · subst e
        have h1 := h c List.mem_cons_self
        have h2 : (withoutL c g).length ≤ c.length := List.length_filter_le _ _
        omega
      · exact ih x hx
theorem specReduce_in (g : List Int) (hg : g.length ≤ 1000) (l : List (List Int)) (n : Int) (c : List Int) (hc : c.length ≤ 1000) (out : List (List Int)) (ho : out.length ≤ 1000) : ∀ (d j K : Nat) (fl : Bool) (cur : List Int), j + d = c.length → cur.length ≤ j → 2000 ≤ K →
    spec_l4Reduce.l1 (K + d + 1) g out fl cur l (l.length : Int) n c (c.length : Int) (j : Int) = if (fl || meetsB (c.drop j) g) = true then spec_l4Reduce.l0 K g out l (l.length : Int) (wrap64 (n + 1)) else spec_l4Reduce.l0 K g (out ++ [cur ++ withoutL (c.drop j) g]) l (l.length : Int) (wrap64 (n + 1))
  | 0, j, K, fl, cur, h1, h2, hK => by
    rw [Nat.add_zero, spec_l4Reduce.l1, if_neg (by omega), List.drop_of_length_le (by omega)]
    cases fl with
    | true => simp
    | false =>
      rw [if_neg Bool.false_ne_true, if_pos (show out.length < 5864062014805 by omega)]
      simp [meetsB, withoutL]
  | d + 1, j, K, fl, cur, h1, h2, hK => by
    have hj : j < c.length := by omega
    have e : K + (d + 1) + 1 = (K + d + 1) + 1 := by omega
    rw [e, spec_l4Reduce.l1, if_pos (show (j : Int) < (c.length : Int) by omega), if_pos (show 0 ≤ (j : Int) by omega), if_pos (show (j : Int) < (c.length : Int) by omega), rd_nat c j hj, next64 (by omega), has_val g _ (by omega) (K + d + 1) (by omega), has_val g _ (by omega) (K + d + 1) (by omega)]
    simp only [Option.bind_some]
    have hcu : cur.length < 17592186044416 := by omega
    simp only [if_pos hcu]
    rw [drop_at c j hj, meets_cons, without_cons]
    rw [specReduce_in g hg l n c hc out ho d (j + 1) K true cur (by omega) (by omega) hK, specReduce_in g hg l n c hc out ho d (j + 1) K true (cur ++ [c[j]]) (by omega) (by simp; omega) hK]
    rw [specReduce_in g hg l n c hc out ho d (j + 1) K (g.any fun x => x == c[j]) cur (by omega) (by omega) hK, specReduce_in g hg l n c hc out ho d (j + 1) K (g.any fun x => x == c[j]) (cur ++ [c[j]]) (by omega) (by simp; omega) hK]
    unfold hasB
    cases fl <;> cases (g.any fun x => x == c[j]) <;> cases (g.any fun x => x == wrap64 (-c[j])) <;> simp
theorem specReduce_l (g : List Int) (hg : g.length ≤ 1000) (l : List (List Int)) (hn : l.length ≤ 1000) (hl : ∀ x ∈ l, x.length ≤ 1000) : ∀ (d i k : Nat) (out : List (List Int)), i + d = l.length → out.length ≤ i → 2000 + d * 1002 < k → spec_l4Reduce.l0 k g out l (l.length : Int) (i : Int) = some (out ++ reduceL g (l.drop i)) := by
  intro d
  induction d with
  | zero =>
    intro i k out h1 h2 hk
    obtain ⟨k, rfl⟩ : ∃ m, k = m + 1 := ⟨k - 1, by omega⟩
    rw [spec_l4Reduce.l0, if_neg (by omega), List.drop_of_length_le (by omega)]
    simp [reduceL]
  | succ d ih =>
    intro i k out h1 h2 hk
    rw [Nat.succ_mul] at hk
    have hi : i < l.length := by omega
    have hc := hl _ (List.getElem_mem hi)
    obtain ⟨c, hce⟩ : ∃ c, c = l[i] := ⟨_, rfl⟩
    rw [← hce] at hc
    obtain ⟨K, rfl⟩ : ∃ K, k = (K + c.length + 1) + 1 := ⟨k - c.length - 2, by omega⟩
    rw [spec_l4Reduce.l0, if_pos (by omega), if_pos (by omega), if_pos (by omega), rdL_nat l i hi, ← hce]
    generalize d * 1002 = dd at hk ih
    have hk2 : 2000 + dd < K := by omega
    have := specReduce_in g hg l (i : Int) c hc out (by omega) c.length 0 K false [] (by omega) (by simp) (by omega)
    rw [show ((0 : Nat) : Int) = 0 from rfl] at this
    rw [this, next64 (by omega), List.drop_eq_getElem_cons hi, ← hce]
    simp only [List.drop_zero, Bool.false_or, List.nil_append]
    rw [ih (i + 1) K out (by omega) (by omega) hk2, ih (i + 1) K (out ++ [withoutL c g]) (by omega) (by simp; omega) hk2]
    rw [reduceL]
    cases meetsB c g <;> simp
theorem specReduceIn_val (g : List Int) (hg : g.length ≤ 1000) (l : List (List Int)) (hn : l.length ≤ 1000) (hl : ∀ x ∈ l, x.length ≤ 1000) (k : Nat) (hk : 2000000 ≤ k) : spec_l4Reduce.f k l g = some (reduceL g l) := by
  have := specReduce_l g hg l hn hl l.length 0 k [] (by omega) (by simp) (by omega)
  unfold spec_l4Reduce.f
  simpa using this
theorem implReduce_l (g : List Int) (hg : g.length ≤ 1000) (l : List (List Int)) (hn : l.length ≤ 1000) (hl : ∀ x ∈ l, x.length ≤ 1000) : ∀ (d i k : Nat) (out : List (List Int)), i + d = l.length → out.length ≤ i → d < k → impl_reduce.l0 k g out l (l.length : Int) (i : Int) = some (out ++ reduceL g (l.drop i))
  | 0, i, k, out, h1, h2, hk => by
    obtain ⟨k, rfl⟩ : ∃ m, k = m + 1 := ⟨k - 1, by omega⟩
    simp only [impl_reduce.l0]
    rw [if_neg (by omega), List.drop_of_length_le (by omega)]
    simp [reduceL]
  | d + 1, i, k, out, h1, h2, hk => by
    obtain ⟨k, rfl⟩ : ∃ m, k = m + 1 := ⟨k - 1, by omega⟩
    have hi : i < l.length := by omega
    have hc := hl _ (List.getElem_mem hi)
    simp only [impl_reduce.l0]
    rw [if_pos (by omega), if_pos (by omega), if_pos (by omega), rdL_nat l i hi, next64 (by omega), List.drop_eq_getElem_cons hi]
    unfold impl_meets.f impl_without.f reduceL
    simp only [Option.bind_some]
    rw [if_pos (show (l[i]).length < 17592186044416 by omega)]
    simp only [Option.bind_some]
    rw [if_pos (show out.length < 5864062014805 by omega)]
    rw [implReduce_l g hg l hn hl d (i + 1) k out (by omega) (by omega) (by omega), implReduce_l g hg l hn hl d (i + 1) k (out ++ [withoutL l[i] g]) (by omega) (by simp; omega) (by omega)]
    cases meetsB l[i] g <;> simp
theorem implReduceIn_val (g : List Int) (hg : g.length ≤ 1000) (l : List (List Int)) (hn : l.length ≤ 1000) (hl : ∀ x ∈ l, x.length ≤ 1000) (k : Nat) (hk : 2000 ≤ k) : impl_reduce.f k l g = some (reduceL g l) := by
  have := implReduce_l g hg l hn hl l.length 0 k [] (by omega) (by simp) (by omega)
  unfold impl_reduce.f
  simpa using this
/-- What Reduce returns, for all arguments. -/
def reduceR (v : Int) (l : List (List Int)) (g : List Int) : List (List Int) × Bool := if goodB v l = true then (if isClauseB g v = true then (reduceL g l, true) else ([], false)) else ([], false)
theorem good_rows {v : Int} {l : List (List Int)} (h : goodB v l = true) : ∀ x ∈ l, x.length ≤ 1000 := fun x hx => by
  have := (goodB_lits h x hx).1
  omega
theorem specReduce_val (v : Int) (l : List (List Int)) (g : List Int) (hl : l.length ≤ 1048576) (hi : ∀ x ∈ l, x.length ≤ 1048576) (hc : g.length ≤ 1048576) (k : Nat) (hk : 5000000 ≤ k) : spec_Reduce.f k v l g = some (reduceR v l g) := by
  unfold spec_Reduce.f spec_l4Given.f reduceR
  rw [specGood_val v l hl hi k hk]
  simp only [Option.bind_some]
  cases hg : goodB v l with
  | false => rfl
  | true =>
    obtain ⟨h0, h1, h60, _⟩ := goodB_facts hg
    simp only [if_true]
    rw [clause_val v h0 h1 g hc k (by omega)]
    simp only [Option.bind_some]
    cases hcl : isClauseB g v with
    | false => rfl
    | true =>
      have := (isClause_facts hcl).1
      simp only [if_true]
      rw [specReduceIn_val g (by omega) l (by omega) (good_rows hg) k (by omega)]
      rfl
theorem implReduce_val (v : Int) (l : List (List Int)) (g : List Int) (k : Nat) (hk : 5000000 ≤ k) : impl_Reduce.f k v l g = some (reduceR v l g) := by
  unfold impl_Reduce.f impl_isClause.f reduceR
  rw [implGood_val]
  simp only [Option.bind_some]
  cases hg : goodB v l with
  | false => rfl
  | true =>
    obtain ⟨h0, h1, h60, _⟩ := goodB_facts hg
    simp only [if_true]
    cases hcl : isClauseB g v with
    | false => rfl
    | true =>
      have := (isClause_facts hcl).1
      simp only [if_true]
      rw [implReduceIn_val g (by omega) l (by omega) (good_rows hg) k (by omega)]
      rfl
theorem reduceR_bounds (v : Int) (l : List (List Int)) (g : List Int) : (reduceR v l g).1.length ≤ 1048576 ∧ ∀ x ∈ (reduceR v l g).1, x.length ≤ 1048576 := by
  unfold reduceR
  cases hg : goodB v l with
  | false => simp
  | true =>
    cases hcl : isClauseB g v with
    | false => simp
    | true =>
      simp only [if_true]
      have h1 := reduceL_length g l
      have h2 := (goodB_facts hg).2.2.1
      exact ⟨by omega, fun x hx => by have := reduceL_rows g l (good_rows hg) x hx; omega⟩

theorem FnExactReduce : laws_FnExactReduce.Pure := by
  rintro v l g hv ⟨h0, h1⟩ ⟨h2, _⟩
  obtain ⟨k, hk⟩ : ∃ k : Nat, 6000000 ≤ k := ⟨_, Nat.le_refl _⟩
  refine ⟨k, ?_⟩
  unfold laws_FnExactReduce.f
  by_cases hb2 : (g.length : Int) > 1048576
  · rw [if_pos hb2]
  · rw [if_neg hb2]
    obtain ⟨t, ht, hte⟩ := szIntSS_val l h0 (fun x hx => (h1 x hx).1) k (by omega)
    rw [ht]
    simp only [Option.bind_some]
    by_cases hn : t < 0
    · rw [if_pos hn]
    · obtain ⟨hb, hi⟩ := hte (by omega)
      rw [if_neg hn]
      have hs : ∀ q, 5000000 ≤ q → spec_Reduce.f q v l g = some (reduceR v l g) := fun q hq => specReduce_val v l g hb hi (by omega) q hq
      have him : ∀ q, 5000000 ≤ q → impl_Reduce.f q v l g = some (reduceR v l g) := fun q hq => implReduce_val v l g q hq
      obtain ⟨hr, hri⟩ := reduceR_bounds v l g
      obtain ⟨r, hre⟩ : ∃ r, r = reduceR v l g := ⟨_, rfl⟩
      rw [← hre] at hs him hr hri
      obtain ⟨r1, r2⟩ := r
      replace hr : r1.length ≤ 1048576 := hr
      replace hri : ∀ x ∈ r1, x.length ≤ 1048576 := hri
      have hT : ∀ q, 5000000 ≤ q → laws_toIntSS.f q l = some l := fun q hq => toIntSS_val l hb hi q (by omega)
      have hTB : ∀ q, 5000000 ≤ q → laws_toIntS.f q g = some g := fun q hq => toIntS_val g (by omega) q (by omega)
      have hE : ∀ q, 5000000 ≤ q → laws_eqIntSS.f q l l = some true := fun q hq => eqIntSS_val l hb hi q (by omega)
      have hEB : ∀ q, 5000000 ≤ q → laws_eqIntS.f q g g = some true := fun q hq => eqIntS_val g (by omega) q (by omega)
      have hER : ∀ q, 5000000 ≤ q → laws_eqIntSS.f q r1 r1 = some true := fun q hq => eqIntSS_val r1 hr hri q (by omega)
      have hsl := sumL_small l hb hi
      have hs0 := sumL_nonneg l
      have hrl := sumL_small r1 hr hri
      have hr0 := sumL_nonneg r1
      have hM : ∀ q, 5000000 ≤ q → laws_markIntSS.f q l 1 = some (1 + sumL l, markZZ 1 l) := fun q hq => markIntSS_val l hb hi 1 (by omega) (by omega) q (by omega)
      have hMB : ∀ q, 5000000 ≤ q → laws_markIntS.f q g (1 + sumL l) = some (1 + sumL l + (g.length : Int), markZ (1 + sumL l) g.length) := fun q hq => markIntS_val g (1 + sumL l) (by omega) (by omega) (by omega) q (by omega)
      have hMR : ∀ q, 5000000 ≤ q → laws_markIntSS.f q r1 1 = some (1 + sumL r1, markZZ 1 r1) := fun q hq => markIntSS_val r1 hr hri 1 (by omega) (by omega) q (by omega)
      have hH : ∀ q, 5000000 ≤ q → laws_heldIntSS.f q (markZZ 1 r1) 1 = some (1 + sumL r1) := fun q hq => heldIntSS_val r1 hr hri 1 (by omega) (by omega) q (by omega)
      have n1 : ¬ (1 + sumL l + (g.length : Int) < 0) := by omega
      have n2 : ¬ (1 + sumL r1 < 0) := by omega
      repeat (first
        | (rw [hT _ (by omega)]; simp only [Option.bind_some])
        | (rw [hTB _ (by omega)]; simp only [Option.bind_some])
        | (rw [hs _ (by omega)]; simp only [Option.bind_some])
        | (rw [him _ (by omega)]; simp only [Option.bind_some])
        | (rw [hE _ (by omega)]; simp only [Option.bind_some])
        | (rw [hEB _ (by omega)]; simp only [Option.bind_some])
        | (rw [hER _ (by omega)]; simp only [Option.bind_some])
        | (rw [hM _ (by omega)]; simp only [Option.bind_some])
        | (rw [hMB _ (by omega)]; simp only [Option.bind_some])
        | (rw [hMR _ (by omega)]; simp only [Option.bind_some])
        | (rw [hH _ (by omega)]; simp only [Option.bind_some])
        | rw [if_neg n1]
        | rw [if_neg n2]
        | rw [if_pos rfl]
        | rw [bne_self_eq_false]
        | rw [if_neg Bool.false_ne_true]
        | simp only [Option.bind_some])
      try simp

end Go.Proofs.Ytemgmpbionkjhaa.Pure
