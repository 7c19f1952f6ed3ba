/- The pure statement of the law FnExactPureIn: the printed functions of the program and of the reference give the same answers, at every input that the statement's guards let in. -/
import Derived.Test.YtlehkmadphmfdaaPFnExactPureInx5
namespace Go.Proofs.Ytlehkmadphmfdaa.Pure
open Go.RowKit Go.Proofs.Ytlehkmadphmfdaa.PFnExactPureIn Go.Proofs.YtlehkmadphmfdaaW.PrintWords Go.Proofs.YtlehkmadphmfdaaW.PrintLast Go.Proofs.YtlehkmadphmfdaaW.PrintMore
theorem w64 {x : Int} (h0 : -9223372036854775808 ≤ x) (h1 : x ≤ 9223372036854775807) : wrap64 x = x := by
  unfold wrap64
  omega
theorem l64 {a : Int} (h : (Lit.int .i64 a).wf = true) : -9223372036854775808 ≤ a ∧ a ≤ 9223372036854775807 := by
  simp only [Lit.wf, IntKind.min, IntKind.max, IntKind.signed, IntKind.bits, Bool.and_eq_true, decide_eq_true_eq, if_true] at h
  omega
theorem rd_nat (l : List Int) (i : Nat) (h : i < l.length) : rd l (i : Int) = l[i] := by
  unfold rd
  rw [List.getD_eq_getElem?_getD, show ((i : Int).toNat) = i by omega, List.getElem?_eq_getElem h]
  rfl
theorem next64 {i : Nat} (h : i ≤ 4611686018427387904) : wrap64 ((i : Int) + 1) = ((i + 1 : Nat) : Int) := by
  rw [w64 (by omega) (by omega)]
  omega

theorem rdL_nat (l : List (List Int)) (i : Nat) (h : i < l.length) : rd_L1 l (i : Int) = l[i] := by
  unfold rd_L1
  rw [List.getD_eq_getElem?_getD, show ((i : Int).toNat) = i by omega, List.getElem?_eq_getElem h]
  rfl

theorem szIntS_val (l : List Int) (a : Int) (h0 : 0 ≤ a) (h1 : a ≤ 1048576) (hl : l.length ≤ 9223372036854775807) : ∃ t, laws_szIntS.f l a = some t ∧ t ≤ 1048576 ∧ (0 ≤ t → (l.length : Int) ≤ a) := by
  unfold laws_szIntS.f
  rw [w64 (by omega) (by omega)]
  by_cases h : a - (l.length : Int) < 0
  · rw [if_pos h]
    exact ⟨-1, rfl, by omega, fun h => absurd h (by omega)⟩
  · rw [if_neg h]
    exact ⟨_, rfl, by omega, fun _ => by omega⟩
theorem szIntSS_l (l : List (List Int)) (hl : l.length ≤ 1048576) (hm : ∀ x ∈ l, x.length ≤ 9223372036854775807) : ∀ (d i : Nat) (a : Int) (k : Nat), i + d = l.length → 0 ≤ a → a ≤ 1048576 → (∀ j (hj : j < l.length), j < i → l[j].length ≤ 1048576) → d < k →
    ∃ t, laws_szIntSS.l0 k l a (i : Int) = some t ∧ (0 ≤ t → ∀ x ∈ l, x.length ≤ 1048576)
  | 0, i, a, k, h1, h2, h3, h4, hk => by
    obtain ⟨k, rfl⟩ : ∃ m, k = m + 1 := ⟨k - 1, by omega⟩
    simp only [laws_szIntSS.l0]
    rw [if_neg (by omega)]
    refine ⟨a, rfl, fun _ x hx => ?_⟩
    obtain ⟨j, hj, rfl⟩ := List.mem_iff_getElem.1 hx
    exact h4 j hj (by omega)
  | d + 1, i, a, k, h1, h2, h3, h4, hk => by
    obtain ⟨k, rfl⟩ : ∃ m, k = m + 1 := ⟨k - 1, by omega⟩
    simp only [laws_szIntSS.l0]
    rw [if_pos (by omega), if_pos (by omega), rdL_nat l i (by omega)]
    obtain ⟨t, ht, htb, hte⟩ := szIntS_val l[i] a h2 h3 (hm _ (List.getElem_mem _))
    rw [ht]
    simp only [Option.bind_some]
    by_cases hn : t < 0
    · rw [if_pos hn]
      exact ⟨-1, rfl, fun h => absurd h (by omega)⟩
    · rw [if_neg hn, next64 (by omega)]
      refine szIntSS_l l hl hm d (i + 1) t k (by omega) (by omega) htb (fun j hj hji => ?_) (by omega)
      by_cases e : j = i
      · subst e
        have := hte (by omega)
        omega
      · exact h4 j hj (by omega)
theorem szIntSS_val (l : List (List Int)) (hl : l.length ≤ 9223372036854775807) (hm : ∀ x ∈ l, x.length ≤ 9223372036854775807) (k : Nat) (hk : 1048577 ≤ k) :
    ∃ t, laws_szIntSS.f k l 1048576 = some t ∧ (0 ≤ t → l.length ≤ 1048576 ∧ ∀ x ∈ l, x.length ≤ 1048576) := by
  unfold laws_szIntSS.f
  rw [w64 (by omega) (by omega)]
  by_cases h : (1048576 : Int) - (l.length : Int) < 0
  · rw [if_pos h]
    exact ⟨-1, rfl, fun h => absurd h (by omega)⟩
  · rw [if_neg h]
    obtain ⟨t, ht, hte⟩ := szIntSS_l l (by omega) hm l.length 0 (1048576 - (l.length : Int)) k (by omega) (by omega) (by omega) (fun j _ hj => absurd hj (by omega)) (by omega)
    exact ⟨t, ht, fun h0 => ⟨by omega, hte h0⟩⟩

theorem toIntS_l (l : List Int) (hl : l.length ≤ 4611686018427387904) : ∀ (d i : Nat) (y : List Int) (k : Nat), i + d = l.length → y.length = l.length → (∀ j, j < i → y[j]? = l[j]?) → d < k → laws_toIntS.l0 k l y (i : Int) = some l
  | 0, i, y, k, h1, h2, h3, hk => by
    obtain ⟨k, rfl⟩ : ∃ m, k = m + 1 := ⟨k - 1, by omega⟩
    simp only [laws_toIntS.l0]
    rw [if_neg (by omega)]
    congr 1
    apply List.ext_getElem?
    intro j
    by_cases hj : j < i
    · exact h3 j hj
    · rw [List.getElem?_eq_none (by omega), List.getElem?_eq_none (by omega)]
  | d + 1, i, y, k, h1, h2, h3, hk => by
    obtain ⟨k, rfl⟩ : ∃ m, k = m + 1 := ⟨k - 1, by omega⟩
    simp only [laws_toIntS.l0]
    rw [if_pos (by omega), if_pos (by omega), if_pos (by omega), next64 (by omega), rd_nat l i (by omega)]
    refine toIntS_l l hl d (i + 1) _ k (by omega) (by rw [List.length_set]; exact h2) (fun j hj => ?_) (by omega)
    rw [show ((i : Int).toNat) = i by omega, List.getElem?_set]
    by_cases e : i = j
    · subst e
      rw [if_pos rfl, if_pos (by omega), List.getElem?_eq_getElem (by omega)]
    · rw [if_neg e]
      exact h3 j (by omega)
theorem toIntS_val (l : List Int) (hl : l.length ≤ 1048576) (k : Nat) (hk : l.length < k) : laws_toIntS.f k l = some l := by
  unfold laws_toIntS.f
  rw [if_pos (by omega), if_pos (by omega)]
  exact toIntS_l l (by omega) l.length 0 _ k (by omega) (by rw [List.length_replicate]; omega) (fun j hj => absurd hj (by omega)) hk

theorem toIntSS_l (l : List (List Int)) (hl : l.length ≤ 1048576) (hi : ∀ x ∈ l, x.length ≤ 1048576) : ∀ (d i : Nat) (y : List (List Int)) (k : Nat), i + d = l.length → y.length = l.length → (∀ j, j < i → y[j]? = l[j]?) → d + 1048577 < k → laws_toIntSS.l0 k l y (i : Int) = some l
  | 0, i, y, k, h1, h2, h3, hk => by
    obtain ⟨k, rfl⟩ : ∃ m, k = m + 1 := ⟨k - 1, by omega⟩
    simp only [laws_toIntSS.l0]
    rw [if_neg (by omega)]
    congr 1
    apply List.ext_getElem?
    intro j
    by_cases hj : j < i
    · exact h3 j hj
    · rw [List.getElem?_eq_none (by omega), List.getElem?_eq_none (by omega)]
  | d + 1, i, y, k, h1, h2, h3, hk => by
    obtain ⟨k, rfl⟩ : ∃ m, k = m + 1 := ⟨k - 1, by omega⟩
    simp only [laws_toIntSS.l0]
    have hin := hi l[i] (List.getElem_mem _)
    rw [if_pos (by omega), if_pos (by omega), rdL_nat l i (by omega), toIntS_val l[i] hin k (by omega)]
    simp only [Option.bind_some]
    rw [if_pos (by omega), next64 (by omega)]
    refine toIntSS_l l hl hi d (i + 1) _ k (by omega) (by rw [List.length_set]; exact h2) (fun j hj => ?_) (by omega)
    rw [show ((i : Int).toNat) = i by omega, List.getElem?_set]
    by_cases e : i = j
    · subst e
      rw [if_pos rfl, if_pos (by omega), List.getElem?_eq_getElem (by omega)]
    · rw [if_neg e]
      exact h3 j (by omega)
theorem toIntSS_val (l : List (List Int)) (hl : l.length ≤ 1048576) (hi : ∀ x ∈ l, x.length ≤ 1048576) (k : Nat) (hk : 3000000 ≤ k) : laws_toIntSS.f k l = some l := by
  unfold laws_toIntSS.f
  rw [if_pos (by omega), if_pos (by omega)]
  exact toIntSS_l l hl hi l.length 0 _ k (by omega) (by rw [List.length_replicate]; omega) (fun j hj => absurd hj (by omega)) (by omega)

theorem eqIntS_l (l : List Int) (hl : l.length ≤ 4611686018427387904) : ∀ (d i k : Nat), i + d = l.length → d < k → laws_eqIntS.l0 k l l (i : Int) = some true
  | 0, i, k, h1, hk => by
    obtain ⟨k, rfl⟩ : ∃ m, k = m + 1 := ⟨k - 1, by omega⟩
    simp only [laws_eqIntS.l0]
    rw [if_neg (by omega)]
  | d + 1, i, k, h1, hk => by
    obtain ⟨k, rfl⟩ : ∃ m, k = m + 1 := ⟨k - 1, by omega⟩
    simp only [laws_eqIntS.l0]
    rw [if_pos (by omega), if_pos (by omega), if_pos (by omega), if_true, next64 (by omega)]
    exact eqIntS_l l hl d (i + 1) k (by omega) (by omega)
theorem eqIntS_val (l : List Int) (hl : l.length ≤ 4611686018427387904) (k : Nat) (hk : l.length < k) : laws_eqIntS.f k l l = some true := by
  unfold laws_eqIntS.f
  rw [if_pos rfl]
  exact eqIntS_l l hl l.length 0 k (by omega) hk

theorem eqIntSS_l (l : List (List Int)) (hl : l.length ≤ 1048576) (hi : ∀ x ∈ l, x.length ≤ 1048576) : ∀ (d i k : Nat), i + d = l.length → d + 1048577 < k → laws_eqIntSS.l0 k l l (i : Int) = some true
  | 0, i, k, h1, hk => by
    obtain ⟨k, rfl⟩ : ∃ m, k = m + 1 := ⟨k - 1, by omega⟩
    simp only [laws_eqIntSS.l0]
    rw [if_neg (by omega)]
  | d + 1, i, k, h1, hk => by
    obtain ⟨k, rfl⟩ : ∃ m, k = m + 1 := ⟨k - 1, by omega⟩
    simp only [laws_eqIntSS.l0]
    have hin := hi l[i] (List.getElem_mem _)
    rw [if_pos (by omega), if_pos (by omega), if_pos (by omega), rdL_nat l i (by omega), eqIntS_val l[i] (by omega) k (by omega)]
    simp only [Option.bind_some, if_true]
    rw [next64 (by omega)]
    exact eqIntSS_l l hl hi d (i + 1) k (by omega) (by omega)
theorem eqIntSS_val (l : List (List Int)) (hl : l.length ≤ 1048576) (hi : ∀ x ∈ l, x.length ≤ 1048576) (k : Nat) (hk : 3000000 ≤ k) : laws_eqIntSS.f k l l = some true := by
  unfold laws_eqIntSS.f
  rw [if_pos rfl]
  exact eqIntSS_l l hl hi l.length 0 k (by omega) (by omega)

theorem markIntS_l (a : Int) (ha : 0 ≤ a) (ha2 : a ≤ 4398046511104) : ∀ (d i : Nat) (y : List Int) (k : Nat), i + d = y.length → y.length ≤ 4398046511104 → (∀ j (hj : j < y.length), j < i → y[j] = a + j) → d < k →
    ∃ z : List Int, laws_markIntS.l0 k y (a + i) (i : Int) = some (a + y.length, z) ∧ z.length = y.length ∧ ∀ j (hj : j < z.length), z[j] = a + j
  | 0, i, y, k, h1, h2, h3, hk => by
    obtain ⟨k, rfl⟩ : ∃ m, k = m + 1 := ⟨k - 1, by omega⟩
    simp only [laws_markIntS.l0]
    rw [if_neg (by omega)]
    exact ⟨y, by rw [show (a + (i : Int)) = a + (y.length : Int) by omega], rfl, fun j hj => h3 j hj (by omega)⟩
  | d + 1, i, y, k, h1, h2, h3, hk => by
    obtain ⟨k, rfl⟩ : ∃ m, k = m + 1 := ⟨k - 1, by omega⟩
    simp only [laws_markIntS.l0]
    rw [if_pos (by omega), if_pos (by omega), next64 (by omega), w64 (by omega) (by omega), show a + (i : Int) + 1 = a + ((i + 1 : Nat) : Int) by omega, show ((i : Int).toNat) = i by omega]
    obtain ⟨z, hz, hzl, hze⟩ := markIntS_l a ha ha2 d (i + 1) (y.set i (a + i)) k (by rw [List.length_set]; omega) (by rw [List.length_set]; omega) (fun j hj hji => by
      rw [List.getElem_set]
      by_cases e : i = j
      · rw [if_pos e, e]
      · rw [if_neg e]
        exact h3 j (by rw [List.length_set] at hj; exact hj) (by omega)) (by omega)
    rw [List.length_set] at hz hzl
    exact ⟨z, hz, hzl, hze⟩
theorem heldIntS_l (a : Int) (ha : 0 ≤ a) (ha2 : a ≤ 4398046511104) (z : List Int) (hl : z.length ≤ 4398046511104) (hz : ∀ j (hj : j < z.length), z[j] = a + j) : ∀ (d i k : Nat), i + d = z.length → d < k → laws_heldIntS.l0 k z (a + i) (i : Int) = some (a + z.length)
  | 0, i, k, h1, hk => by
    obtain ⟨k, rfl⟩ : ∃ m, k = m + 1 := ⟨k - 1, by omega⟩
    simp only [laws_heldIntS.l0]
    rw [if_neg (by omega), show (a + (i : Int)) = a + (z.length : Int) by omega]
  | d + 1, i, k, h1, hk => by
    obtain ⟨k, rfl⟩ : ∃ m, k = m + 1 := ⟨k - 1, by omega⟩
    simp only [laws_heldIntS.l0]
    rw [if_pos (by omega), if_pos (by omega), rd_nat z i (by omega), if_pos (hz i (by omega)), next64 (by omega), w64 (by omega) (by omega), show a + (i : Int) + 1 = a + ((i + 1 : Nat) : Int) by omega]
    exact heldIntS_l a ha ha2 z hl hz d (i + 1) k (by omega) (by omega)
def markZ (a : Int) (n : Nat) : List Int := (List.range n).map fun (j : Nat) => a + (j : Int)
theorem markZ_length (a : Int) (n : Nat) : (markZ a n).length = n := by simp [markZ]
theorem markIntS_val (y : List Int) (a : Int) (ha : 0 ≤ a) (ha2 : a ≤ 4398046511104) (hl : y.length ≤ 4398046511104) (k : Nat) (hk : y.length < k) :
    laws_markIntS.f k y a = some (a + y.length, markZ a y.length) := by
  obtain ⟨z, h1, h2, h3⟩ := markIntS_l a ha ha2 y.length 0 y k (by omega) hl (fun j _ hj => absurd hj (by omega)) hk
  have hz : z = markZ a y.length := by
    apply List.ext_getElem (by rw [h2, markZ_length])
    intro j hj1 hj2
    rw [h3 j hj1]
    simp [markZ]
  rw [← hz]
  unfold laws_markIntS.f
  simpa using h1
theorem heldIntS_val (n : Nat) (a : Int) (ha : 0 ≤ a) (ha2 : a ≤ 4398046511104) (hn : n ≤ 4398046511104) (k : Nat) (hk : n < k) : laws_heldIntS.f k (markZ a n) a = some (a + n) := by
  have := heldIntS_l a ha ha2 (markZ a n) (by rw [markZ_length]; omega) (fun j hj => by simp [markZ]) (markZ a n).length 0 k (by omega) (by rw [markZ_length]; omega)
  rw [markZ_length] at this
  unfold laws_heldIntS.f
  simpa using this

def markZZ : Int → List (List Int) → List (List Int)
  | _, [] => []
  | a, x :: r => markZ a x.length :: markZZ (a + (x.length : Int)) r
def sumL : List (List Int) → Int
  | [] => 0
  | x :: r => (x.length : Int) + sumL r
theorem sumL_nonneg : ∀ l : List (List Int), 0 ≤ sumL l
  | [] => by simp [sumL]
  | x :: r => by
    have := sumL_nonneg r
    simp only [sumL]
    omega
theorem sumL_le (b : Nat) : ∀ l : List (List Int), (∀ x ∈ l, x.length ≤ b) → sumL l ≤ ((l.length * b : Nat) : Int)
  | [], _ => by simp [sumL]
  | x :: r, h => by
    have h1 := sumL_le b r (fun y hy => h y (List.mem_cons_of_mem _ hy))
    have h2 := h x List.mem_cons_self
    have h3 : (r.length + 1) * b = r.length * b + b := by rw [Nat.succ_mul]
    simp only [sumL, List.length_cons]
    omega
theorem sumL_small (l : List (List Int)) (hl : l.length ≤ 1048576) (hi : ∀ x ∈ l, x.length ≤ 1048576) : sumL l ≤ 1099511627776 := by
  have h1 := sumL_le 1048576 l hi
  have h2 : l.length * 1048576 ≤ 1048576 * 1048576 := Nat.mul_le_mul_right _ hl
  omega
theorem markIntSS_l : ∀ (rest done : List (List Int)) (a : Int) (k : Nat), 0 ≤ a → a + sumL rest ≤ 4398046511104 → done.length + rest.length ≤ 1048576 → (∀ x ∈ rest, x.length ≤ 1048576) → rest.length + 1048578 ≤ k →
    laws_markIntSS.l0 k (done ++ rest) a (done.length : Int) = some (a + sumL rest, done ++ markZZ a rest)
  | [], done, a, k, h0, h1, h2, h3, hk => by
    obtain ⟨k, rfl⟩ : ∃ m, k = m + 1 := ⟨k - 1, by omega⟩
    simp only [laws_markIntSS.l0, markZZ, sumL]
    rw [if_neg (by simp)]
    simp
  | x :: r, done, a, k, h0, h1, h2, h3, hk => by
    obtain ⟨k, rfl⟩ : ∃ m, k = m + 1 := ⟨k - 1, by omega⟩
    have hs := sumL_nonneg r
    have hx := h3 x List.mem_cons_self
    simp only [sumL] at h1
    simp only [List.length_cons] at h2 hk
    simp only [laws_markIntSS.l0]
    rw [if_pos (by simp only [List.length_append, List.length_cons]; omega), if_pos (by omega), show ((done.length : Int).toNat) = done.length by omega]
    rw [show (done ++ x :: r).getD done.length [] = x by simp]
    rw [markIntS_val x a h0 (by omega) (by omega) k (by omega)]
    simp only [Option.bind_some]
    rw [next64 (by omega), show (done ++ x :: r).set done.length (markZ a x.length) = (done ++ [markZ a x.length]) ++ r by simp]
    have := markIntSS_l r (done ++ [markZ a x.length]) (a + x.length) k (by omega) (by omega) (by simp only [List.length_append, List.length_cons, List.length_nil]; omega) (fun y hy => h3 y (List.mem_cons_of_mem _ hy)) (by omega)
    rw [show (((done ++ [markZ a x.length]).length : Nat) : Int) = ((done.length + 1 : Nat) : Int) by simp] at this
    rw [this]
    simp only [sumL, markZZ, List.append_assoc, List.singleton_append, Int.add_assoc]
theorem markIntSS_val (l : List (List Int)) (hl : l.length ≤ 1048576) (hi : ∀ x ∈ l, x.length ≤ 1048576) (a : Int) (h0 : 0 ≤ a) (h1 : a ≤ 1099511627776) (k : Nat) (hk : 3000000 ≤ k) : laws_markIntSS.f k l a = some (a + sumL l, markZZ a l) := by
  have := markIntSS_l l [] a k h0 (by have := sumL_small l hl hi; omega) (by simpa using hl) hi (by omega)
  unfold laws_markIntSS.f
  simpa using this

theorem any_flip (l : List Int) (a : Int) : (l.any fun y => a == y) = l.any (· == a) := by
  congr 1
  funext y
  rw [Bool.eq_iff_iff]
  simp only [beq_iff_eq]
  exact eq_comm

def hasB (l : List Int) (n : Int) : Bool := l.any (· == n)

theorem drop_at (l : List Int) (i : Nat) (h : i < l.length) : l.drop i = l[i] :: l.drop (i + 1) := List.drop_eq_getElem_cons h
theorem has_l (l : List Int) (x : Int) (hl : l.length ≤ 1099511627776) : ∀ (d i k : Nat), i + d = l.length → d < k → spec_l1Has.l0 k x l (l.length : Int) (i : Int) = some ((l.drop i).any (· == x))
  | 0, i, k, h1, hk => by
    obtain ⟨k, rfl⟩ : ∃ m, k = m + 1 := ⟨k - 1, by omega⟩
    simp only [spec_l1Has.l0]
    rw [if_neg (by omega), List.drop_of_length_le (by omega)]
    rfl
  | d + 1, i, k, h1, hk => by
    obtain ⟨k, rfl⟩ : ∃ m, k = m + 1 := ⟨k - 1, by omega⟩
    simp only [spec_l1Has.l0]
    rw [if_pos (by omega), if_pos (by omega), if_pos (by omega), rd_nat l i (by omega), next64 (by omega), drop_at l i (by omega)]
    by_cases e : l[i] = x
    · rw [if_pos e]
      rw [List.any_cons, show (l[i] == x) = true by simpa using e, Bool.true_or]
    · rw [if_neg e, has_l l x hl d (i + 1) k (by omega) (by omega), List.any_cons, show (l[i] == x) = false by simpa using e, Bool.false_or]
theorem has_val (l : List Int) (x : Int) (hl : l.length ≤ 1099511627776) (k : Nat) (hk : l.length < k) : spec_l1Has.f k l x = some (l.any (· == x)) := by
  unfold spec_l1Has.f
  have := has_l l x hl l.length 0 k (by omega) hk
  simpa using this

theorem specIn_val (n a b : Int) : spec_l1In.f n a b = some (decide (a ≤ n) && decide (n ≤ b)) := by
  unfold spec_l1In.f
  by_cases h : n ≥ a
  · rw [if_pos h]
    simp [h]
  · rw [if_neg h]
    simp [h]
theorem neg64 {n : Int} (h0 : -4611686018427387904 ≤ n) (h1 : n ≤ 4611686018427387904) : wrap64 (-n) = -n := w64 (by omega) (by omega)
theorem vab_small {n : Int} (h0 : -12 ≤ n) (h1 : n ≤ 12) : vab n = if n < -n then -n else n := by
  unfold vab
  rw [neg64 (by omega) (by omega)]
theorem vab_eq {n m : Int} (h0 : -12 ≤ n) (h1 : n ≤ 12) (h2 : -12 ≤ m) (h3 : m ≤ 12) : (vab n == vab m) = ((n == m) || (n == -m)) := by
  rw [vab_small h0 h1, vab_small h2 h3, Bool.eq_iff_iff]
  simp only [beq_iff_eq, Bool.or_eq_true]
  split <;> split <;> omega
theorem litB_small {n v : Int} (h0 : 0 ≤ v) (h1 : v ≤ 12) (h : litB n v = true) : n ≠ 0 ∧ -v ≤ n ∧ n ≤ v := by
  unfold litB at h
  rw [neg64 (by omega) (by omega)] at h
  simpa [Bool.and_eq_true] using h
theorem any_vab (l : List Int) (m : Int) (h2 : -12 ≤ m) (h3 : m ≤ 12) (hl : ∀ x ∈ l, -12 ≤ x ∧ x ≤ 12) : (l.any fun k => vab k == vab m) = (l.any (· == m) || l.any (· == -m)) := by
  induction l with
  | nil => rfl
  | cons a l ih =>
    have ha := hl a List.mem_cons_self
    rw [List.any_cons, List.any_cons, List.any_cons, ih (fun x hx => hl x (List.mem_cons_of_mem _ hx)), vab_eq ha.1 ha.2 h2 h3]
    cases (a == m) <;> cases (a == -m) <;> cases l.any (· == m) <;> simp

theorem clause_l (v : Int) (hv0 : 0 ≤ v) (hv1 : v ≤ 12) (l : List Int) (hl : l.length ≤ 1099511627776) : ∀ (d i k : Nat), i + d = l.length → (∀ x ∈ l.take i, -12 ≤ x ∧ x ≤ 12) → d + l.length + 1 < k →
    spec_l4Clause.l0 k v l l (l.length : Int) (i : Int) = some (clauseFrom v (l.take i) (l.drop i) && decide (l.length ≤ 12))
  | 0, i, k, h1, hs, hk => by
    obtain ⟨k, rfl⟩ : ∃ m, k = m + 1 := ⟨k - 1, by omega⟩
    simp only [spec_l4Clause.l0]
    rw [if_neg (by omega), List.drop_of_length_le (by omega)]
    simp only [clauseFrom, Bool.true_and]
    congr 2
    exact propext (by omega)
  | d + 1, i, k, h1, hs, hk => by
    obtain ⟨k, rfl⟩ : ∃ m, k = m + 1 := ⟨k - 1, by omega⟩
    have hil : i < l.length := by omega
    have ht : (l.take i).length = i := by rw [List.length_take]; omega
    simp only [spec_l4Clause.l0]
    rw [if_pos (by omega), if_pos (by omega), if_pos (by omega), rd_nat l i hil, next64 (by omega), drop_at l i hil, show ((i : Int).toNat) = i by omega, if_pos (show (i : Int) ≤ (l.length : Int) by omega)]
    simp only [clauseFrom]
    by_cases e0 : l[i] = 0
    · rw [if_pos e0]
      have : litB l[i] v = false := by unfold litB; simp [e0]
      rw [this]
      rfl
    · rw [if_neg e0, specIn_val]
      simp only [Option.bind_some]
      have hlit : litB l[i] v = (decide (wrap64 (-v) ≤ l[i]) && decide (l[i] ≤ v)) := by unfold litB; simp [e0]
      rw [← hlit]
      cases hb : litB l[i] v with
      | false => rfl
      | true =>
        obtain ⟨_, h4, h5⟩ := litB_small hv0 hv1 hb
        rw [if_pos rfl, has_val _ _ (by omega) _ (by omega), neg64 (by omega) (by omega), has_val _ _ (by omega) _ (by omega), any_vab _ _ (by omega) (by omega) hs]
        simp only [Option.bind_some]
        cases (l.take i).any (· == l[i]) with
        | true => rfl
        | false =>
          cases (l.take i).any (· == -l[i]) with
          | true => rfl
          | false =>
            have hst : l.take (i + 1) = l.take i ++ [l[i]] := List.take_succ_eq_append_getElem hil
            have := clause_l v hv0 hv1 l hl d (i + 1) k (by omega) (fun x hx => by
              rw [hst] at hx
              rcases List.mem_append.1 hx with hx | hx
              · exact hs x hx
              · rw [List.mem_singleton.1 hx]
                omega) (by omega)
            rw [hst] at this
            simp only [Bool.false_eq_true, if_false, Bool.or_false, Bool.not_false, Bool.true_and]
            exact this
theorem clause_val (v : Int) (hv0 : 0 ≤ v) (hv1 : v ≤ 12) (l : List Int) (hl : l.length ≤ 1048576) (k : Nat) (hk : 3000000 ≤ k) : spec_l4Clause.f k v l = some (isClauseB l v) := by
  unfold spec_l4Clause.f isClauseB
  have := clause_l v hv0 hv1 l (by omega) l.length 0 k (by omega) (by simp) (by omega)
  simpa using this

def goodB (v : Int) (l : List (List Int)) : Bool := (decide (0 ≤ v) && decide (v ≤ 12)) && (decide (l.length ≤ 60) && l.all fun x => isClauseB x v)
theorem good_l (v : Int) (hv0 : 0 ≤ v) (hv1 : v ≤ 12) (l : List (List Int)) (hl : l.length ≤ 1048576) (hi : ∀ x ∈ l, x.length ≤ 1048576) : ∀ (d i k : Nat), i + d = l.length → d + 3000001 ≤ k → spec_l4Good.l0 k v l (l.length : Int) (i : Int) = some ((l.drop i).all fun x => isClauseB x v)
  | 0, i, k, h1, hk => by
    obtain ⟨k, rfl⟩ : ∃ m, k = m + 1 := ⟨k - 1, by omega⟩
    simp only [spec_l4Good.l0]
    rw [if_neg (by omega), List.drop_of_length_le (by omega)]
    rfl
  | d + 1, i, k, h1, hk => by
    obtain ⟨k, rfl⟩ : ∃ m, k = m + 1 := ⟨k - 1, by omega⟩
    have hil : i < l.length := by omega
    simp only [spec_l4Good.l0]
    rw [if_pos (by omega), if_pos (by omega), if_pos (by omega), rdL_nat l i hil, next64 (by omega), clause_val v hv0 hv1 l[i] (hi _ (List.getElem_mem _)) k (by omega), List.drop_eq_getElem_cons hil, List.all_cons]
    simp only [Option.bind_some]
    cases isClauseB l[i] v with
    | false => rfl
    | true =>
      first | rw [if_pos rfl] | rw [if_true]
      rw [good_l v hv0 hv1 l hl hi d (i + 1) k (by omega) (by omega)]
      rfl
theorem specGood_val (v : Int) (l : List (List Int)) (hl : l.length ≤ 1048576) (hi : ∀ x ∈ l, x.length ≤ 1048576) (k : Nat) (hk : 5000000 ≤ k) : spec_GoodClauses.f k v l = some (goodB v l) := by
  obtain ⟨k, rfl⟩ : ∃ m, k = m + 1 := ⟨k - 1, by omega⟩
  unfold spec_GoodClauses.f spec_l4Good.f goodB
  rw [specIn_val]
  simp only [Option.bind_some, spec_l4Good.j0]
  by_cases hv : 0 ≤ v ∧ v ≤ 12
  · rw [show (decide (0 ≤ v) && decide (v ≤ 12)) = true by simp [hv.1, hv.2], if_pos rfl]
    by_cases h60 : l.length ≤ 60
    · have : decide ((l.length : Int) > 60) = false := decide_eq_false (by omega)
      rw [this, if_neg Bool.false_ne_true]
      have h := good_l v hv.1 hv.2 l hl hi l.length 0 k (by omega) (by omega)
      simp only [List.drop_zero] at h
      rw [show ((0 : Nat) : Int) = 0 from rfl] at h
      rw [h]
      simp [h60]
    · have : decide ((l.length : Int) > 60) = true := decide_eq_true (by omega)
      rw [this]
      first | rw [if_pos rfl] | rw [if_true]
      simp [h60]
  · have hd : (decide (0 ≤ v) && decide (v ≤ 12)) = false := by
      rw [Bool.and_eq_false_iff]
      rcases Int.lt_or_le v 0 with h | h
      · exact .inl (decide_eq_false (by omega))
      · exact .inr (decide_eq_false (by omega))
    rw [hd, if_neg Bool.false_ne_true]
    first | rw [if_pos rfl] | rw [if_true]
    rfl
theorem implIn_val (n a b : Int) : impl_in.f n a b = some (decide (a ≤ n) && decide (n ≤ b)) := by
  unfold impl_in.f
  by_cases h : n ≥ a
  · rw [if_pos h]
    simp [h]
  · rw [if_neg h]
    simp [h]
theorem implGood_val (v : Int) (l : List (List Int)) : impl_GoodClauses.f v l = some (goodB v l) := by
  unfold impl_GoodClauses.f impl_areClauses.f goodB
  rw [implIn_val]
  simp only [Option.bind_some]
  cases (decide (0 ≤ v) && decide (v ≤ 12)) with
  | false => rfl
  | true =>
    first | rw [if_pos rfl] | rw [if_true]
    by_cases h60 : l.length ≤ 60
    · rw [if_pos (by omega)]
      simp [h60, List.all_eq_not_any_not]
    · rw [if_neg (by omega)]
      simp [h60]
theorem goodB_facts {v : Int} {l : List (List Int)} (h : goodB v l = true) : 0 ≤ v ∧ v ≤ 12 ∧ l.length ≤ 60 ∧ ∀ x ∈ l, isClauseB x v = true := by
  unfold goodB at h
  simp only [Bool.and_eq_true, decide_eq_true_eq, List.all_eq_true] at h
  exact ⟨h.1.1, h.1.2, h.2.1, h.2.2⟩

theorem clause_lits (v : Int) : ∀ (l seen : List Int), clauseFrom v seen l = true → ∀ n ∈ l, litB n v = true
  | [], _, _, n, hn => by simp at hn
  | a :: r, seen, h, n, hn => by
    unfold clauseFrom at h
    simp only [Bool.and_eq_true] at h
    rcases List.mem_cons.1 hn with rfl | hn
    · exact h.1
    · exact clause_lits v r _ h.2.2 n hn
theorem isClause_facts {v : Int} {c : List Int} (h : isClauseB c v = true) : c.length ≤ 12 ∧ ∀ n ∈ c, litB n v = true := by
  unfold isClauseB at h
  simp only [Bool.and_eq_true, decide_eq_true_eq] at h
  exact ⟨h.2, clause_lits v c [] h.1⟩

theorem goodB_lits {v : Int} {l : List (List Int)} (h : goodB v l = true) : ∀ c ∈ l, c.length ≤ 12 ∧ ∀ n ∈ c, n ≠ 0 ∧ -v ≤ n ∧ n ≤ v := by
  obtain ⟨h0, h1, _, h2⟩ := goodB_facts h
  intro c hc
  obtain ⟨a, b⟩ := isClause_facts (h2 c hc)
  exact ⟨a, fun n hn => litB_small h0 h1 (b n hn)⟩

def putL (n : Int) : List Int → List Int
  | [] => [n]
  | x :: r => if x < n then x :: putL n r else if x = n then x :: r else n :: x :: r
/-- The whole numbers from a on, d of them. -/
def intsFrom : Int → Nat → List Int
  | _, 0 => []
  | a, d + 1 => a :: intsFrom (a + 1) d
theorem intsFrom_mem : ∀ (d : Nat) (a x : Int), x ∈ intsFrom a d ↔ a ≤ x ∧ x < a + d
  | 0, a, x => by
    simp only [intsFrom, List.not_mem_nil, false_iff]
    omega
  | d + 1, a, x => by
    rw [intsFrom, List.mem_cons, intsFrom_mem d (a + 1) x]
    omega
theorem intsFrom_length : ∀ (d : Nat) (a : Int), (intsFrom a d).length = d
  | 0, a => rfl
  | d + 1, a => by rw [intsFrom, List.length_cons, intsFrom_length d]
theorem putL_head (n : Int) (l : List Int) (h : ∀ x ∈ l, n < x) : putL n l = n :: l := by
  cases l with
  | nil => rfl
  | cons x r =>
    have := h x List.mem_cons_self
    unfold putL
    rw [if_neg (by omega), if_neg (by omega)]
theorem filter_same (p q : Int → Bool) (l : List Int) (h : ∀ x ∈ l, p x = q x) : l.filter p = l.filter q := List.filter_congr h
theorem putL_filter (p : Int → Bool) (n : Int) : ∀ (d : Nat) (a : Int), a ≤ n → n < a + d → putL n ((intsFrom a d).filter p) = (intsFrom a d).filter fun x => p x || x == n
  | 0, a, h1, h2 => by omega
  | d + 1, a, h1, h2 => by
    rw [intsFrom]
    by_cases e : a = n
    · subst e
      have hn : (intsFrom (a + 1) d).filter (fun x => p x || x == a) = (intsFrom (a + 1) d).filter p := List.filter_congr fun x hx => by
        have := (intsFrom_mem d (a + 1) x).1 hx
        have : (x == a) = false := by simp; omega
        rw [this, Bool.or_false]
      rw [List.filter_cons_of_pos (p := fun x => p x || x == a) (by simp), hn]
      cases hp : p a with
      | true =>
        rw [List.filter_cons_of_pos hp, putL, if_neg (by omega), if_pos rfl]
      | false =>
        rw [List.filter_cons_of_neg (by simp [hp])]
        exact putL_head a _ fun x hx => by
          have := (intsFrom_mem d (a + 1) x).1 (List.mem_filter.1 hx).1
          omega
    · have ih := putL_filter p n d (a + 1) (by omega) (by omega)
      have hne : (a == n) = false := by simp [e]
      cases hp : p a with
      | true =>
        rw [List.filter_cons_of_pos hp, List.filter_cons_of_pos (by simp [hp]), putL, if_pos (by omega), ih]
      | false =>
        rw [List.filter_cons_of_neg (by simp [hp]), List.filter_cons_of_neg (by simp [hp, hne]), ih]
theorem specPut_l (l : List Int) (n : Int) (hl : l.length ≤ 100000) : ∀ (d i k : Nat), i + d = l.length → d + 1 ≤ k → spec_l1Put.l0 k l n (i : Int) = some (l.take i ++ putL n (l.drop i))
  | 0, i, k, h1, hk => by
    obtain ⟨k, rfl⟩ : ∃ m, k = m + 1 := ⟨k - 1, by omega⟩
    have hi : i = l.length := by omega
    subst hi
    simp only [spec_l1Put.l0, Option.bind_some, List.nil_append, List.length_nil, List.length_append, List.length_take, List.length_drop, List.length_singleton, Int.toNat_natCast]
    rw [if_neg (by omega), if_pos (by omega), if_pos (by omega), if_pos (by omega), if_pos (by omega), if_pos (by omega)]
    simp [putL]
  | d + 1, i, k, h1, hk => by
    obtain ⟨k, rfl⟩ : ∃ m, k = m + 1 := ⟨k - 1, by omega⟩
    have hil : i < l.length := by omega
    have hd := drop_at l i hil
    have ih := specPut_l l n hl d (i + 1) k (by omega) (by omega)
    simp only [spec_l1Put.l0, Option.bind_some, List.nil_append, List.length_nil, List.length_append, List.length_take, List.length_drop, List.length_singleton, Int.toNat_natCast]
    rw [if_pos (by omega), if_pos (by omega), rd_nat l i hil, next64 (by omega), hd]
    by_cases h : l[i] < n
    · rw [if_pos h, ih, putL, if_pos h, List.take_succ_eq_append_getElem hil, List.append_assoc]
      rfl
    · rw [if_neg h, putL, if_neg h]
      by_cases e : l[i] = n
      · rw [if_pos e, if_pos e, ← hd, List.take_append_drop]
      · rw [if_neg e, if_neg e, if_pos (by omega), if_pos (by omega), if_pos (by omega), if_pos (by omega), ← hd]
        simp
theorem specPut_val (l : List Int) (n : Int) (hl : l.length ≤ 100000) (k : Nat) (hk : 200000 ≤ k) : spec_l1Put.f k l n = some (putL n l) := by
  unfold spec_l1Put.f
  have := specPut_l l n hl l.length 0 k (by omega) (by omega)
  simpa using this
/-- The literals that stand. -/
def allS (v : Int) (s : List Int) : List Int := (intsFrom (-v) (2 * v.toNat + 1)).filter fun x => hasB s x
theorem allS_length (v : Int) (s : List Int) (h1 : v ≤ 12) : (allS v s).length ≤ 25 := by
  unfold allS
  refine Nat.le_trans (List.length_filter_le _ _) ?_
  rw [intsFrom_length]
  omega
theorem allS_put (v : Int) (s : List Int) (n : Int) (h1 : -v ≤ n) (h2 : n ≤ v) : putL n (allS v s) = allS v (s ++ [n]) := by
  unfold allS
  rw [putL_filter _ n _ (-v) h1 (by omega)]
  refine List.filter_congr fun x _ => ?_
  unfold hasB
  rw [List.any_append]
  congr 1
  simp [BEq.comm]
theorem specPure_1 (v : Int) (h0 : 0 ≤ v) (hv : v ≤ 12) (l : List (List Int)) (N I : Int) (c : List Int) (hc : c.length ≤ 1000) (hl : ∀ n ∈ c, -v ≤ n ∧ n ≤ v) : ∀ (d j k : Nat) (s : List Int), j + d = c.length → 200000 ≤ k →
    spec_PureIn.l1 (d + 1 + k) (allS v s) l N I c (c.length : Int) (j : Int) = spec_PureIn.l0 k (allS v (s ++ c.drop j)) l N (wrap64 (I + 1))
  | 0, j, k, s, h1, hk => by
    rw [show 0 + 1 + k = k + 1 by omega]
    simp only [spec_PureIn.l1]
    rw [if_neg (by omega), List.drop_of_length_le (by omega), List.append_nil]
  | d + 1, j, k, s, h1, hk => by
    have hj : j < c.length := by omega
    obtain ⟨a1, a2⟩ := hl c[j] (List.getElem_mem _)
    have hal := allS_length v s hv
    rw [show d + 1 + 1 + k = (d + 1 + k) + 1 by omega]
    simp only [spec_PureIn.l1]
    rw [if_pos (by omega), if_pos (by omega), if_pos (by omega), rd_nat c j hj, next64 (by omega), specPut_val _ _ (by omega) _ (by omega)]
    simp only [Option.bind_some]
    rw [allS_put v s c[j] a1 a2, specPure_1 v h0 hv l N I c hc hl d (j + 1) k (s ++ [c[j]]) (by omega) hk, drop_at c j hj]
    simp
def pureS (v : Int) (s : List Int) : List Int := (allS v s).filter fun x => !hasB s (-x)
theorem allS_has (v : Int) (s : List Int) (hs : ∀ n ∈ s, -v ≤ n ∧ n ≤ v) (x : Int) : (allS v s).any (· == x) = hasB s x := by
  rw [Bool.eq_iff_iff]
  unfold allS
  rw [List.any_eq_true]
  constructor
  · rintro ⟨y, hy, he⟩
    have : y = x := by simpa using he
    subst this
    exact (List.mem_filter.1 hy).2
  · intro h
    unfold hasB at h
    obtain ⟨y, hy, he⟩ := List.any_eq_true.1 h
    have : y = x := by simpa using he
    subst this
    obtain ⟨a, b⟩ := hs y hy
    exact ⟨y, List.mem_filter.2 ⟨(intsFrom_mem _ _ _).2 ⟨a, by omega⟩, h⟩, by simp⟩
theorem specPure_2 (v : Int) (h0 : 0 ≤ v) (hv : v ≤ 12) (s : List Int) (hs : ∀ n ∈ s, -v ≤ n ∧ n ≤ v) (l : List Int) (hl : l.length ≤ 1000) (hlv : ∀ n ∈ l, -v ≤ n ∧ n ≤ v) : ∀ (d i k : Nat) (y : List Int), i + d = l.length → y.length ≤ i → d + 200000 ≤ k →
    spec_PureIn.l2 k (allS v s) y l (l.length : Int) (i : Int) = some (y ++ (l.drop i).filter fun x => !hasB s (-x), true)
  | 0, i, k, y, h1, h2, hk => by
    obtain ⟨k, rfl⟩ : ∃ m, k = m + 1 := ⟨k - 1, by omega⟩
    simp only [spec_PureIn.l2]
    rw [if_neg (by omega), List.drop_of_length_le (by omega)]
    simp
  | d + 1, i, k, y, h1, h2, hk => by
    obtain ⟨k, rfl⟩ : ∃ m, k = m + 1 := ⟨k - 1, by omega⟩
    have hil : i < l.length := by omega
    have hal := allS_length v s hv
    obtain ⟨b1, b2⟩ := hlv l[i] (List.getElem_mem _)
    simp only [spec_PureIn.l2]
    rw [if_pos (by omega), if_pos (by omega), if_pos (by omega), rd_nat l i hil, next64 (by omega), neg64 (by omega) (by omega), has_val _ _ (by omega) k (by omega), allS_has v s hs, if_pos (by omega), drop_at l i hil]
    simp only [Option.bind_some]
    cases h : hasB s (-l[i]) with
    | true =>
      rw [if_pos rfl, List.filter_cons_of_neg (by simp [h])]
      exact specPure_2 v h0 hv s hs l hl hlv d (i + 1) k y (by omega) (by omega) (by omega)
    | false =>
      rw [if_neg Bool.false_ne_true, List.filter_cons_of_pos (by simp [h])]
      rw [specPure_2 v h0 hv s hs l hl hlv d (i + 1) k (y ++ [l[i]]) (by omega) (by simp; omega) (by omega)]
      simp
theorem specPure_0 (B : Nat) (hB : B = 1002) (v : Int) (h0 : 0 ≤ v) (hv : v ≤ 12) (l : List (List Int)) (hl : l.length ≤ 1000) (hc : ∀ c ∈ l, c.length ≤ 1000 ∧ ∀ n ∈ c, -v ≤ n ∧ n ≤ v) : ∀ (d i k : Nat) (s : List Int), i + d = l.length → (∀ n ∈ s, -v ≤ n ∧ n ≤ v) → d * B + 300000 ≤ k →
    spec_PureIn.l0 k (allS v s) l (l.length : Int) (i : Int) = some (pureS v (s ++ (l.drop i).flatten), true)
  | 0, i, k, s, h1, h2, hk => by
    obtain ⟨k, rfl⟩ : ∃ m, k = m + 1 := ⟨k - 1, by omega⟩
    simp only [spec_PureIn.l0]
    have hal := allS_length v s hv
    rw [if_neg (by omega), List.drop_of_length_le (by omega)]
    have := specPure_2 v h0 hv s h2 (allS v s) (by omega) (fun n hn => by
      have := (intsFrom_mem _ _ _).1 (List.mem_filter.1 hn).1
      omega) (allS v s).length 0 k [] (by omega) (by simp) (by omega)
    rw [show ((0 : Nat) : Int) = 0 from rfl] at this
    rw [this]
    simp [pureS]
  | d + 1, i, k, s, h1, h2, hk => by
    obtain ⟨k, rfl⟩ : ∃ m, k = m + 1 := ⟨k - 1, by omega⟩
    have hil : i < l.length := by omega
    obtain ⟨c1, c2⟩ := hc l[i] (List.getElem_mem _)
    have hm : (d + 1) * B = d * B + B := Nat.succ_mul _ _
    simp only [spec_PureIn.l0]
    rw [if_pos (by omega), if_pos (by omega), if_pos (by omega), rdL_nat l i hil]
    obtain ⟨k', hk', rfl⟩ : ∃ k', 200000 ≤ k' ∧ k = l[i].length + 1 + k' := ⟨k - l[i].length - 1, by omega, by omega⟩
    have h := specPure_1 v h0 hv l (l.length : Int) (i : Int) l[i] c1 c2 l[i].length 0 k' s (by omega) hk'
    rw [show ((0 : Nat) : Int) = 0 from rfl, List.drop_zero, next64 (by omega)] at h
    rw [h, List.drop_eq_getElem_cons hil, List.flatten_cons, ← List.append_assoc]
    exact specPure_0 B hB v h0 hv l hl hc d (i + 1) k' (s ++ l[i]) (by omega) (fun n hn => (List.mem_append.1 hn).elim (h2 n) (c2 n)) (by omega)
theorem implPure_l (v : Int) (h0 : 0 ≤ v) (hv : v ≤ 12) (s : List Int) : ∀ (d : Nat) (x : Int) (k : Nat) (y : List Int), x + d = v + 1 → -v ≤ x → y.length + d ≤ 1000 → d + 10 ≤ k →
    impl_PureIn.l0 k v s y x = some (y ++ (intsFrom x d).filter (fun n => hasB s n && !hasB s (-n)), true)
  | 0, x, k, y, h1, h2, h3, hk => by
    obtain ⟨k, rfl⟩ : ∃ m, k = m + 1 := ⟨k - 1, by omega⟩
    simp only [impl_PureIn.l0]
    rw [if_neg (by omega)]
    simp [intsFrom]
  | d + 1, x, k, y, h1, h2, h3, hk => by
    obtain ⟨k, rfl⟩ : ∃ m, k = m + 1 := ⟨k - 1, by omega⟩
    have ih := fun y' hy => implPure_l v h0 hv s d (x + 1) k y' (by omega) (by omega) hy (by omega)
    simp only [impl_PureIn.l0, slices_Contains_int_int.f, any_flip, Option.bind_some]
    rw [if_pos (by omega), neg64 (by omega) (by omega), w64 (x := x + 1) (by omega) (by omega), if_pos (show y.length < 17592186044416 by omega), ih y (by omega), ih (y ++ [x]) (by rw [List.length_append, List.length_singleton]; omega), intsFrom]
    simp only [show ∀ z, (s.any fun q => q == z) = hasB s z from fun _ => rfl]
    cases h : hasB s x with
    | false =>
      rw [if_neg Bool.false_ne_true, List.filter_cons_of_neg (by simp [h])]
    | true =>
      rw [if_pos rfl]
      cases h' : hasB s (-x) with
      | true => rw [if_pos rfl, List.filter_cons_of_neg (by simp [h'])]
      | false =>
        rw [if_neg Bool.false_ne_true, List.filter_cons_of_pos (by simp [h, h'])]
        simp
def pureR (v : Int) (l : List (List Int)) : List Int × Bool := if goodB v l = true then (pureS v l.flatten, true) else ([], false)
theorem flat_small : ∀ (l : List (List Int)), (∀ c ∈ l, c.length ≤ 12) → l.flatten.length ≤ l.length * 12
  | [], _ => by simp
  | x :: r, h => by
    have h1 := flat_small r (fun c hc => h c (List.mem_cons_of_mem _ hc))
    have h2 := h x List.mem_cons_self
    rw [List.flatten_cons, List.length_append, List.length_cons, Nat.succ_mul]
    omega
theorem specPure_val (v : Int) (l : List (List Int)) (hl : l.length ≤ 1048576) (hi : ∀ x ∈ l, x.length ≤ 1048576) (k : Nat) (hk : 5000000 ≤ k) : spec_PureIn.f k v l = some (pureR v l) := by
  unfold spec_PureIn.f pureR
  rw [specGood_val v l hl hi k hk]
  simp only [Option.bind_some]
  cases hg : goodB v l with
  | false => rfl
  | true =>
    obtain ⟨h0, h1, h60, _⟩ := goodB_facts hg
    simp only [if_true]
    have h := specPure_0 1002 rfl v h0 h1 l (by omega) (fun c hc => ⟨by have := (goodB_lits hg c hc).1; omega, fun n hn => by have := (goodB_lits hg c hc).2 n hn; omega⟩) l.length 0 k [] (by omega) (fun n hn => by simp at hn) (by omega)
    have hz : allS v [] = [] := by unfold allS; simp [hasB]
    rw [hz] at h
    simpa using h
theorem implPure_val (v : Int) (l : List (List Int)) (k : Nat) (hk : 5000000 ≤ k) : impl_PureIn.f k v l = some (pureR v l) := by
  unfold impl_PureIn.f pureR
  rw [implGood_val]
  simp only [Option.bind_some]
  cases hg : goodB v l with
  | false => rfl
  | true =>
    obtain ⟨h0, h1, h60, _⟩ := goodB_facts hg
    simp only [if_true]
    have hf := flat_small l (fun c hc => (goodB_lits hg c hc).1)
    unfold slices_Concat_int_int.f
    rw [if_pos (by omega)]
    simp only [Option.bind_some]
    rw [neg64 (by omega) (by omega)]
    have h := implPure_l v h0 h1 l.flatten (2 * v.toNat + 1) (-v) k [] (by omega) (by omega) (by rw [List.length_nil]; omega) (by omega)
    rw [h]
    unfold pureS allS
    rw [List.filter_filter, List.nil_append]
    congr 2
    refine List.filter_congr fun x _ => ?_
    exact Bool.and_comm _ _
theorem pureR_length (v : Int) (l : List (List Int)) : (pureR v l).1.length ≤ 1048576 := by
  unfold pureR
  cases hg : goodB v l with
  | false => simp
  | true =>
    obtain ⟨h0, h1, h60, _⟩ := goodB_facts hg
    rw [if_pos rfl]
    unfold pureS
    have := allS_length v l.flatten h1
    exact Nat.le_trans (List.length_filter_le _ _) (by omega)

theorem FnExactPureIn : laws_FnExactPureIn.Pure := by
  rintro v l hv ⟨h0, h1⟩
  obtain ⟨k, hk⟩ : ∃ k : Nat, 6000000 ≤ k := ⟨_, Nat.le_refl _⟩
  refine ⟨k, ?_⟩
  unfold laws_FnExactPureIn.f
  obtain ⟨t, ht, hte⟩ := szIntSS_val l h0 (fun x hx => (h1 x hx).1) k (by omega)
  rw [ht]
  simp only [Option.bind_some]
  by_cases hn : t < 0
  · rw [if_pos hn]
  · obtain ⟨hb, hi⟩ := hte (by omega)
    rw [if_neg hn]
    have hs : ∀ q, 5000000 ≤ q → spec_PureIn.f q v l = some (pureR v l) := fun q hq => specPure_val v l hb hi q hq
    have him : ∀ q, 5000000 ≤ q → impl_PureIn.f q v l = some (pureR v l) := fun q hq => implPure_val v l q hq
    have hr := pureR_length v l
    obtain ⟨r, hre⟩ : ∃ r, r = pureR v l := ⟨_, rfl⟩
    rw [← hre] at hs him hr
    obtain ⟨r1, r2⟩ := r
    replace hr : r1.length ≤ 1048576 := hr
    have hT : ∀ q, 5000000 ≤ q → laws_toIntSS.f q l = some l := fun q hq => toIntSS_val l hb hi q (by omega)
    have hE : ∀ q, 5000000 ≤ q → laws_eqIntSS.f q l l = some true := fun q hq => eqIntSS_val l hb hi q (by omega)
    have hER : ∀ q, 5000000 ≤ q → laws_eqIntS.f q r1 r1 = some true := fun q hq => eqIntS_val r1 (by omega) q (by omega)
    have hsl := sumL_small l hb hi
    have hs0 := sumL_nonneg l
    have hM : ∀ q, 5000000 ≤ q → laws_markIntSS.f q l 1 = some (1 + sumL l, markZZ 1 l) := fun q hq => markIntSS_val l hb hi 1 (by omega) (by omega) q (by omega)
    have hMR : ∀ q, 5000000 ≤ q → laws_markIntS.f q r1 1 = some (1 + (r1.length : Int), markZ 1 r1.length) := fun q hq => markIntS_val r1 1 (by omega) (by omega) (by omega) q (by omega)
    have hH : ∀ q, 5000000 ≤ q → laws_heldIntS.f q (markZ 1 r1.length) 1 = some (1 + (r1.length : Int)) := fun q hq => heldIntS_val r1.length 1 (by omega) (by omega) (by omega) q (by omega)
    have n1 : ¬ (1 + sumL l < 0) := by omega
    have n2 : ¬ (1 + (r1.length : Int) < 0) := by omega
    repeat (first
      | (rw [hT _ (by omega)]; simp only [Option.bind_some])
      | (rw [hs _ (by omega)]; simp only [Option.bind_some])
      | (rw [him _ (by omega)]; simp only [Option.bind_some])
      | (rw [hE _ (by omega)]; simp only [Option.bind_some])
      | (rw [hER _ (by omega)]; simp only [Option.bind_some])
      | (rw [hM _ (by omega)]; simp only [Option.bind_some])
      | (rw [hMR _ (by omega)]; simp only [Option.bind_some])
      | (rw [hH _ (by omega)]; simp only [Option.bind_some])
      | rw [if_neg n1]
      | rw [if_neg n2]
      | rw [if_pos rfl]
      | rw [bne_self_eq_false]
      | rw [if_neg Bool.false_ne_true]
      | simp only [Option.bind_some])
    try simp

end Go.Proofs.Ytlehkmadphmfdaa.Pure
