/- The pure statement of the law FnExactResolve: the printed functions of the program and of the reference give the same answers, at every input that the statement's guards let in. -/
import Derived.Test.YtemgmpbionkjhaaPFnExactResolvex4
namespace Go.Proofs.Ytemgmpbionkjhaa.Pure
open Go.RowKit Go.Proofs.Ytemgmpbionkjhaa.PFnExactResolve Go.Proofs.YtemgmpbionkjhaaW.PrintWords Go.Proofs.YtemgmpbionkjhaaW.PrintLast Go.Proofs.YtemgmpbionkjhaaW.PrintMore
theorem w64 {x : Int} (h0 : -9223372036854775808 ≤ x) (h1 : x ≤ 9223372036854775807) : wrap64 x = x := by
  unfold wrap64
  omega
theorem l64 {a : Int} (h : (Lit.int .i64 a).wf = true) : -9223372036854775808 ≤ a ∧ a ≤ 9223372036854775807 := by
  simp only [Lit.wf, IntKind.min, IntKind.max, IntKind.signed, IntKind.bits, Bool.and_eq_true, decide_eq_true_eq, if_true] at h
  omega
theorem rd_nat (l : List Int) (i : Nat) (h : i < l.length) : rd l (i : Int) = l[i] := by
  unfold rd
  rw [List.getD_eq_getElem?_getD, show ((i : Int).toNat) = i by omega, List.getElem?_eq_getElem h]
  rfl
theorem next64 {i : Nat} (h : i ≤ 4611686018427387904) : wrap64 ((i : Int) + 1) = ((i + 1 : Nat) : Int) := by
  rw [w64 (by omega) (by omega)]
  omega

theorem toIntS_l (l : List Int) (hl : l.length ≤ 4611686018427387904) : ∀ (d i : Nat) (y : List Int) (k : Nat), i + d = l.length → y.length = l.length → (∀ j, j < i → y[j]? = l[j]?) → d < k → laws_toIntS.l0 k l y (i : Int) = some l
  | 0, i, y, k, h1, h2, h3, hk => by
    obtain ⟨k, rfl⟩ : ∃ m, k = m + 1 := ⟨k - 1, by omega⟩
    simp only [laws_toIntS.l0]
    rw [if_neg (by omega)]
    congr 1
    apply List.ext_getElem?
    intro j
    by_cases hj : j < i
    · exact h3 j hj
    · rw [List.getElem?_eq_none (by omega), List.getElem?_eq_none (by omega)]
  | d + 1, i, y, k, h1, h2, h3, hk => by
    obtain ⟨k, rfl⟩ : ∃ m, k = m + 1 := ⟨k - 1, by omega⟩
    simp only [laws_toIntS.l0]
    rw [if_pos (by omega), if_pos (by omega), if_pos (by omega), next64 (by omega), rd_nat l i (by omega)]
    refine toIntS_l l hl d (i + 1) _ k (by omega) (by rw [List.length_set]; exact h2) (fun j hj => ?_) (by omega)
    rw [show ((i : Int).toNat) = i by omega, List.getElem?_set]
    by_cases e : i = j
    · subst e
      rw [if_pos rfl, if_pos (by omega), List.getElem?_eq_getElem (by omega)]
    · rw [if_neg e]
      exact h3 j (by omega)
theorem toIntS_val (l : List Int) (hl : l.length ≤ 1048576) (k : Nat) (hk : l.length < k) : laws_toIntS.f k l = some l := by
  unfold laws_toIntS.f
  rw [if_pos (by omega), if_pos (by omega)]
  exact toIntS_l l (by omega) l.length 0 _ k (by omega) (by rw [List.length_replicate]; omega) (fun j hj => absurd hj (by omega)) hk

theorem eqIntS_l (l : List Int) (hl : l.length ≤ 4611686018427387904) : ∀ (d i k : Nat), i + d = l.length → d < k → laws_eqIntS.l0 k l l (i : Int) = some true
  | 0, i, k, h1, hk => by
    obtain ⟨k, rfl⟩ : ∃ m, k = m + 1 := ⟨k - 1, by omega⟩
    simp only [laws_eqIntS.l0]
    rw [if_neg (by omega)]
  | d + 1, i, k, h1, hk => by
    obtain ⟨k, rfl⟩ : ∃ m, k = m + 1 := ⟨k - 1, by omega⟩
    simp only [laws_eqIntS.l0]
    rw [if_pos (by omega), if_pos (by omega), if_pos (by omega), if_true, next64 (by omega)]
    exact eqIntS_l l hl d (i + 1) k (by omega) (by omega)
theorem eqIntS_val (l : List Int) (hl : l.length ≤ 4611686018427387904) (k : Nat) (hk : l.length < k) : laws_eqIntS.f k l l = some true := by
  unfold laws_eqIntS.f
  rw [if_pos rfl]
  exact eqIntS_l l hl l.length 0 k (by omega) hk

theorem markIntS_l (a : Int) (ha : 0 ≤ a) (ha2 : a ≤ 4398046511104) : ∀ (d i : Nat) (y : List Int) (k : Nat), i + d = y.length → y.length ≤ 4398046511104 → (∀ j (hj : j < y.length), j < i → y[j] = a + j) → d < k →
    ∃ z : List Int, laws_markIntS.l0 k y (a + i) (i : Int) = some (a + y.length, z) ∧ z.length = y.length ∧ ∀ j (hj : j < z.length), z[j] = a + j
  | 0, i, y, k, h1, h2, h3, hk => by
    obtain ⟨k, rfl⟩ : ∃ m, k = m + 1 := ⟨k - 1, by omega⟩
    simp only [laws_markIntS.l0]
    rw [if_neg (by omega)]
    exact ⟨y, by rw [show (a + (i : Int)) = a + (y.length : Int) by omega], rfl, fun j hj => h3 j hj (by omega)⟩
  | d + 1, i, y, k, h1, h2, h3, hk => by
    obtain ⟨k, rfl⟩ : ∃ m, k = m + 1 := ⟨k - 1, by omega⟩
    simp only [laws_markIntS.l0]
    rw [if_pos (by omega), if_pos (by omega), next64 (by omega), w64 (by omega) (by omega), show a + (i : Int) + 1 = a + ((i + 1 : Nat) : Int) by omega, show ((i : Int).toNat) = i by omega]
    obtain ⟨z, hz, hzl, hze⟩ := markIntS_l a ha ha2 d (i + 1) (y.set i (a + i)) k (by rw [List.length_set]; omega) (by rw [List.length_set]; omega) (fun j hj hji => by
      rw [List.getElem_set]
      by_cases e : i = j
      · rw [if_pos e, e]
      · rw [if_neg e]
        exact h3 j (by rw [List.length_set] at hj; exact hj) (by omega)) (by omega)
    rw [List.length_set] at hz hzl
    exact ⟨z, hz, hzl, hze⟩
theorem heldIntS_l (a : Int) (ha : 0 ≤ a) (ha2 : a ≤ 4398046511104) (z : List Int) (hl : z.length ≤ 4398046511104) (hz : ∀ j (hj : j < z.length), z[j] = a + j) : ∀ (d i k : Nat), i + d = z.length → d < k → laws_heldIntS.l0 k z (a + i) (i : Int) = some (a + z.length)
  | 0, i, k, h1, hk => by
    obtain ⟨k, rfl⟩ : ∃ m, k = m + 1 := ⟨k - 1, by omega⟩
    simp only [laws_heldIntS.l0]
    rw [if_neg (by omega), show (a + (i : Int)) = a + (z.length : Int) by omega]
  | d + 1, i, k, h1, hk => by
    obtain ⟨k, rfl⟩ : ∃ m, k = m + 1 := ⟨k - 1, by omega⟩
    simp only [laws_heldIntS.l0]
    rw [if_pos (by omega), if_pos (by omega), rd_nat z i (by omega), if_pos (hz i (by omega)), next64 (by omega), w64 (by omega) (by omega), show a + (i : Int) + 1 = a + ((i + 1 : Nat) : Int) by omega]
    exact heldIntS_l a ha ha2 z hl hz d (i + 1) k (by omega) (by omega)
def markZ (a : Int) (n : Nat) : List Int := (List.range n).map fun (j : Nat) => a + (j : Int)
theorem markZ_length (a : Int) (n : Nat) : (markZ a n).length = n := by simp [markZ]
theorem markIntS_val (y : List Int) (a : Int) (ha : 0 ≤ a) (ha2 : a ≤ 4398046511104) (hl : y.length ≤ 4398046511104) (k : Nat) (hk : y.length < k) :
    laws_markIntS.f k y a = some (a + y.length, markZ a y.length) := by
  obtain ⟨z, h1, h2, h3⟩ := markIntS_l a ha ha2 y.length 0 y k (by omega) hl (fun j _ hj => absurd hj (by omega)) hk
  have hz : z = markZ a y.length := by
    apply List.ext_getElem (by rw [h2, markZ_length])
    intro j hj1 hj2
    rw [h3 j hj1]
    simp [markZ]
  rw [← hz]
  unfold laws_markIntS.f
  simpa using h1
theorem heldIntS_val (n : Nat) (a : Int) (ha : 0 ≤ a) (ha2 : a ≤ 4398046511104) (hn : n ≤ 4398046511104) (k : Nat) (hk : n < k) : laws_heldIntS.f k (markZ a n) a = some (a + n) := by
  have := heldIntS_l a ha ha2 (markZ a n) (by rw [markZ_length]; omega) (fun j hj => by simp [markZ]) (markZ a n).length 0 k (by omega) (by rw [markZ_length]; omega)
  rw [markZ_length] at this
  unfold laws_heldIntS.f
  simpa using this

theorem drop_at (l : List Int) (i : Nat) (h : i < l.length) : l.drop i = l[i] :: l.drop (i + 1) := List.drop_eq_getElem_cons h
theorem has_l (l : List Int) (x : Int) (hl : l.length ≤ 1099511627776) : ∀ (d i k : Nat), i + d = l.length → d < k → spec_l1Has.l0 k x l (l.length : Int) (i : Int) = some ((l.drop i).any (· == x))
  | 0, i, k, h1, hk => by
    obtain ⟨k, rfl⟩ : ∃ m, k = m + 1 := ⟨k - 1, by omega⟩
    simp only [spec_l1Has.l0]
    rw [if_neg (by omega), List.drop_of_length_le (by omega)]
    rfl
  | d + 1, i, k, h1, hk => by
    obtain ⟨k, rfl⟩ : ∃ m, k = m + 1 := ⟨k - 1, by omega⟩
    simp only [spec_l1Has.l0]
    rw [if_pos (by omega), if_pos (by omega), if_pos (by omega), rd_nat l i (by omega), next64 (by omega), drop_at l i (by omega)]
    by_cases e : l[i] = x
    · rw [if_pos e]
      rw [List.any_cons, show (l[i] == x) = true by simpa using e, Bool.true_or]
    · rw [if_neg e, has_l l x hl d (i + 1) k (by omega) (by omega), List.any_cons, show (l[i] == x) = false by simpa using e, Bool.false_or]
theorem has_val (l : List Int) (x : Int) (hl : l.length ≤ 1099511627776) (k : Nat) (hk : l.length < k) : spec_l1Has.f k l x = some (l.any (· == x)) := by
  unfold spec_l1Has.f
  have := has_l l x hl l.length 0 k (by omega) hk
  simpa using this

theorem specIn_val (n a b : Int) : spec_l1In.f n a b = some (decide (a ≤ n) && decide (n ≤ b)) := by
  unfold spec_l1In.f
  by_cases h : n ≥ a
  · rw [if_pos h]
    simp [h]
  · rw [if_neg h]
    simp [h]
theorem neg64 {n : Int} (h0 : -4611686018427387904 ≤ n) (h1 : n ≤ 4611686018427387904) : wrap64 (-n) = -n := w64 (by omega) (by omega)
theorem vab_small {n : Int} (h0 : -12 ≤ n) (h1 : n ≤ 12) : vab n = if n < -n then -n else n := by
  unfold vab
  rw [neg64 (by omega) (by omega)]
theorem vab_eq {n m : Int} (h0 : -12 ≤ n) (h1 : n ≤ 12) (h2 : -12 ≤ m) (h3 : m ≤ 12) : (vab n == vab m) = ((n == m) || (n == -m)) := by
  rw [vab_small h0 h1, vab_small h2 h3, Bool.eq_iff_iff]
  simp only [beq_iff_eq, Bool.or_eq_true]
  split <;> split <;> omega
theorem litB_small {n v : Int} (h0 : 0 ≤ v) (h1 : v ≤ 12) (h : litB n v = true) : n ≠ 0 ∧ -v ≤ n ∧ n ≤ v := by
  unfold litB at h
  rw [neg64 (by omega) (by omega)] at h
  simpa [Bool.and_eq_true] using h
theorem any_vab (l : List Int) (m : Int) (h2 : -12 ≤ m) (h3 : m ≤ 12) (hl : ∀ x ∈ l, -12 ≤ x ∧ x ≤ 12) : (l.any fun k => vab k == vab m) = (l.any (· == m) || l.any (· == -m)) := by
  induction l with
  | nil => rfl
  | cons a l ih =>
    have ha := hl a List.mem_cons_self
    rw [List.any_cons, List.any_cons, List.any_cons, ih (fun x hx => hl x (List.mem_cons_of_mem _ hx)), vab_eq ha.1 ha.2 h2 h3]
    cases (a == m) <;> cases (a == -m) <;> cases l.any (· == m) <;> simp

theorem any_flip (l : List Int) (a : Int) : (l.any fun y => a == y) = l.any (· == a) := by
  congr 1
  funext y
  rw [Bool.eq_iff_iff]
  simp only [beq_iff_eq]
  exact eq_comm

def cleanL : List Int → List Int → List Int × Bool
  | acc, [] => (acc, true)
  | acc, n :: r => if acc.any (· == wrap64 (-n)) = true then ([], false) else if acc.any (· == n) = true then cleanL acc r else cleanL (acc ++ [n]) r
def cleanS : List Int → List Int → List Int × Bool
  | acc, [] => (acc, true)
  | acc, n :: r => if (!litB n 12 || acc.any (· == wrap64 (-n))) = true then ([], false) else if acc.any (· == n) = true then cleanS acc r else cleanS (acc ++ [n]) r
theorem cleanS_bad : ∀ (l acc : List Int), (l.any fun n => !litB n 12) = true → cleanS acc l = ([], false)
  | [], acc, h => by simp at h
  | n :: r, acc, h => by
    unfold cleanS
    cases hb : litB n 12 with
    | false => simp
    | true =>
      have h2 : (r.any fun n => !litB n 12) = true := by simpa [hb] using h
      split
      · rfl
      · split
        · exact cleanS_bad r acc h2
        · exact cleanS_bad r _ h2
theorem cleanS_good : ∀ (l acc : List Int), (l.any fun n => !litB n 12) = false → cleanS acc l = cleanL acc l
  | [], acc, h => rfl
  | n :: r, acc, h => by
    have h1 : litB n 12 = true ∧ (r.any fun n => !litB n 12) = false := by simpa using h
    unfold cleanS cleanL
    rw [h1.1, cleanS_good r acc h1.2, cleanS_good r _ h1.2]
    simp
theorem clean_length : ∀ (l acc : List Int), (cleanL acc l).1.length ≤ acc.length + l.length
  | [], acc => by simp [cleanL]
  | n :: r, acc => by
    unfold cleanL
    split
    · simp
    · split
      · have := clean_length r acc
        simp
        omega
      · have := clean_length r (acc ++ [n])
        simp at this
        simp
        omega
theorem specClean_l (l : List Int) (hl : l.length ≤ 1000) : ∀ (d i k : Nat) (acc : List Int), i + d = l.length → acc.length ≤ i → 2 * d + 2000 ≤ k → spec_CleanClause.l0 k acc l (l.length : Int) (i : Int) = some (cleanS acc (l.drop i))
  | 0, i, k, acc, h1, h2, hk => by
    obtain ⟨k, rfl⟩ : ∃ m, k = m + 1 := ⟨k - 1, by omega⟩
    simp only [spec_CleanClause.l0]
    rw [if_neg (by omega), List.drop_of_length_le (by omega)]
    rfl
  | d + 1, i, k, acc, h1, h2, hk => by
    obtain ⟨k, rfl⟩ : ∃ m, k = m + 2 := ⟨k - 2, by omega⟩
    have hil : i < l.length := by omega
    simp only [spec_CleanClause.l0, spec_CleanClause.j1]
    rw [if_pos (by omega), if_pos (by omega), if_pos (by omega), rd_nat l i hil, next64 (by omega), drop_at l i hil]
    have hw : litB l[i] 12 = (decide (l[i] ≠ 0) && (decide (-12 ≤ l[i]) && decide (l[i] ≤ 12))) := by
      unfold litB
      rw [neg64 (n := 12) (by omega) (by omega)]
    unfold cleanS
    by_cases e0 : l[i] = 0
    · rw [if_pos e0, hw]
      simp [e0]
    · rw [if_neg e0, specIn_val]
      simp only [Option.bind_some]
      have hb : litB l[i] 12 = (decide (-12 ≤ l[i]) && decide (l[i] ≤ 12)) := by rw [hw]; simp [e0]
      rw [← hb]
      cases litB l[i] 12 with
      | false => simp
      | true =>
        first | rw [if_pos rfl] | rw [if_true]
        rw [has_val acc _ (by omega) _ (by omega)]
        simp only [Option.bind_some, Bool.not_true, Bool.false_or]
        cases acc.any (· == wrap64 (-l[i])) with
        | true => simp
        | false =>
          rw [if_neg Bool.false_ne_true, if_neg Bool.false_ne_true, has_val acc _ (by omega) _ (by omega)]
          simp only [Option.bind_some]
          cases acc.any (· == l[i]) with
          | true =>
            simp only [if_true]
            exact specClean_l l hl d (i + 1) k acc (by omega) (by omega) (by omega)
          | false =>
            rw [if_neg Bool.false_ne_true, if_neg Bool.false_ne_true, if_pos (by omega)]
            exact specClean_l l hl d (i + 1) k _ (by omega) (by simp; omega) (by omega)
theorem implClean_l (l : List Int) (hl : l.length ≤ 1000) : ∀ (d i k : Nat) (acc : List Int), i + d = l.length → acc.length ≤ i → d < k → impl_clean.l0 k acc l (l.length : Int) (i : Int) = some (cleanL acc (l.drop i))
  | 0, i, k, acc, h1, h2, hk => by
    obtain ⟨k, rfl⟩ : ∃ m, k = m + 1 := ⟨k - 1, by omega⟩
    simp only [impl_clean.l0]
    rw [if_neg (by omega), List.drop_of_length_le (by omega)]
    rfl
  | d + 1, i, k, acc, h1, h2, hk => by
    obtain ⟨k, rfl⟩ : ∃ m, k = m + 1 := ⟨k - 1, by omega⟩
    have hil : i < l.length := by omega
    simp only [impl_clean.l0, slices_Contains_int_int.f, Option.bind_some, any_flip]
    rw [if_pos (by omega), if_pos (by omega), if_pos (by omega), rd_nat l i hil, next64 (by omega), drop_at l i hil]
    unfold cleanL
    cases acc.any (· == wrap64 (-l[i])) with
    | true => simp
    | false =>
      rw [if_neg Bool.false_ne_true, if_neg Bool.false_ne_true]
      cases acc.any (· == l[i]) with
      | true =>
        simp only [if_true]
        exact implClean_l l hl d (i + 1) k acc (by omega) (by omega) (by omega)
      | false =>
        rw [if_neg Bool.false_ne_true, if_neg Bool.false_ne_true, if_pos (by omega)]
        exact implClean_l l hl d (i + 1) k _ (by omega) (by simp; omega) (by omega)
theorem cleanClause_spec (l : List Int) (k : Nat) (hk : 3000000 ≤ k) : spec_CleanClause.f k l = some (if (l.length : Int) > 40 then ([], false) else cleanS [] l) := by
  unfold spec_CleanClause.f
  by_cases h : (l.length : Int) > 40
  · rw [if_pos h, if_pos h]
  · rw [if_neg h, if_neg h]
    have := specClean_l l (by omega) l.length 0 k [] (by omega) (by simp) (by omega)
    simpa using this
theorem implClean_val (l : List Int) (hl : l.length ≤ 1000) (k : Nat) (hk : 3000000 ≤ k) : impl_clean.f k l = some (cleanL [] l) := by
  unfold impl_clean.f
  have := implClean_l l hl l.length 0 k [] (by omega) (by simp) (by omega)
  simpa using this

theorem clause_l (v : Int) (hv0 : 0 ≤ v) (hv1 : v ≤ 12) (l : List Int) (hl : l.length ≤ 1099511627776) : ∀ (d i k : Nat), i + d = l.length → (∀ x ∈ l.take i, -12 ≤ x ∧ x ≤ 12) → d + l.length + 1 < k →
    spec_l4Clause.l0 k v l l (l.length : Int) (i : Int) = some (clauseFrom v (l.take i) (l.drop i) && decide (l.length ≤ 12))
  | 0, i, k, h1, hs, hk => by
    obtain ⟨k, rfl⟩ : ∃ m, k = m + 1 := ⟨k - 1, by omega⟩
    simp only [spec_l4Clause.l0]
    rw [if_neg (by omega), List.drop_of_length_le (by omega)]
    simp only [clauseFrom, Bool.true_and]
    congr 2
    exact propext (by omega)
  | d + 1, i, k, h1, hs, hk => by
    obtain ⟨k, rfl⟩ : ∃ m, k = m + 1 := ⟨k - 1, by omega⟩
    have hil : i < l.length := by omega
    have ht : (l.take i).length = i := by rw [List.length_take]; omega
    simp only [spec_l4Clause.l0]
    rw [if_pos (by omega), if_pos (by omega), if_pos (by omega), rd_nat l i hil, next64 (by omega), drop_at l i hil, show ((i : Int).toNat) = i by omega, if_pos (show (i : Int) ≤ (l.length : Int) by omega)]
    simp only [clauseFrom]
    by_cases e0 : l[i] = 0
    · rw [if_pos e0]
      have : litB l[i] v = false := by unfold litB; simp [e0]
      rw [this]
      rfl
    · rw [if_neg e0, specIn_val]
      simp only [Option.bind_some]
      have hlit : litB l[i] v = (decide (wrap64 (-v) ≤ l[i]) && decide (l[i] ≤ v)) := by unfold litB; simp [e0]
      rw [← hlit]
      cases hb : litB l[i] v with
      | false => rfl
      | true =>
        obtain ⟨_, h4, h5⟩ := litB_small hv0 hv1 hb
        rw [if_pos rfl, has_val _ _ (by omega) _ (by omega), neg64 (by omega) (by omega), has_val _ _ (by omega) _ (by omega), any_vab _ _ (by omega) (by omega) hs]
        simp only [Option.bind_some]
        cases (l.take i).any (· == l[i]) with
        | true => rfl
        | false =>
          cases (l.take i).any (· == -l[i]) with
          | true => rfl
          | false =>
            have hst : l.take (i + 1) = l.take i ++ [l[i]] := List.take_succ_eq_append_getElem hil
            have := clause_l v hv0 hv1 l hl d (i + 1) k (by omega) (fun x hx => by
              rw [hst] at hx
              rcases List.mem_append.1 hx with hx | hx
              · exact hs x hx
              · rw [List.mem_singleton.1 hx]
                omega) (by omega)
            rw [hst] at this
            simp only [Bool.false_eq_true, if_false, Bool.or_false, Bool.not_false, Bool.true_and]
            exact this
theorem clause_val (v : Int) (hv0 : 0 ≤ v) (hv1 : v ≤ 12) (l : List Int) (hl : l.length ≤ 1048576) (k : Nat) (hk : 3000000 ≤ k) : spec_l4Clause.f k v l = some (isClauseB l v) := by
  unfold spec_l4Clause.f isClauseB
  have := clause_l v hv0 hv1 l (by omega) l.length 0 k (by omega) (by simp) (by omega)
  simpa using this

theorem clause_lits (v : Int) : ∀ (l seen : List Int), clauseFrom v seen l = true → ∀ n ∈ l, litB n v = true
  | [], _, _, n, hn => by simp at hn
  | a :: r, seen, h, n, hn => by
    unfold clauseFrom at h
    simp only [Bool.and_eq_true] at h
    rcases List.mem_cons.1 hn with rfl | hn
    · exact h.1
    · exact clause_lits v r _ h.2.2 n hn
theorem isClause_facts {v : Int} {c : List Int} (h : isClauseB c v = true) : c.length ≤ 12 ∧ ∀ n ∈ c, litB n v = true := by
  unfold isClauseB at h
  simp only [Bool.and_eq_true, decide_eq_true_eq] at h
  exact ⟨h.2, clause_lits v c [] h.1⟩

theorem specResolve_1 (v : Int) (l : List Int) (hl : l.length ≤ 1000) : ∀ (d i k : Nat) (acc : List Int), i + d = l.length → acc.length + d ≤ 2000 → d + 3000001 ≤ k →
    spec_l4Resolve.l1 k v acc l (l.length : Int) (i : Int) = (let y := acc ++ (l.drop i).filter fun x => !(x == wrap64 (-v)); if (y.length : Int) > 40 then some ([], false) else some (cleanS [] y)) := by
  intro d
  induction d with
  | zero =>
    intro i k acc h1 h2 hk
    obtain ⟨k, rfl⟩ : ∃ m, k = m + 1 := ⟨k - 1, by omega⟩
    rw [spec_l4Resolve.l1, if_neg (by omega), List.drop_of_length_le (by omega), cleanClause_spec acc k (by omega)]
    simp only [List.filter_nil, List.append_nil]
    split <;> simp
  | succ d ih =>
    intro i k acc h1 h2 hk
    obtain ⟨k, rfl⟩ : ∃ m, k = m + 1 := ⟨k - 1, by omega⟩
    have hi : i < l.length := by omega
    rw [spec_l4Resolve.l1, if_pos (by omega), if_pos (by omega), if_pos (by omega), rd_nat l i hi, next64 (by omega), if_pos (show acc.length < 17592186044416 by omega), drop_at l i hi]
    rw [ih (i + 1) k acc (by omega) (by omega) (by omega), ih (i + 1) k (acc ++ [l[i]]) (by omega) (by simp; omega) (by omega)]
    by_cases e : l[i] = wrap64 (-v)
    · rw [if_pos e, List.filter_cons_of_neg (by simp [e])]
    · rw [if_neg e, List.filter_cons_of_pos (by simp [e])]
      simp only [List.append_assoc, List.singleton_append]
theorem specResolve_0 (v : Int) (l m : List Int) (hl : l.length ≤ 1000) (hm : m.length ≤ 1000) : ∀ (d i k : Nat) (acc : List Int), i + d = l.length → acc.length + d ≤ 1000 → d + 3002001 ≤ k →
    spec_l4Resolve.l0 k m v acc l (l.length : Int) (i : Int) = (let y := acc ++ (l.drop i).filter (fun x => !(x == v)) ++ m.filter fun x => !(x == wrap64 (-v)); if (y.length : Int) > 40 then some ([], false) else some (cleanS [] y)) := by
  intro d
  induction d with
  | zero =>
    intro i k acc h1 h2 hk
    obtain ⟨k, rfl⟩ : ∃ m, k = m + 1 := ⟨k - 1, by omega⟩
    rw [spec_l4Resolve.l0, if_neg (by omega), List.drop_of_length_le (by omega)]
    have := specResolve_1 v m hm m.length 0 k acc (by omega) (by omega) (by omega)
    simp only [List.filter_nil, List.append_nil]
    simpa using this
  | succ d ih =>
    intro i k acc h1 h2 hk
    obtain ⟨k, rfl⟩ : ∃ m, k = m + 1 := ⟨k - 1, by omega⟩
    have hi : i < l.length := by omega
    rw [spec_l4Resolve.l0, if_pos (by omega), if_pos (by omega), if_pos (by omega), rd_nat l i hi, next64 (by omega), if_pos (show acc.length < 17592186044416 by omega), drop_at l i hi]
    rw [ih (i + 1) k acc (by omega) (by omega) (by omega), ih (i + 1) k (acc ++ [l[i]]) (by omega) (by simp; omega) (by omega)]
    by_cases e : l[i] = v
    · rw [if_pos e, List.filter_cons_of_neg (by simp [e])]
    · rw [if_neg e, List.filter_cons_of_pos (by simp [e])]
      simp only [List.append_assoc, List.cons_append, List.nil_append]
theorem resolve_both (l m : List Int) (v : Int) (hl : l.length ≤ 1048576) (hm : m.length ≤ 1048576) : ∃ r : List Int × Bool, r.1.length ≤ 1048576 ∧ (∀ k, 5000000 ≤ k → spec_Resolve.f k l m v = some r) ∧ ∀ k, 5000000 ≤ k → impl_Resolve.f k l m v = some r := by
  unfold spec_Resolve.f impl_Resolve.f impl_isClause.f slices_Contains_int_int.f
  cases h0 : isClauseB l 12 with
  | false =>
    refine ⟨([], false), by simp, fun k hk => ?_, fun k hk => rfl⟩
    rw [clause_val 12 (by omega) (by omega) l hl k (by omega), h0]
    rfl
  | true =>
    cases h1 : isClauseB m 12 with
    | false =>
      refine ⟨([], false), by simp, fun k hk => ?_, fun k hk => rfl⟩
      rw [clause_val 12 (by omega) (by omega) l hl k (by omega), clause_val 12 (by omega) (by omega) m hm k (by omega), h0, h1]
      rfl
    | true =>
      obtain ⟨hl12, hll⟩ := isClause_facts h0
      obtain ⟨hm12, hml⟩ := isClause_facts h1
      have hs : ∀ k, 5000000 ≤ k → ∀ (X : Bool → Option (List Int × Bool)), ((spec_l4Clause.f k 12 l).bind fun t => if t = true then ((spec_l4Clause.f k 12 m).bind fun t => X t) else some ([], false)) = X true := fun k hk X => by
        rw [clause_val 12 (by omega) (by omega) l hl k (by omega), clause_val 12 (by omega) (by omega) m hm k (by omega), h0, h1]
        rfl
      simp only [Option.bind_some, if_true]
      by_cases hv : v < 1
      · refine ⟨([], false), by simp, fun k hk => ?_, fun k hk => by rw [if_pos hv]⟩
        rw [hs k hk, if_pos rfl, specIn_val, show decide (1 ≤ v) = false from decide_eq_false (by omega)]
        rfl
      · simp only [if_neg hv]
        rw [any_flip l v]
        cases hh : l.any (· == v) with
        | false =>
          refine ⟨([], false), by simp, fun k hk => ?_, fun k hk => rfl⟩
          rw [hs k hk, if_pos rfl, specIn_val]
          simp only [Option.bind_some]
          cases (decide (1 ≤ v) && decide (v ≤ 12)) with
          | false => rfl
          | true =>
            rw [if_pos rfl, has_val l v (by omega) k (by omega), hh]
            rfl
        | true =>
          obtain ⟨x, hx, hxe⟩ := List.any_eq_true.1 hh
          have hxv : x = v := by simpa using hxe
          subst hxv
          obtain ⟨_, _, hx12⟩ := litB_small (by omega) (by omega) (hll x hx)
          rw [any_flip m (wrap64 (-x))]
          have hs2 : ∀ k, 5000000 ≤ k → ∀ (X : Bool → Option (List Int × Bool)), ((spec_l1In.f x 1 12).bind fun t138 => (if t138 = true then ((spec_l1Has.f k l x).bind fun t139 => (if t139 = true then ((spec_l1Has.f k m (wrap64 (-x))).bind fun t => X t) else some ([], false))) else some ([], false))) = X (m.any (· == wrap64 (-x))) := fun k hk X => by
            rw [specIn_val, show decide (1 ≤ x) = true from decide_eq_true (by omega), show decide (x ≤ 12) = true from decide_eq_true (by omega)]
            simp only [Option.bind_some, Bool.and_self, if_true]
            rw [has_val l x (by omega) k (by omega), hh]
            simp only [Option.bind_some, if_true]
            rw [has_val m _ (by omega) k (by omega)]
            rfl
          simp only [if_true]
          cases hn : m.any (· == wrap64 (-x)) with
          | false =>
            refine ⟨([], false), by simp, fun k hk => ?_, fun k hk => rfl⟩
            rw [hs k hk, if_pos rfl, hs2 k hk, hn]
            rfl
          | true =>
            obtain ⟨y, hy⟩ : ∃ y, y = (l.filter fun z => !(z == x)) ++ (m.filter fun z => !(z == wrap64 (-x))) := ⟨_, rfl⟩
            have hyl : y.length ≤ 24 := by
              have e1 := List.length_filter_le (fun z => !(z == x)) l
              have e2 := List.length_filter_le (fun z => !(z == wrap64 (-x))) m
              rw [hy, List.length_append]
              omega
            have hyb : (y.any fun n => !litB n 12) = false := by
              rw [List.any_eq_false]
              intro n hn2
              rw [hy, List.mem_append] at hn2
              rcases hn2 with h | h
              · simp [hll n (List.mem_filter.1 h).1]
              · simp [hml n (List.mem_filter.1 h).1]
            refine ⟨cleanL [] y, by have := clean_length y []; simp at this; omega, fun k hk => ?_, fun k hk => ?_⟩
            · rw [hs k hk, if_pos rfl, hs2 k hk, hn, if_pos rfl]
              have := specResolve_0 x l m (by omega) (by omega) l.length 0 k [] (by omega) (by simp; omega) (by omega)
              simp only [List.drop_zero, List.nil_append] at this
              rw [← hy, if_neg (by omega), cleanS_good y [] hyb] at this
              unfold spec_l4Resolve.f
              rw [show ((0 : Nat) : Int) = 0 from rfl] at this
              rw [this]
              rfl
            · unfold impl_resolve.f
              rw [if_pos rfl, if_pos (by omega), ← hy, implClean_val y (by omega) k (by omega)]
              rfl

theorem FnExactResolve : laws_FnExactResolve.Pure := by
  intro l m v h0 h1 hw g0 g1 gw hv
  obtain ⟨k, hk⟩ : ∃ k : Nat, 6000000 ≤ k := ⟨_, Nat.le_refl _⟩
  refine ⟨k, ?_⟩
  unfold laws_FnExactResolve.f
  by_cases hb : (l.length : Int) > 1048576
  · rw [if_pos hb]
  · rw [if_neg hb]
    by_cases hb2 : (m.length : Int) > 1048576
    · rw [if_pos hb2]
    · rw [if_neg hb2]
      obtain ⟨⟨r1, r2⟩, hr, hs, hi⟩ := resolve_both l m v (by omega) (by omega)
      replace hr : r1.length ≤ 1048576 := hr
      have hT : ∀ q, 5000000 ≤ q → laws_toIntS.f q l = some l := fun q hq => toIntS_val l (by omega) q (by omega)
      have hTB : ∀ q, 5000000 ≤ q → laws_toIntS.f q m = some m := fun q hq => toIntS_val m (by omega) q (by omega)
      have hE : ∀ q, 5000000 ≤ q → laws_eqIntS.f q l l = some true := fun q hq => eqIntS_val l (by omega) q (by omega)
      have hEB : ∀ q, 5000000 ≤ q → laws_eqIntS.f q m m = some true := fun q hq => eqIntS_val m (by omega) q (by omega)
      have hER : ∀ q, 5000000 ≤ q → laws_eqIntS.f q r1 r1 = some true := fun q hq => eqIntS_val r1 (by omega) q (by omega)
      have hM : ∀ q, 5000000 ≤ q → laws_markIntS.f q l 1 = some (1 + (l.length : Int), markZ 1 l.length) := fun q hq => markIntS_val l 1 (by omega) (by omega) (by omega) q (by omega)
      have hMB : ∀ q, 5000000 ≤ q → laws_markIntS.f q m (1 + (l.length : Int)) = some (1 + (l.length : Int) + (m.length : Int), markZ (1 + (l.length : Int)) m.length) := fun q hq => markIntS_val m _ (by omega) (by omega) (by omega) q (by omega)
      have hMR : ∀ q, 5000000 ≤ q → laws_markIntS.f q r1 1 = some (1 + (r1.length : Int), markZ 1 r1.length) := fun q hq => markIntS_val r1 1 (by omega) (by omega) (by omega) q (by omega)
      have hH : ∀ q, 5000000 ≤ q → laws_heldIntS.f q (markZ 1 r1.length) 1 = some (1 + (r1.length : Int)) := fun q hq => heldIntS_val r1.length 1 (by omega) (by omega) (by omega) q (by omega)
      have n1 : ¬ (1 + (l.length : Int) + (m.length : Int) < 0) := by omega
      have n2 : ¬ (1 + (r1.length : Int) < 0) := by omega
      repeat (first
        | (rw [hT _ (by omega)]; simp only [Option.bind_some])
        | (rw [hTB _ (by omega)]; simp only [Option.bind_some])
        | (rw [hs _ (by omega)]; simp only [Option.bind_some])
        | (rw [hi _ (by omega)]; simp only [Option.bind_some])
        | (rw [hE _ (by omega)]; simp only [Option.bind_some])
        | (rw [hEB _ (by omega)]; simp only [Option.bind_some])
        | (rw [hER _ (by omega)]; simp only [Option.bind_some])
        | (rw [hM _ (by omega)]; simp only [Option.bind_some])
        | (rw [hMB _ (by omega)]; simp only [Option.bind_some])
        | (rw [hMR _ (by omega)]; simp only [Option.bind_some])
        | (rw [hH _ (by omega)]; simp only [Option.bind_some])
        | rw [if_neg n1]
        | rw [if_neg n2]
        | rw [if_pos rfl]
        | rw [bne_self_eq_false]
        | rw [if_neg Bool.false_ne_true]
        | simp only [Option.bind_some])
      try simp

end Go.Proofs.Ytemgmpbionkjhaa.Pure
