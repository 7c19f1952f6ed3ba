/- The pure statement of the law FnExactCleanClause: the printed functions of the program and of the reference give the same answers, at every input that the statement's guards let in. -/
import Derived.Test.YtemgmpbionkjhaaPFnExactCleanClausex3
namespace Go.Proofs.Ytemgmpbionkjhaa.Pure
open Go.RowKit Go.Proofs.Ytemgmpbionkjhaa.PFnExactCleanClause Go.Proofs.YtemgmpbionkjhaaW.PrintWords Go.Proofs.YtemgmpbionkjhaaW.PrintLast Go.Proofs.YtemgmpbionkjhaaW.PrintMore
theorem w64 {x : Int} (h0 : -9223372036854775808 ≤ x) (h1 : x ≤ 9223372036854775807) : wrap64 x = x := by
  unfold wrap64
  omega
theorem l64 {a : Int} (h : (Lit.int .i64 a).wf = true) : -9223372036854775808 ≤ a ∧ a ≤ 9223372036854775807 := by
  simp only [Lit.wf, IntKind.min, IntKind.max, IntKind.signed, IntKind.bits, Bool.and_eq_true, decide_eq_true_eq, if_true] at h
  omega
theorem rd_nat (l : List Int) (i : Nat) (h : i < l.length) : rd l (i : Int) = l[i] := by
  unfold rd
  rw [List.getD_eq_getElem?_getD, show ((i : Int).toNat) = i by omega, List.getElem?_eq_getElem h]
  rfl
theorem next64 {i : Nat} (h : i ≤ 4611686018427387904) : wrap64 ((i : Int) + 1) = ((i + 1 : Nat) : Int) := by
  rw [w64 (by omega) (by omega)]
  omega

theorem toIntS_l (l : List Int) (hl : l.length ≤ 4611686018427387904) : ∀ (d i : Nat) (y : List Int) (k : Nat), i + d = l.length → y.length = l.length → (∀ j, j < i → y[j]? = l[j]?) → d < k → laws_toIntS.l0 k l y (i : Int) = some l
  | 0, i, y, k, h1, h2, h3, hk => by
    obtain ⟨k, rfl⟩ : ∃ m, k = m + 1 := ⟨k - 1, by omega⟩
    simp only [laws_toIntS.l0]
    rw [if_neg (by omega)]
    congr 1
    apply List.ext_getElem?
    intro j
    by_cases hj : j < i
    · exact h3 j hj
    · rw [List.getElem?_eq_none (by omega), List.getElem?_eq_none (by omega)]
  | d + 1, i, y, k, h1, h2, h3, hk => by
    obtain ⟨k, rfl⟩ : ∃ m, k = m + 1 := ⟨k - 1, by omega⟩
    simp only [laws_toIntS.l0]
    rw [if_pos (by omega), if_pos (by omega), if_pos (by omega), next64 (by omega), rd_nat l i (by omega)]
    refine toIntS_l l hl d (i + 1) _ k (by omega) (by rw [List.length_set]; exact h2) (fun j hj => ?_) (by omega)
    rw [show ((i : Int).toNat) = i by omega, List.getElem?_set]
    by_cases e : i = j
    · subst e
      rw [if_pos rfl, if_pos (by omega), List.getElem?_eq_getElem (by omega)]
    · rw [if_neg e]
      exact h3 j (by omega)
theorem toIntS_val (l : List Int) (hl : l.length ≤ 1048576) (k : Nat) (hk : l.length < k) : laws_toIntS.f k l = some l := by
  unfold laws_toIntS.f
  rw [if_pos (by omega), if_pos (by omega)]
  exact toIntS_l l (by omega) l.length 0 _ k (by omega) (by rw [List.length_replicate]; omega) (fun j hj => absurd hj (by omega)) hk

theorem eqIntS_l (l : List Int) (hl : l.length ≤ 4611686018427387904) : ∀ (d i k : Nat), i + d = l.length → d < k → laws_eqIntS.l0 k l l (i : Int) = some true
  | 0, i, k, h1, hk => by
    obtain ⟨k, rfl⟩ : ∃ m, k = m + 1 := ⟨k - 1, by omega⟩
    simp only [laws_eqIntS.l0]
    rw [if_neg (by omega)]
  | d + 1, i, k, h1, hk => by
    obtain ⟨k, rfl⟩ : ∃ m, k = m + 1 := ⟨k - 1, by omega⟩
    simp only [laws_eqIntS.l0]
    rw [if_pos (by omega), if_pos (by omega), if_pos (by omega), if_true, next64 (by omega)]
    exact eqIntS_l l hl d (i + 1) k (by omega) (by omega)
theorem eqIntS_val (l : List Int) (hl : l.length ≤ 4611686018427387904) (k : Nat) (hk : l.length < k) : laws_eqIntS.f k l l = some true := by
  unfold laws_eqIntS.f
  rw [if_pos rfl]
  exact eqIntS_l l hl l.length 0 k (by omega) hk

theorem markIntS_l (a : Int) (ha : 0 ≤ a) (ha2 : a ≤ 1099511627776) : ∀ (d i : Nat) (y : List Int) (k : Nat), i + d = y.length → y.length ≤ 1099511627776 → (∀ j (hj : j < y.length), j < i → y[j] = a + j) → d < k →
    ∃ z : List Int, laws_markIntS.l0 k y (a + i) (i : Int) = some (a + y.length, z) ∧ z.length = y.length ∧ ∀ j (hj : j < z.length), z[j] = a + j
  | 0, i, y, k, h1, h2, h3, hk => by
    obtain ⟨k, rfl⟩ : ∃ m, k = m + 1 := ⟨k - 1, by omega⟩
    simp only [laws_markIntS.l0]
    rw [if_neg (by omega)]
    exact ⟨y, by rw [show (a + (i : Int)) = a + (y.length : Int) by omega], rfl, fun j hj => h3 j hj (by omega)⟩
  | d + 1, i, y, k, h1, h2, h3, hk => by
    obtain ⟨k, rfl⟩ : ∃ m, k = m + 1 := ⟨k - 1, by omega⟩
    simp only [laws_markIntS.l0]
    rw [if_pos (by omega), if_pos (by omega), next64 (by omega), w64 (by omega) (by omega), show a + (i : Int) + 1 = a + ((i + 1 : Nat) : Int) by omega, show ((i : Int).toNat) = i by omega]
    obtain ⟨z, hz, hzl, hze⟩ := markIntS_l a ha ha2 d (i + 1) (y.set i (a + i)) k (by rw [List.length_set]; omega) (by rw [List.length_set]; omega) (fun j hj hji => by
      rw [List.getElem_set]
      by_cases e : i = j
      · rw [if_pos e, e]
      · rw [if_neg e]
        exact h3 j (by rw [List.length_set] at hj; exact hj) (by omega)) (by omega)
    rw [List.length_set] at hz hzl
    exact ⟨z, hz, hzl, hze⟩
theorem heldIntS_l (a : Int) (ha : 0 ≤ a) (ha2 : a ≤ 1099511627776) (z : List Int) (hl : z.length ≤ 1099511627776) (hz : ∀ j (hj : j < z.length), z[j] = a + j) : ∀ (d i k : Nat), i + d = z.length → d < k → laws_heldIntS.l0 k z (a + i) (i : Int) = some (a + z.length)
  | 0, i, k, h1, hk => by
    obtain ⟨k, rfl⟩ : ∃ m, k = m + 1 := ⟨k - 1, by omega⟩
    simp only [laws_heldIntS.l0]
    rw [if_neg (by omega), show (a + (i : Int)) = a + (z.length : Int) by omega]
  | d + 1, i, k, h1, hk => by
    obtain ⟨k, rfl⟩ : ∃ m, k = m + 1 := ⟨k - 1, by omega⟩
    simp only [laws_heldIntS.l0]
    rw [if_pos (by omega), if_pos (by omega), rd_nat z i (by omega), if_pos (hz i (by omega)), next64 (by omega), w64 (by omega) (by omega), show a + (i : Int) + 1 = a + ((i + 1 : Nat) : Int) by omega]
    exact heldIntS_l a ha ha2 z hl hz d (i + 1) k (by omega) (by omega)
def markZ (a : Int) (n : Nat) : List Int := (List.range n).map fun (j : Nat) => a + (j : Int)
theorem markZ_length (a : Int) (n : Nat) : (markZ a n).length = n := by simp [markZ]
theorem markIntS_val (y : List Int) (a : Int) (ha : 0 ≤ a) (ha2 : a ≤ 1099511627776) (hl : y.length ≤ 1099511627776) (k : Nat) (hk : y.length < k) :
    laws_markIntS.f k y a = some (a + y.length, markZ a y.length) := by
  obtain ⟨z, h1, h2, h3⟩ := markIntS_l a ha ha2 y.length 0 y k (by omega) hl (fun j _ hj => absurd hj (by omega)) hk
  have hz : z = markZ a y.length := by
    apply List.ext_getElem (by rw [h2, markZ_length])
    intro j hj1 hj2
    rw [h3 j hj1]
    simp [markZ]
  rw [← hz]
  unfold laws_markIntS.f
  simpa using h1
theorem heldIntS_val (n : Nat) (a : Int) (ha : 0 ≤ a) (ha2 : a ≤ 1099511627776) (hn : n ≤ 1099511627776) (k : Nat) (hk : n < k) : laws_heldIntS.f k (markZ a n) a = some (a + n) := by
  have := heldIntS_l a ha ha2 (markZ a n) (by rw [markZ_length]; omega) (fun j hj => by simp [markZ]) (markZ a n).length 0 k (by omega) (by rw [markZ_length]; omega)
  rw [markZ_length] at this
  unfold laws_heldIntS.f
  simpa using this

theorem drop_at (l : List Int) (i : Nat) (h : i < l.length) : l.drop i = l[i] :: l.drop (i + 1) := List.drop_eq_getElem_cons h
theorem has_l (l : List Int) (x : Int) (hl : l.length ≤ 1099511627776) : ∀ (d i k : Nat), i + d = l.length → d < k → spec_l1Has.l0 k x l (l.length : Int) (i : Int) = some ((l.drop i).any (· == x))
  | 0, i, k, h1, hk => by
    obtain ⟨k, rfl⟩ : ∃ m, k = m + 1 := ⟨k - 1, by omega⟩
    simp only [spec_l1Has.l0]
    rw [if_neg (by omega), List.drop_of_length_le (by omega)]
    rfl
  | d + 1, i, k, h1, hk => by
    obtain ⟨k, rfl⟩ : ∃ m, k = m + 1 := ⟨k - 1, by omega⟩
    simp only [spec_l1Has.l0]
    rw [if_pos (by omega), if_pos (by omega), if_pos (by omega), rd_nat l i (by omega), next64 (by omega), drop_at l i (by omega)]
    by_cases e : l[i] = x
    · rw [if_pos e]
      rw [List.any_cons, show (l[i] == x) = true by simpa using e, Bool.true_or]
    · rw [if_neg e, has_l l x hl d (i + 1) k (by omega) (by omega), List.any_cons, show (l[i] == x) = false by simpa using e, Bool.false_or]
theorem has_val (l : List Int) (x : Int) (hl : l.length ≤ 1099511627776) (k : Nat) (hk : l.length < k) : spec_l1Has.f k l x = some (l.any (· == x)) := by
  unfold spec_l1Has.f
  have := has_l l x hl l.length 0 k (by omega) hk
  simpa using this

theorem specIn_val (n a b : Int) : spec_l1In.f n a b = some (decide (a ≤ n) && decide (n ≤ b)) := by
  unfold spec_l1In.f
  by_cases h : n ≥ a
  · rw [if_pos h]
    simp [h]
  · rw [if_neg h]
    simp [h]
theorem neg64 {n : Int} (h0 : -4611686018427387904 ≤ n) (h1 : n ≤ 4611686018427387904) : wrap64 (-n) = -n := w64 (by omega) (by omega)
theorem vab_small {n : Int} (h0 : -12 ≤ n) (h1 : n ≤ 12) : vab n = if n < -n then -n else n := by
  unfold vab
  rw [neg64 (by omega) (by omega)]
theorem vab_eq {n m : Int} (h0 : -12 ≤ n) (h1 : n ≤ 12) (h2 : -12 ≤ m) (h3 : m ≤ 12) : (vab n == vab m) = ((n == m) || (n == -m)) := by
  rw [vab_small h0 h1, vab_small h2 h3, Bool.eq_iff_iff]
  simp only [beq_iff_eq, Bool.or_eq_true]
  split <;> split <;> omega
theorem litB_small {n v : Int} (h0 : 0 ≤ v) (h1 : v ≤ 12) (h : litB n v = true) : n ≠ 0 ∧ -v ≤ n ∧ n ≤ v := by
  unfold litB at h
  rw [neg64 (by omega) (by omega)] at h
  simpa [Bool.and_eq_true] using h
theorem any_vab (l : List Int) (m : Int) (h2 : -12 ≤ m) (h3 : m ≤ 12) (hl : ∀ x ∈ l, -12 ≤ x ∧ x ≤ 12) : (l.any fun k => vab k == vab m) = (l.any (· == m) || l.any (· == -m)) := by
  induction l with
  | nil => rfl
  | cons a l ih =>
    have ha := hl a List.mem_cons_self
    rw [List.any_cons, List.any_cons, List.any_cons, ih (fun x hx => hl x (List.mem_cons_of_mem _ hx)), vab_eq ha.1 ha.2 h2 h3]
    cases (a == m) <;> cases (a == -m) <;> cases l.any (· == m) <;> simp

theorem any_flip (l : List Int) (a : Int) : (l.any fun y => a == y) = l.any (· == a) := by
  congr 1
  funext y
  rw [Bool.eq_iff_iff]
  simp only [beq_iff_eq]
  exact eq_comm

def cleanL : List Int → List Int → List Int × Bool
  | acc, [] => (acc, true)
  | acc, n :: r => if acc.any (· == wrap64 (-n)) = true then ([], false) else if acc.any (· == n) = true then cleanL acc r else cleanL (acc ++ [n]) r
def cleanS : List Int → List Int → List Int × Bool
  | acc, [] => (acc, true)
  | acc, n :: r => if (!litB n 12 || acc.any (· == wrap64 (-n))) = true then ([], false) else if acc.any (· == n) = true then cleanS acc r else cleanS (acc ++ [n]) r
theorem cleanS_bad : ∀ (l acc : List Int), (l.any fun n => !litB n 12) = true → cleanS acc l = ([], false)
  | [], acc, h => by simp at h
  | n :: r, acc, h => by
    unfold cleanS
    cases hb : litB n 12 with
    | false => simp
    | true =>
      have h2 : (r.any fun n => !litB n 12) = true := by simpa [hb] using h
      split
      · rfl
      · split
        · exact cleanS_bad r acc h2
        · exact cleanS_bad r _ h2
theorem cleanS_good : ∀ (l acc : List Int), (l.any fun n => !litB n 12) = false → cleanS acc l = cleanL acc l
  | [], acc, h => rfl
  | n :: r, acc, h => by
    have h1 : litB n 12 = true ∧ (r.any fun n => !litB n 12) = false := by simpa using h
    unfold cleanS cleanL
    rw [h1.1, cleanS_good r acc h1.2, cleanS_good r _ h1.2]
    simp
theorem clean_length : ∀ (l acc : List Int), (cleanL acc l).1.length ≤ acc.length + l.length
  | [], acc => by simp [cleanL]
  | n :: r, acc => by
    unfold cleanL
    split
    · simp
    · split
      · have := clean_length r acc
        simp
        omega
      · have := clean_length r (acc ++ [n])
        simp at this
        simp
        omega
theorem specClean_l (l : List Int) (hl : l.length ≤ 1000) : ∀ (d i k : Nat) (acc : List Int), i + d = l.length → acc.length ≤ i → 2 * d + 2000 ≤ k → spec_CleanClause.l0 k acc l (l.length : Int) (i : Int) = some (cleanS acc (l.drop i))
  | 0, i, k, acc, h1, h2, hk => by
    obtain ⟨k, rfl⟩ : ∃ m, k = m + 1 := ⟨k - 1, by omega⟩
    simp only [spec_CleanClause.l0]
    rw [if_neg (by omega), List.drop_of_length_le (by omega)]
    rfl
  | d + 1, i, k, acc, h1, h2, hk => by
    obtain ⟨k, rfl⟩ : ∃ m, k = m + 2 := ⟨k - 2, by omega⟩
    have hil : i < l.length := by omega
    simp only [spec_CleanClause.l0, spec_CleanClause.j1]
    rw [if_pos (by omega), if_pos (by omega), if_pos (by omega), rd_nat l i hil, next64 (by omega), drop_at l i hil]
    have hw : litB l[i] 12 = (decide (l[i] ≠ 0) && (decide (-12 ≤ l[i]) && decide (l[i] ≤ 12))) := by
      unfold litB
      rw [neg64 (n := 12) (by omega) (by omega)]
    unfold cleanS
    by_cases e0 : l[i] = 0
    · rw [if_pos e0, hw]
      simp [e0]
    · rw [if_neg e0, specIn_val]
      simp only [Option.bind_some]
      have hb : litB l[i] 12 = (decide (-12 ≤ l[i]) && decide (l[i] ≤ 12)) := by rw [hw]; simp [e0]
      rw [← hb]
      cases litB l[i] 12 with
      | false => simp
      | true =>
        first | rw [if_pos rfl] | rw [if_true]
        rw [has_val acc _ (by omega) _ (by omega)]
        simp only [Option.bind_some, Bool.not_true, Bool.false_or]
        cases acc.any (· == wrap64 (-l[i])) with
        | true => simp
        | false =>
          rw [if_neg Bool.false_ne_true, if_neg Bool.false_ne_true, has_val acc _ (by omega) _ (by omega)]
          simp only [Option.bind_some]
          cases acc.any (· == l[i]) with
          | true =>
            simp only [if_true]
            exact specClean_l l hl d (i + 1) k acc (by omega) (by omega) (by omega)
          | false =>
            rw [if_neg Bool.false_ne_true, if_neg Bool.false_ne_true, if_pos (by omega)]
            exact specClean_l l hl d (i + 1) k _ (by omega) (by simp; omega) (by omega)
theorem implClean_l (l : List Int) (hl : l.length ≤ 1000) : ∀ (d i k : Nat) (acc : List Int), i + d = l.length → acc.length ≤ i → d < k → impl_clean.l0 k acc l (l.length : Int) (i : Int) = some (cleanL acc (l.drop i))
  | 0, i, k, acc, h1, h2, hk => by
    obtain ⟨k, rfl⟩ : ∃ m, k = m + 1 := ⟨k - 1, by omega⟩
    simp only [impl_clean.l0]
    rw [if_neg (by omega), List.drop_of_length_le (by omega)]
    rfl
  | d + 1, i, k, acc, h1, h2, hk => by
    obtain ⟨k, rfl⟩ : ∃ m, k = m + 1 := ⟨k - 1, by omega⟩
    have hil : i < l.length := by omega
    simp only [impl_clean.l0, slices_Contains_int_int.f, Option.bind_some, any_flip]
    rw [if_pos (by omega), if_pos (by omega), if_pos (by omega), rd_nat l i hil, next64 (by omega), drop_at l i hil]
    unfold cleanL
    cases acc.any (· == wrap64 (-l[i])) with
    | true => simp
    | false =>
      rw [if_neg Bool.false_ne_true, if_neg Bool.false_ne_true]
      cases acc.any (· == l[i]) with
      | true =>
        simp only [if_true]
        exact implClean_l l hl d (i + 1) k acc (by omega) (by omega) (by omega)
      | false =>
        rw [if_neg Bool.false_ne_true, if_neg Bool.false_ne_true, if_pos (by omega)]
        exact implClean_l l hl d (i + 1) k _ (by omega) (by simp; omega) (by omega)
theorem cleanClause_spec (l : List Int) (k : Nat) (hk : 3000000 ≤ k) : spec_CleanClause.f k l = some (if (l.length : Int) > 40 then ([], false) else cleanS [] l) := by
  unfold spec_CleanClause.f
  by_cases h : (l.length : Int) > 40
  · rw [if_pos h, if_pos h]
  · rw [if_neg h, if_neg h]
    have := specClean_l l (by omega) l.length 0 k [] (by omega) (by simp) (by omega)
    simpa using this
theorem implClean_val (l : List Int) (hl : l.length ≤ 1000) (k : Nat) (hk : 3000000 ≤ k) : impl_clean.f k l = some (cleanL [] l) := by
  unfold impl_clean.f
  have := implClean_l l hl l.length 0 k [] (by omega) (by simp) (by omega)
  simpa using this

theorem cleanClause_both (l : List Int) : ∃ (res : List Int) (ok : Bool), res.length ≤ 1048576 ∧ (∀ m, 3000000 ≤ m → spec_CleanClause.f m l = some (res, ok)) ∧ ∀ m, 3000000 ≤ m → impl_CleanClause.f m l = some (res, ok) := by
  by_cases h : (l.length : Int) > 40
  · refine ⟨[], false, by simp, fun m hm => ?_, fun m hm => ?_⟩
    · rw [cleanClause_spec l m hm, if_pos h]
    · unfold impl_CleanClause.f
      rw [if_pos h]
  · cases hb : l.any fun n => !litB n 12 with
    | true =>
      refine ⟨[], false, by simp, fun m hm => ?_, fun m hm => ?_⟩
      · rw [cleanClause_spec l m hm, if_neg h, cleanS_bad l [] hb]
      · unfold impl_CleanClause.f
        rw [if_neg h, hb]
        rfl
    | false =>
      refine ⟨(cleanL [] l).1, (cleanL [] l).2, by have := clean_length l []; simp at this; omega, fun m hm => ?_, fun m hm => ?_⟩
      · rw [cleanClause_spec l m hm, if_neg h, cleanS_good l [] hb]
      · unfold impl_CleanClause.f
        rw [if_neg h, hb, if_neg Bool.false_ne_true, implClean_val l (by omega) m hm]

theorem FnExactCleanClause : laws_FnExactCleanClause.Pure := by
  intro l h0 h1 hw
  obtain ⟨k, hk⟩ : ∃ k : Nat, 4000000 ≤ k := ⟨_, Nat.le_refl _⟩
  refine ⟨k + 3, ?_⟩
  by_cases hb : (l.length : Int) > 1048576
  · unfold laws_FnExactCleanClause.f
    rw [if_pos hb]
  · have hl : l.length ≤ 1048576 := by omega
    obtain ⟨res, ok, hrl, hs, hi⟩ := cleanClause_both l
    have hT : ∀ m, 3000000 ≤ m → laws_toIntS.f m l = some l := fun m hm => toIntS_val l hl m (by omega)
    have hE1 : ∀ m, 3000000 ≤ m → laws_eqIntS.f m l l = some true := fun m hm => eqIntS_val l (by omega) m (by omega)
    have hE2 : ∀ m, 3000000 ≤ m → laws_eqIntS.f m res res = some true := fun m hm => eqIntS_val res (by omega) m (by omega)
    have hM1 : ∀ m, 3000000 ≤ m → laws_markIntS.f m l 1 = some (1 + (l.length : Int), markZ 1 l.length) := fun m hm => markIntS_val l 1 (by omega) (by omega) (by omega) m (by omega)
    have hM2 : ∀ m, 3000000 ≤ m → laws_markIntS.f m res 1 = some (1 + (res.length : Int), markZ 1 res.length) := fun m hm => markIntS_val res 1 (by omega) (by omega) (by omega) m (by omega)
    have hH : ∀ m, 3000000 ≤ m → laws_heldIntS.f m (markZ 1 res.length) 1 = some (1 + (res.length : Int)) := fun m hm => heldIntS_val res.length 1 (by omega) (by omega) (by omega) m (by omega)
    have n1 : ¬ (1 + (l.length : Int) < 0) := by omega
    have n2 : ¬ (1 + (res.length : Int) < 0) := by omega
    unfold laws_FnExactCleanClause.f
    rw [if_neg hb]
    repeat (first
      | (rw [hT _ (by omega)]; simp only [Option.bind_some])
      | (rw [hs _ (by omega)]; simp only [Option.bind_some])
      | (rw [hi _ (by omega)]; simp only [Option.bind_some])
      | (rw [hE1 _ (by omega)]; simp only [Option.bind_some])
      | (rw [hE2 _ (by omega)]; simp only [Option.bind_some])
      | (rw [hM1 _ (by omega)]; simp only [Option.bind_some])
      | (rw [hM2 _ (by omega)]; simp only [Option.bind_some])
      | (rw [hH _ (by omega)]; simp only [Option.bind_some])
      | rw [if_neg n1]
      | rw [if_neg n2]
      | rw [if_pos rfl]
      | rw [bne_self_eq_false]
      | rw [if_neg Bool.false_ne_true]
      | simp only [Option.bind_some]
      | simp only [laws_FnExactCleanClause.j0]
      | simp only [laws_FnExactCleanClause.j1]
      | simp only [laws_FnExactCleanClause.j2])
    try simp

end Go.Proofs.Ytemgmpbionkjhaa.Pure
