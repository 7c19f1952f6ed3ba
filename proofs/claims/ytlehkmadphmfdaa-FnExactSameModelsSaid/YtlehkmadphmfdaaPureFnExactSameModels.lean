/- The pure statement of the law FnExactSameModels: the printed functions of the program and of the reference give the same answers, at every input that the statement's guards let in. -/
import Derived.Test.YtlehkmadphmfdaaPFnExactSameModelsx5
namespace Go.Proofs.Ytlehkmadphmfdaa.Pure
open Go.RowKit Go.Proofs.Ytlehkmadphmfdaa.PFnExactSameModels Go.Proofs.YtlehkmadphmfdaaW.PrintWords Go.Proofs.YtlehkmadphmfdaaW.PrintLast Go.Proofs.YtlehkmadphmfdaaW.PrintMore
theorem w64 {x : Int} (h0 : -9223372036854775808 ≤ x) (h1 : x ≤ 9223372036854775807) : wrap64 x = x := by
  unfold wrap64
  omega
theorem l64 {a : Int} (h : (Lit.int .i64 a).wf = true) : -9223372036854775808 ≤ a ∧ a ≤ 9223372036854775807 := by
  simp only [Lit.wf, IntKind.min, IntKind.max, IntKind.signed, IntKind.bits, Bool.and_eq_true, decide_eq_true_eq, if_true] at h
  omega
theorem rd_nat (l : List Int) (i : Nat) (h : i < l.length) : rd l (i : Int) = l[i] := by
  unfold rd
  rw [List.getD_eq_getElem?_getD, show ((i : Int).toNat) = i by omega, List.getElem?_eq_getElem h]
  rfl
theorem next64 {i : Nat} (h : i ≤ 4611686018427387904) : wrap64 ((i : Int) + 1) = ((i + 1 : Nat) : Int) := by
  rw [w64 (by omega) (by omega)]
  omega

theorem rdL_nat (l : List (List Int)) (i : Nat) (h : i < l.length) : rd_L1 l (i : Int) = l[i] := by
  unfold rd_L1
  rw [List.getD_eq_getElem?_getD, show ((i : Int).toNat) = i by omega, List.getElem?_eq_getElem h]
  rfl

theorem szIntS_val (l : List Int) (a : Int) (h0 : 0 ≤ a) (h1 : a ≤ 1048576) (hl : l.length ≤ 9223372036854775807) : ∃ t, laws_szIntS.f l a = some t ∧ t ≤ 1048576 ∧ (0 ≤ t → (l.length : Int) ≤ a) := by
  unfold laws_szIntS.f
  rw [w64 (by omega) (by omega)]
  by_cases h : a - (l.length : Int) < 0
  · rw [if_pos h]
    exact ⟨-1, rfl, by omega, fun h => absurd h (by omega)⟩
  · rw [if_neg h]
    exact ⟨_, rfl, by omega, fun _ => by omega⟩
theorem szIntSS_l (l : List (List Int)) (hl : l.length ≤ 1048576) (hm : ∀ x ∈ l, x.length ≤ 9223372036854775807) : ∀ (d i : Nat) (a : Int) (k : Nat), i + d = l.length → 0 ≤ a → a ≤ 1048576 → (∀ j (hj : j < l.length), j < i → l[j].length ≤ 1048576) → d < k →
    ∃ t, laws_szIntSS.l0 k l a (i : Int) = some t ∧ t ≤ 1048576 ∧ (0 ≤ t → ∀ x ∈ l, x.length ≤ 1048576)
  | 0, i, a, k, h1, h2, h3, h4, hk => by
    obtain ⟨k, rfl⟩ : ∃ m, k = m + 1 := ⟨k - 1, by omega⟩
    simp only [laws_szIntSS.l0]
    rw [if_neg (by omega)]
    refine ⟨a, rfl, h3, fun _ x hx => ?_⟩
    obtain ⟨j, hj, rfl⟩ := List.mem_iff_getElem.1 hx
    exact h4 j hj (by omega)
  | d + 1, i, a, k, h1, h2, h3, h4, hk => by
    obtain ⟨k, rfl⟩ : ∃ m, k = m + 1 := ⟨k - 1, by omega⟩
    simp only [laws_szIntSS.l0]
    rw [if_pos (by omega), if_pos (by omega), rdL_nat l i (by omega)]
    obtain ⟨t, ht, htb, hte⟩ := szIntS_val l[i] a h2 h3 (hm _ (List.getElem_mem _))
    rw [ht]
    simp only [Option.bind_some]
    by_cases hn : t < 0
    · rw [if_pos hn]
      exact ⟨-1, rfl, by omega, fun h => absurd h (by omega)⟩
    · rw [if_neg hn, next64 (by omega)]
      refine szIntSS_l l hl hm d (i + 1) t k (by omega) (by omega) htb (fun j hj hji => ?_) (by omega)
      by_cases e : j = i
      · subst e
        have := hte (by omega)
        omega
      · exact h4 j hj (by omega)
theorem szIntSS_gen (l : List (List Int)) (hl : l.length ≤ 9223372036854775807) (hm : ∀ x ∈ l, x.length ≤ 9223372036854775807) (a : Int) (h0 : 0 ≤ a) (h1 : a ≤ 1048576) (k : Nat) (hk : 1048577 ≤ k) :
    ∃ t, laws_szIntSS.f k l a = some t ∧ t ≤ 1048576 ∧ (0 ≤ t → l.length ≤ 1048576 ∧ ∀ x ∈ l, x.length ≤ 1048576) := by
  unfold laws_szIntSS.f
  rw [w64 (by omega) (by omega)]
  by_cases h : a - (l.length : Int) < 0
  · rw [if_pos h]
    exact ⟨-1, rfl, by omega, fun h => absurd h (by omega)⟩
  · rw [if_neg h]
    obtain ⟨t, ht, htb, hte⟩ := szIntSS_l l (by omega) hm l.length 0 (a - (l.length : Int)) k (by omega) (by omega) (by omega) (fun j _ hj => absurd hj (by omega)) (by omega)
    exact ⟨t, ht, htb, fun h0 => ⟨by omega, hte h0⟩⟩
theorem szIntSS_val (l : List (List Int)) (hl : l.length ≤ 9223372036854775807) (hm : ∀ x ∈ l, x.length ≤ 9223372036854775807) (k : Nat) (hk : 1048577 ≤ k) :
    ∃ t, laws_szIntSS.f k l 1048576 = some t ∧ (0 ≤ t → l.length ≤ 1048576 ∧ ∀ x ∈ l, x.length ≤ 1048576) := by
  obtain ⟨t, ht, _, hte⟩ := szIntSS_gen l hl hm 1048576 (by omega) (by omega) k hk
  exact ⟨t, ht, hte⟩

theorem toIntS_l (l : List Int) (hl : l.length ≤ 4611686018427387904) : ∀ (d i : Nat) (y : List Int) (k : Nat), i + d = l.length → y.length = l.length → (∀ j, j < i → y[j]? = l[j]?) → d < k → laws_toIntS.l0 k l y (i : Int) = some l
  | 0, i, y, k, h1, h2, h3, hk => by
    obtain ⟨k, rfl⟩ : ∃ m, k = m + 1 := ⟨k - 1, by omega⟩
    simp only [laws_toIntS.l0]
    rw [if_neg (by omega)]
    congr 1
    apply List.ext_getElem?
    intro j
    by_cases hj : j < i
    · exact h3 j hj
    · rw [List.getElem?_eq_none (by omega), List.getElem?_eq_none (by omega)]
  | d + 1, i, y, k, h1, h2, h3, hk => by
    obtain ⟨k, rfl⟩ : ∃ m, k = m + 1 := ⟨k - 1, by omega⟩
    simp only [laws_toIntS.l0]
    rw [if_pos (by omega), if_pos (by omega), if_pos (by omega), next64 (by omega), rd_nat l i (by omega)]
    refine toIntS_l l hl d (i + 1) _ k (by omega) (by rw [List.length_set]; exact h2) (fun j hj => ?_) (by omega)
    rw [show ((i : Int).toNat) = i by omega, List.getElem?_set]
    by_cases e : i = j
    · subst e
      rw [if_pos rfl, if_pos (by omega), List.getElem?_eq_getElem (by omega)]
    · rw [if_neg e]
      exact h3 j (by omega)
theorem toIntS_val (l : List Int) (hl : l.length ≤ 1048576) (k : Nat) (hk : l.length < k) : laws_toIntS.f k l = some l := by
  unfold laws_toIntS.f
  rw [if_pos (by omega), if_pos (by omega)]
  exact toIntS_l l (by omega) l.length 0 _ k (by omega) (by rw [List.length_replicate]; omega) (fun j hj => absurd hj (by omega)) hk

theorem toIntSS_l (l : List (List Int)) (hl : l.length ≤ 1048576) (hi : ∀ x ∈ l, x.length ≤ 1048576) : ∀ (d i : Nat) (y : List (List Int)) (k : Nat), i + d = l.length → y.length = l.length → (∀ j, j < i → y[j]? = l[j]?) → d + 1048577 < k → laws_toIntSS.l0 k l y (i : Int) = some l
  | 0, i, y, k, h1, h2, h3, hk => by
    obtain ⟨k, rfl⟩ : ∃ m, k = m + 1 := ⟨k - 1, by omega⟩
    simp only [laws_toIntSS.l0]
    rw [if_neg (by omega)]
    congr 1
    apply List.ext_getElem?
    intro j
    by_cases hj : j < i
    · exact h3 j hj
    · rw [List.getElem?_eq_none (by omega), List.getElem?_eq_none (by omega)]
  | d + 1, i, y, k, h1, h2, h3, hk => by
    obtain ⟨k, rfl⟩ : ∃ m, k = m + 1 := ⟨k - 1, by omega⟩
    simp only [laws_toIntSS.l0]
    have hin := hi l[i] (List.getElem_mem _)
    rw [if_pos (by omega), if_pos (by omega), rdL_nat l i (by omega), toIntS_val l[i] hin k (by omega)]
    simp only [Option.bind_some]
    rw [if_pos (by omega), next64 (by omega)]
    refine toIntSS_l l hl hi d (i + 1) _ k (by omega) (by rw [List.length_set]; exact h2) (fun j hj => ?_) (by omega)
    rw [show ((i : Int).toNat) = i by omega, List.getElem?_set]
    by_cases e : i = j
    · subst e
      rw [if_pos rfl, if_pos (by omega), List.getElem?_eq_getElem (by omega)]
    · rw [if_neg e]
      exact h3 j (by omega)
theorem toIntSS_val (l : List (List Int)) (hl : l.length ≤ 1048576) (hi : ∀ x ∈ l, x.length ≤ 1048576) (k : Nat) (hk : 3000000 ≤ k) : laws_toIntSS.f k l = some l := by
  unfold laws_toIntSS.f
  rw [if_pos (by omega), if_pos (by omega)]
  exact toIntSS_l l hl hi l.length 0 _ k (by omega) (by rw [List.length_replicate]; omega) (fun j hj => absurd hj (by omega)) (by omega)

theorem eqIntS_l (l : List Int) (hl : l.length ≤ 4611686018427387904) : ∀ (d i k : Nat), i + d = l.length → d < k → laws_eqIntS.l0 k l l (i : Int) = some true
  | 0, i, k, h1, hk => by
    obtain ⟨k, rfl⟩ : ∃ m, k = m + 1 := ⟨k - 1, by omega⟩
    simp only [laws_eqIntS.l0]
    rw [if_neg (by omega)]
  | d + 1, i, k, h1, hk => by
    obtain ⟨k, rfl⟩ : ∃ m, k = m + 1 := ⟨k - 1, by omega⟩
    simp only [laws_eqIntS.l0]
    rw [if_pos (by omega), if_pos (by omega), if_pos (by omega), if_true, next64 (by omega)]
    exact eqIntS_l l hl d (i + 1) k (by omega) (by omega)
theorem eqIntS_val (l : List Int) (hl : l.length ≤ 4611686018427387904) (k : Nat) (hk : l.length < k) : laws_eqIntS.f k l l = some true := by
  unfold laws_eqIntS.f
  rw [if_pos rfl]
  exact eqIntS_l l hl l.length 0 k (by omega) hk

theorem eqIntSS_l (l : List (List Int)) (hl : l.length ≤ 1048576) (hi : ∀ x ∈ l, x.length ≤ 1048576) : ∀ (d i k : Nat), i + d = l.length → d + 1048577 < k → laws_eqIntSS.l0 k l l (i : Int) = some true
  | 0, i, k, h1, hk => by
    obtain ⟨k, rfl⟩ : ∃ m, k = m + 1 := ⟨k - 1, by omega⟩
    simp only [laws_eqIntSS.l0]
    rw [if_neg (by omega)]
  | d + 1, i, k, h1, hk => by
    obtain ⟨k, rfl⟩ : ∃ m, k = m + 1 := ⟨k - 1, by omega⟩
    simp only [laws_eqIntSS.l0]
    have hin := hi l[i] (List.getElem_mem _)
    rw [if_pos (by omega), if_pos (by omega), if_pos (by omega), rdL_nat l i (by omega), eqIntS_val l[i] (by omega) k (by omega)]
    simp only [Option.bind_some, if_true]
    rw [next64 (by omega)]
    exact eqIntSS_l l hl hi d (i + 1) k (by omega) (by omega)
theorem eqIntSS_val (l : List (List Int)) (hl : l.length ≤ 1048576) (hi : ∀ x ∈ l, x.length ≤ 1048576) (k : Nat) (hk : 3000000 ≤ k) : laws_eqIntSS.f k l l = some true := by
  unfold laws_eqIntSS.f
  rw [if_pos rfl]
  exact eqIntSS_l l hl hi l.length 0 k (by omega) (by omega)

theorem drop_at (l : List Int) (i : Nat) (h : i < l.length) : l.drop i = l[i] :: l.drop (i + 1) := List.drop_eq_getElem_cons h
theorem has_l (l : List Int) (x : Int) (hl : l.length ≤ 1099511627776) : ∀ (d i k : Nat), i + d = l.length → d < k → spec_l1Has.l0 k x l (l.length : Int) (i : Int) = some ((l.drop i).any (· == x))
  | 0, i, k, h1, hk => by
    obtain ⟨k, rfl⟩ : ∃ m, k = m + 1 := ⟨k - 1, by omega⟩
    simp only [spec_l1Has.l0]
    rw [if_neg (by omega), List.drop_of_length_le (by omega)]
    rfl
  | d + 1, i, k, h1, hk => by
    obtain ⟨k, rfl⟩ : ∃ m, k = m + 1 := ⟨k - 1, by omega⟩
    simp only [spec_l1Has.l0]
    rw [if_pos (by omega), if_pos (by omega), if_pos (by omega), rd_nat l i (by omega), next64 (by omega), drop_at l i (by omega)]
    by_cases e : l[i] = x
    · rw [if_pos e]
      rw [List.any_cons, show (l[i] == x) = true by simpa using e, Bool.true_or]
    · rw [if_neg e, has_l l x hl d (i + 1) k (by omega) (by omega), List.any_cons, show (l[i] == x) = false by simpa using e, Bool.false_or]
theorem has_val (l : List Int) (x : Int) (hl : l.length ≤ 1099511627776) (k : Nat) (hk : l.length < k) : spec_l1Has.f k l x = some (l.any (· == x)) := by
  unfold spec_l1Has.f
  have := has_l l x hl l.length 0 k (by omega) hk
  simpa using this

theorem specIn_val (n a b : Int) : spec_l1In.f n a b = some (decide (a ≤ n) && decide (n ≤ b)) := by
  unfold spec_l1In.f
  by_cases h : n ≥ a
  · rw [if_pos h]
    simp [h]
  · rw [if_neg h]
    simp [h]
theorem neg64 {n : Int} (h0 : -4611686018427387904 ≤ n) (h1 : n ≤ 4611686018427387904) : wrap64 (-n) = -n := w64 (by omega) (by omega)
theorem vab_small {n : Int} (h0 : -12 ≤ n) (h1 : n ≤ 12) : vab n = if n < -n then -n else n := by
  unfold vab
  rw [neg64 (by omega) (by omega)]
theorem vab_eq {n m : Int} (h0 : -12 ≤ n) (h1 : n ≤ 12) (h2 : -12 ≤ m) (h3 : m ≤ 12) : (vab n == vab m) = ((n == m) || (n == -m)) := by
  rw [vab_small h0 h1, vab_small h2 h3, Bool.eq_iff_iff]
  simp only [beq_iff_eq, Bool.or_eq_true]
  split <;> split <;> omega
theorem litB_small {n v : Int} (h0 : 0 ≤ v) (h1 : v ≤ 12) (h : litB n v = true) : n ≠ 0 ∧ -v ≤ n ∧ n ≤ v := by
  unfold litB at h
  rw [neg64 (by omega) (by omega)] at h
  simpa [Bool.and_eq_true] using h
theorem any_vab (l : List Int) (m : Int) (h2 : -12 ≤ m) (h3 : m ≤ 12) (hl : ∀ x ∈ l, -12 ≤ x ∧ x ≤ 12) : (l.any fun k => vab k == vab m) = (l.any (· == m) || l.any (· == -m)) := by
  induction l with
  | nil => rfl
  | cons a l ih =>
    have ha := hl a List.mem_cons_self
    rw [List.any_cons, List.any_cons, List.any_cons, ih (fun x hx => hl x (List.mem_cons_of_mem _ hx)), vab_eq ha.1 ha.2 h2 h3]
    cases (a == m) <;> cases (a == -m) <;> cases l.any (· == m) <;> simp

theorem clause_l (v : Int) (hv0 : 0 ≤ v) (hv1 : v ≤ 12) (l : List Int) (hl : l.length ≤ 1099511627776) : ∀ (d i k : Nat), i + d = l.length → (∀ x ∈ l.take i, -12 ≤ x ∧ x ≤ 12) → d + l.length + 1 < k →
    spec_l4Clause.l0 k v l l (l.length : Int) (i : Int) = some (clauseFrom v (l.take i) (l.drop i) && decide (l.length ≤ 12))
  | 0, i, k, h1, hs, hk => by
    obtain ⟨k, rfl⟩ : ∃ m, k = m + 1 := ⟨k - 1, by omega⟩
    simp only [spec_l4Clause.l0]
    rw [if_neg (by omega), List.drop_of_length_le (by omega)]
    simp only [clauseFrom, Bool.true_and]
    congr 2
    exact propext (by omega)
  | d + 1, i, k, h1, hs, hk => by
    obtain ⟨k, rfl⟩ : ∃ m, k = m + 1 := ⟨k - 1, by omega⟩
    have hil : i < l.length := by omega
    have ht : (l.take i).length = i := by rw [List.length_take]; omega
    simp only [spec_l4Clause.l0]
    rw [if_pos (by omega), if_pos (by omega), if_pos (by omega), rd_nat l i hil, next64 (by omega), drop_at l i hil, show ((i : Int).toNat) = i by omega, if_pos (show (i : Int) ≤ (l.length : Int) by omega)]
    simp only [clauseFrom]
    by_cases e0 : l[i] = 0
    · rw [if_pos e0]
      have : litB l[i] v = false := by unfold litB; simp [e0]
      rw [this]
      rfl
    · rw [if_neg e0, specIn_val]
      simp only [Option.bind_some]
      have hlit : litB l[i] v = (decide (wrap64 (-v) ≤ l[i]) && decide (l[i] ≤ v)) := by unfold litB; simp [e0]
      rw [← hlit]
      cases hb : litB l[i] v with
      | false => rfl
      | true =>
        obtain ⟨_, h4, h5⟩ := litB_small hv0 hv1 hb
        rw [if_pos rfl, has_val _ _ (by omega) _ (by omega), neg64 (by omega) (by omega), has_val _ _ (by omega) _ (by omega), any_vab _ _ (by omega) (by omega) hs]
        simp only [Option.bind_some]
        cases (l.take i).any (· == l[i]) with
        | true => rfl
        | false =>
          cases (l.take i).any (· == -l[i]) with
          | true => rfl
          | false =>
            have hst : l.take (i + 1) = l.take i ++ [l[i]] := List.take_succ_eq_append_getElem hil
            have := clause_l v hv0 hv1 l hl d (i + 1) k (by omega) (fun x hx => by
              rw [hst] at hx
              rcases List.mem_append.1 hx with hx | hx
              · exact hs x hx
              · rw [List.mem_singleton.1 hx]
                omega) (by omega)
            rw [hst] at this
            simp only [Bool.false_eq_true, if_false, Bool.or_false, Bool.not_false, Bool.true_and]
            exact this
theorem clause_val (v : Int) (hv0 : 0 ≤ v) (hv1 : v ≤ 12) (l : List Int) (hl : l.length ≤ 1048576) (k : Nat) (hk : 3000000 ≤ k) : spec_l4Clause.f k v l = some (isClauseB l v) := by
  unfold spec_l4Clause.f isClauseB
  have := clause_l v hv0 hv1 l (by omega) l.length 0 k (by omega) (by simp) (by omega)
  simpa using this

def goodB (v : Int) (l : List (List Int)) : Bool := (decide (0 ≤ v) && decide (v ≤ 12)) && (decide (l.length ≤ 60) && l.all fun x => isClauseB x v)
theorem good_l (v : Int) (hv0 : 0 ≤ v) (hv1 : v ≤ 12) (l : List (List Int)) (hl : l.length ≤ 1048576) (hi : ∀ x ∈ l, x.length ≤ 1048576) : ∀ (d i k : Nat), i + d = l.length → d + 3000001 ≤ k → spec_l4Good.l0 k v l (l.length : Int) (i : Int) = some ((l.drop i).all fun x => isClauseB x v)
  | 0, i, k, h1, hk => by
    obtain ⟨k, rfl⟩ : ∃ m, k = m + 1 := ⟨k - 1, by omega⟩
    simp only [spec_l4Good.l0]
    rw [if_neg (by omega), List.drop_of_length_le (by omega)]
    rfl
  | d + 1, i, k, h1, hk => by
    obtain ⟨k, rfl⟩ : ∃ m, k = m + 1 := ⟨k - 1, by omega⟩
    have hil : i < l.length := by omega
    simp only [spec_l4Good.l0]
    rw [if_pos (by omega), if_pos (by omega), if_pos (by omega), rdL_nat l i hil, next64 (by omega), clause_val v hv0 hv1 l[i] (hi _ (List.getElem_mem _)) k (by omega), List.drop_eq_getElem_cons hil, List.all_cons]
    simp only [Option.bind_some]
    cases isClauseB l[i] v with
    | false => rfl
    | true =>
      first | rw [if_pos rfl] | rw [if_true]
      rw [good_l v hv0 hv1 l hl hi d (i + 1) k (by omega) (by omega)]
      rfl
theorem specGood_val (v : Int) (l : List (List Int)) (hl : l.length ≤ 1048576) (hi : ∀ x ∈ l, x.length ≤ 1048576) (k : Nat) (hk : 5000000 ≤ k) : spec_GoodClauses.f k v l = some (goodB v l) := by
  obtain ⟨k, rfl⟩ : ∃ m, k = m + 1 := ⟨k - 1, by omega⟩
  unfold spec_GoodClauses.f spec_l4Good.f goodB
  rw [specIn_val]
  simp only [Option.bind_some, spec_l4Good.j0]
  by_cases hv : 0 ≤ v ∧ v ≤ 12
  · rw [show (decide (0 ≤ v) && decide (v ≤ 12)) = true by simp [hv.1, hv.2], if_pos rfl]
    by_cases h60 : l.length ≤ 60
    · have : decide ((l.length : Int) > 60) = false := decide_eq_false (by omega)
      rw [this, if_neg Bool.false_ne_true]
      have h := good_l v hv.1 hv.2 l hl hi l.length 0 k (by omega) (by omega)
      simp only [List.drop_zero] at h
      rw [show ((0 : Nat) : Int) = 0 from rfl] at h
      rw [h]
      simp [h60]
    · have : decide ((l.length : Int) > 60) = true := decide_eq_true (by omega)
      rw [this]
      first | rw [if_pos rfl] | rw [if_true]
      simp [h60]
  · have hd : (decide (0 ≤ v) && decide (v ≤ 12)) = false := by
      rw [Bool.and_eq_false_iff]
      rcases Int.lt_or_le v 0 with h | h
      · exact .inl (decide_eq_false (by omega))
      · exact .inr (decide_eq_false (by omega))
    rw [hd, if_neg Bool.false_ne_true]
    first | rw [if_pos rfl] | rw [if_true]
    rfl
theorem implIn_val (n a b : Int) : impl_in.f n a b = some (decide (a ≤ n) && decide (n ≤ b)) := by
  unfold impl_in.f
  by_cases h : n ≥ a
  · rw [if_pos h]
    simp [h]
  · rw [if_neg h]
    simp [h]
theorem implGood_val (v : Int) (l : List (List Int)) : impl_GoodClauses.f v l = some (goodB v l) := by
  unfold impl_GoodClauses.f impl_areClauses.f goodB
  rw [implIn_val]
  simp only [Option.bind_some]
  cases (decide (0 ≤ v) && decide (v ≤ 12)) with
  | false => rfl
  | true =>
    first | rw [if_pos rfl] | rw [if_true]
    by_cases h60 : l.length ≤ 60
    · rw [if_pos (by omega)]
      simp [h60, List.all_eq_not_any_not]
    · rw [if_neg (by omega)]
      simp [h60]
theorem goodB_facts {v : Int} {l : List (List Int)} (h : goodB v l = true) : 0 ≤ v ∧ v ≤ 12 ∧ l.length ≤ 60 ∧ ∀ x ∈ l, isClauseB x v = true := by
  unfold goodB at h
  simp only [Bool.and_eq_true, decide_eq_true_eq, List.all_eq_true] at h
  exact ⟨h.1.1, h.1.2, h.2.1, h.2.2⟩

theorem clause_lits (v : Int) : ∀ (l seen : List Int), clauseFrom v seen l = true → ∀ n ∈ l, litB n v = true
  | [], _, _, n, hn => by simp at hn
  | a :: r, seen, h, n, hn => by
    unfold clauseFrom at h
    simp only [Bool.and_eq_true] at h
    rcases List.mem_cons.1 hn with rfl | hn
    · exact h.1
    · exact clause_lits v r _ h.2.2 n hn
theorem isClause_facts {v : Int} {c : List Int} (h : isClauseB c v = true) : c.length ≤ 12 ∧ ∀ n ∈ c, litB n v = true := by
  unfold isClauseB at h
  simp only [Bool.and_eq_true, decide_eq_true_eq] at h
  exact ⟨h.2, clause_lits v c [] h.1⟩

theorem goodB_lits {v : Int} {l : List (List Int)} (h : goodB v l = true) : ∀ c ∈ l, c.length ≤ 12 ∧ ∀ n ∈ c, n ≠ 0 ∧ -v ≤ n ∧ n ≤ v := by
  obtain ⟨h0, h1, _, h2⟩ := goodB_facts h
  intro c hc
  obtain ⟨a, b⟩ := isClause_facts (h2 c hc)
  exact ⟨a, fun n hn => litB_small h0 h1 (b n hn)⟩

theorem rdB_nat (l : List Bool) (i : Nat) (h : i < l.length) : rdOf false l (i : Int) = l[i] := by
  unfold rdOf
  rw [List.getD_eq_getElem?_getD, show ((i : Int).toNat) = i by omega, List.getElem?_eq_getElem h]
  rfl

theorem lit_val (m : List Bool) (n : Int) (h0 : n ≠ 0) (h1 : -(m.length : Int) ≤ n) (h2 : n ≤ (m.length : Int)) (hm : m.length ≤ 12) : spec_l4Lit.f m n = some (litAt m n) := by
  unfold spec_l4Lit.f litAt
  rw [vab_small (by omega) (by omega)]
  by_cases hn : n < 0
  · rw [if_pos hn, neg64 (by omega) (by omega), w64 (by omega) (by omega), if_pos (by omega), if_pos (by omega), if_pos (by omega)]
    have : decide (0 < n) = false := decide_eq_false (by omega)
    rw [this]
    cases rdOf false m (-n - 1) <;> rfl
  · rw [if_neg hn, w64 (by omega) (by omega), if_pos (by omega), if_pos (by omega), if_neg (by omega)]
    have : decide (0 < n) = true := decide_eq_true (by omega)
    rw [this]
    cases rdOf false m (n - 1) <;> rfl
theorem holds_in (m : List Bool) (hm : m.length ≤ 12) (l : List (List Int)) (N I : Int) (c : List Int) (hc : c.length ≤ 12) (hl : ∀ n ∈ c, n ≠ 0 ∧ -(m.length : Int) ≤ n ∧ n ≤ (m.length : Int)) : ∀ (d j k : Nat) (s : Bool), j + d = c.length →
    spec_l4Holds.l1 (d + 1 + k) m s l N I c (c.length : Int) (j : Int) = if (s || (c.drop j).any (litAt m)) = true then spec_l4Holds.l0 k m l N (wrap64 (I + 1)) else some false
  | 0, j, k, s, h1 => by
    rw [show 0 + 1 + k = k + 1 by omega]
    simp only [spec_l4Holds.l1]
    rw [if_neg (by omega), List.drop_of_length_le (by omega)]
    simp
  | d + 1, j, k, s, h1 => by
    have hj : j < c.length := by omega
    obtain ⟨a0, a1, a2⟩ := hl c[j] (List.getElem_mem _)
    rw [show d + 1 + 1 + k = (d + 1 + k) + 1 by omega]
    simp only [spec_l4Holds.l1]
    rw [if_pos (by omega), if_pos (by omega), if_pos (by omega), rd_nat c j hj, next64 (by omega), lit_val m c[j] a0 a1 a2 hm, drop_at c j hj, List.any_cons]
    simp only [Option.bind_some]
    rw [holds_in m hm l N I c hc hl d (j + 1) k true (by omega), holds_in m hm l N I c hc hl d (j + 1) k (litAt m c[j]) (by omega)]
    cases s <;> simp
theorem holds_out (m : List Bool) (hm : m.length ≤ 12) (l : List (List Int)) (hl : l.length ≤ 1048576) (hc : ∀ c ∈ l, c.length ≤ 12 ∧ ∀ n ∈ c, n ≠ 0 ∧ -(m.length : Int) ≤ n ∧ n ≤ (m.length : Int)) : ∀ (d i k : Nat), i + d = l.length → d * 15 + 1 ≤ k → spec_l4Holds.l0 k m l (l.length : Int) (i : Int) = some ((l.drop i).all fun c => c.any (litAt m))
  | 0, i, k, h1, hk => by
    obtain ⟨k, rfl⟩ : ∃ m, k = m + 1 := ⟨k - 1, by omega⟩
    simp only [spec_l4Holds.l0]
    rw [if_neg (by omega), List.drop_of_length_le (by omega)]
    rfl
  | d + 1, i, k, h1, hk => by
    obtain ⟨k, rfl⟩ : ∃ m, k = m + 1 := ⟨k - 1, by omega⟩
    have hil : i < l.length := by omega
    obtain ⟨c1, c2⟩ := hc l[i] (List.getElem_mem _)
    simp only [spec_l4Holds.l0]
    rw [if_pos (by omega), if_pos (by omega), if_pos (by omega), rdL_nat l i hil, List.drop_eq_getElem_cons hil, List.all_cons]
    obtain ⟨k', rfl⟩ : ∃ k', k = l[i].length + 1 + k' := ⟨k - l[i].length - 1, by omega⟩
    have h := holds_in m hm l (l.length : Int) (i : Int) l[i] c1 c2 l[i].length 0 k' false (by omega)
    rw [show ((0 : Nat) : Int) = 0 from rfl] at h
    rw [h]
    simp only [Bool.false_or, List.drop_zero]
    cases l[i].any (litAt m) with
    | false => rfl
    | true =>
      simp only [if_true, Bool.true_and]
      rw [next64 (by omega)]
      exact holds_out m hm l hl hc d (i + 1) k' (by omega) (by omega)
theorem specHolds_val {v : Int} {l : List (List Int)} (h : goodB v l = true) (m : List Bool) (hm : (m.length : Int) = v) (k : Nat) (hk : 100000 ≤ k) : spec_l4Holds.f k l m = some (holdsB l m) := by
  obtain ⟨h0, h1, h2, _⟩ := goodB_facts h
  unfold spec_l4Holds.f holdsB
  have := holds_out m (by omega) l (by omega) (fun c hc => by rw [hm]; exact goodB_lits h c hc) l.length 0 k (by omega) (by omega)
  simpa using this
theorem fits_good {v : Int} {l : List (List Int)} (h : goodB v l = true) (m : List Bool) (hm : (m.length : Int) = v) : fitsModel l m = true := by
  obtain ⟨h0, h1, h2, _⟩ := goodB_facts h
  unfold fitsModel
  rw [List.all_eq_true]
  intro c hc
  rw [List.all_eq_true]
  intro n hn
  obtain ⟨a0, a1, a2⟩ := (goodB_lits h c hc).2 n hn
  rw [vab_small (by omega) (by omega)]
  simp only [Bool.and_eq_true, decide_eq_true_eq]
  split <;> omega
theorem implHolds_val {v : Int} {l : List (List Int)} (h : goodB v l = true) (m : List Bool) (hm : (m.length : Int) = v) : impl_holds.f l m = some (holdsB l m) := by
  unfold impl_holds.f
  rw [if_pos (fits_good h m hm)]

def bitAt (num : Int) (i : Nat) : Bool := (Go.bits .and .i64 (shr .i64 num (i : Int)) 1) == 1
def modelL (v : Nat) (num : Int) : List Bool := (List.range v).map fun i => bitAt num i
theorem modelL_length (v : Nat) (num : Int) : (modelL v num).length = v := by simp [modelL]
theorem u64_small {x : Int} (h0 : 0 ≤ x) (h1 : x ≤ 1000) : IntKind.u64.wrap x = x := by
  simp [IntKind.wrap, IntKind.bits, IntKind.signed]
  omega
theorem implModel_l (num : Int) : ∀ (d i k : Nat) (y : List Bool), i + d = y.length → y.length ≤ 1000 → (∀ j, j < i → y[j]? = some (bitAt num j)) → d < k → impl_model.l0 k num y (y.length : Int) (i : Int) = some (modelL y.length num)
  | 0, i, k, y, h1, h2, h3, hk => by
    obtain ⟨k, rfl⟩ : ∃ m, k = m + 1 := ⟨k - 1, by omega⟩
    simp only [impl_model.l0]
    rw [if_neg (by omega)]
    congr 1
    apply List.ext_getElem?
    intro j
    by_cases hj : j < y.length
    · rw [h3 j (by omega)]
      simp [modelL, hj]
    · rw [List.getElem?_eq_none (by omega), List.getElem?_eq_none (by rw [modelL_length]; omega)]
  | d + 1, i, k, y, h1, h2, h3, hk => by
    obtain ⟨k, rfl⟩ : ∃ m, k = m + 1 := ⟨k - 1, by omega⟩
    simp only [impl_model.l0]
    rw [if_pos (by omega), if_pos (by omega), if_pos (by omega), next64 (by omega), show ((i : Int).toNat) = i by omega]
    have ih := implModel_l num d (i + 1) k (y.set i (bitAt num i)) (by rw [List.length_set]; omega) (by rw [List.length_set]; omega) (fun j hj => by
      rw [List.getElem?_set]
      by_cases e : i = j
      · subst e
        rw [if_pos rfl, if_pos (by omega)]
      · rw [if_neg e]
        exact h3 j (by omega)) (by omega)
    rw [List.length_set] at ih
    exact ih
theorem implModel_val (v : Int) (h0 : 0 ≤ v) (h1 : v ≤ 12) (num : Int) (k : Nat) (hk : 1000 ≤ k) : impl_model.f k v num = some (modelL v.toNat num) := by
  unfold impl_model.f
  rw [if_pos h0, if_pos (by omega)]
  simp only [Option.bind_some]
  have := implModel_l num v.toNat 0 k (List.replicate v.toNat false) (by simp) (by simp; omega) (fun j hj => absurd hj (by omega)) (by omega)
  rw [List.length_replicate] at this ⊢
  exact this
theorem modelSame : ∀ (k : Nat) (num : Int) (y : List Bool) (n i : Int), n ≤ 1000 → 0 ≤ i → spec_l4Model.l0 k num y n i = impl_model.l0 k num y n i
  | 0, _, _, _, _, _, _ => rfl
  | k + 1, num, y, n, i, hn, h0 => by
    simp only [spec_l4Model.l0, impl_model.l0]
    by_cases h : i < n
    · rw [if_pos h, if_pos h, u64_small h0 (by omega), if_pos h0, w64 (by omega) (by omega), modelSame k num _ n (i + 1) hn (by omega)]
    · rw [if_neg h, if_neg h]
theorem specModel_val (v : Int) (h0 : 0 ≤ v) (h1 : v ≤ 12) (num : Int) (k : Nat) (hk : 1000 ≤ k) : spec_l4Model.f k v num = some (modelL v.toNat num) := by
  rw [← implModel_val v h0 h1 num k hk]
  unfold spec_l4Model.f impl_model.f
  rw [if_pos h0, if_pos h0, if_pos (by omega), if_pos (by omega)]
  simp only [Option.bind_some]
  exact modelSame k num _ _ 0 (by rw [List.length_replicate]; omega) (by omega)
/-- How many of the models from number x on, d of them, are models of the clauses. -/
def countFrom (v : Nat) (l : List (List Int)) : Nat → Int → Int
  | 0, _ => 0
  | d + 1, x => (if holdsB l (modelL v x) = true then 1 else 0) + countFrom v l d (x + 1)
theorem shl_pow (v : Int) (h0 : 0 ≤ v) (h1 : v ≤ 12) : shl .i64 1 v = ((2 ^ v.toNat : Nat) : Int) := by
  unfold shl
  have h : v.toNat ≤ 12 := by omega
  rw [Nat.min_eq_left (show v.toNat ≤ IntKind.i64.bits by simp [IntKind.bits]; omega), IntKind.wrap_i64]
  have hp : 2 ^ v.toNat ≤ 2 ^ 12 := Nat.pow_le_pow_right (by decide) h
  have e : ((2 : Int) ^ v.toNat) = ((2 ^ v.toNat : Nat) : Int) := by simp
  rw [Int.one_mul, e]
  generalize 2 ^ v.toNat = p at hp
  omega
theorem specCount_l (v : Int) (l : List (List Int)) (hg : goodB v l = true) : ∀ (d : Nat) (x c : Int) (k : Nat), x + d = ((2 ^ v.toNat : Nat) : Int) → 0 ≤ x → 0 ≤ c → c ≤ x → d + 200000 ≤ k → spec_CountModels.l0 k v l c x = some (c + countFrom v.toNat l d x, true) := by
  obtain ⟨h0, h1, _, _⟩ := goodB_facts hg
  have hp : 2 ^ v.toNat ≤ 2 ^ 12 := Nat.pow_le_pow_right (by decide) (by omega)
  intro d
  induction d with
  | zero =>
    intro x c k hx hx0 hc0 hcx hk
    obtain ⟨k, rfl⟩ : ∃ m, k = m + 1 := ⟨k - 1, by omega⟩
    simp only [spec_CountModels.l0]
    rw [u64_small h0 (by omega), if_pos h0, shl_pow v h0 h1, if_neg (by omega)]
    simp [countFrom]
  | succ d ih =>
    intro x c k hx hx0 hc0 hcx hk
    obtain ⟨k, rfl⟩ : ∃ m, k = m + 1 := ⟨k - 1, by omega⟩
    have hm : ((modelL v.toNat x).length : Int) = v := by rw [modelL_length]; omega
    simp only [spec_CountModels.l0]
    rw [u64_small h0 (by omega), if_pos h0, shl_pow v h0 h1, if_pos (by omega), specModel_val v h0 h1 x k (by omega)]
    simp only [Option.bind_some]
    rw [specHolds_val hg _ hm k (by omega), w64 (x := x + 1) (by omega) (by omega), w64 (x := c + 1) (by omega) (by omega)]
    simp only [Option.bind_some]
    unfold countFrom
    cases holdsB l (modelL v.toNat x) with
    | true =>
      simp only [if_true]
      rw [ih (x + 1) (c + 1) k (by omega) (by omega) (by omega) (by omega) (by omega)]
      congr 2
      omega
    | false =>
      rw [if_neg Bool.false_ne_true, if_neg Bool.false_ne_true, ih (x + 1) c k (by omega) (by omega) (by omega) (by omega) (by omega)]
      congr 2
      omega
theorem implCount_l (v : Int) (l : List (List Int)) (hg : goodB v l = true) : ∀ (d : Nat) (x c : Int) (k : Nat), x + d = ((2 ^ v.toNat : Nat) : Int) → 0 ≤ x → 0 ≤ c → c ≤ x → d + 200000 ≤ k → impl_countModels.l0 k v l c ((2 ^ v.toNat : Nat) : Int) x = some (c + countFrom v.toNat l d x) := by
  obtain ⟨h0, h1, _, _⟩ := goodB_facts hg
  have hp : 2 ^ v.toNat ≤ 2 ^ 12 := Nat.pow_le_pow_right (by decide) (by omega)
  intro d
  induction d with
  | zero =>
    intro x c k hx hx0 hc0 hcx hk
    obtain ⟨k, rfl⟩ : ∃ m, k = m + 1 := ⟨k - 1, by omega⟩
    simp only [impl_countModels.l0]
    rw [if_neg (by omega)]
    simp [countFrom]
  | succ d ih =>
    intro x c k hx hx0 hc0 hcx hk
    obtain ⟨k, rfl⟩ : ∃ m, k = m + 1 := ⟨k - 1, by omega⟩
    have hm : ((modelL v.toNat x).length : Int) = v := by rw [modelL_length]; omega
    simp only [impl_countModels.l0]
    rw [if_pos (by omega), implModel_val v h0 h1 x k (by omega)]
    simp only [Option.bind_some]
    rw [implHolds_val hg _ hm, w64 (x := x + 1) (by omega) (by omega), w64 (x := c + 1) (by omega) (by omega)]
    simp only [Option.bind_some]
    unfold countFrom
    cases holdsB l (modelL v.toNat x) with
    | true =>
      simp only [if_true]
      rw [ih (x + 1) (c + 1) k (by omega) (by omega) (by omega) (by omega) (by omega)]
      congr 1
      omega
    | false =>
      rw [if_neg Bool.false_ne_true, if_neg Bool.false_ne_true, ih (x + 1) c k (by omega) (by omega) (by omega) (by omega) (by omega)]
      congr 1
      omega
def countR (v : Int) (l : List (List Int)) : Int := countFrom v.toNat l (2 ^ v.toNat) 0
theorem specCount_val (v : Int) (l : List (List Int)) (hl : l.length ≤ 1048576) (hi : ∀ x ∈ l, x.length ≤ 1048576) (k : Nat) (hk : 5000000 ≤ k) : spec_CountModels.f k v l = some (if goodB v l = true then (countR v l, true) else (0, false)) := by
  unfold spec_CountModels.f
  rw [specGood_val v l hl hi k hk]
  simp only [Option.bind_some]
  cases hg : goodB v l with
  | false => rfl
  | true =>
    obtain ⟨h0, h1, _, _⟩ := goodB_facts hg
    have hp : 2 ^ v.toNat ≤ 2 ^ 12 := Nat.pow_le_pow_right (by decide) (by omega)
    simp only [if_true]
    rw [specCount_l v l hg (2 ^ v.toNat) 0 0 k (by omega) (by omega) (by omega) (by omega) (by omega)]
    unfold countR
    simp
theorem implCountModels_val (v : Int) (l : List (List Int)) (hg : goodB v l = true) (k : Nat) (hk : 5000000 ≤ k) : impl_countModels.f k v l = some (countR v l) := by
  obtain ⟨h0, h1, _, _⟩ := goodB_facts hg
  have hp : 2 ^ v.toNat ≤ 2 ^ 12 := Nat.pow_le_pow_right (by decide) (by omega)
  unfold impl_countModels.f
  rw [if_pos h0, shl_pow v h0 h1, implCount_l v l hg (2 ^ v.toNat) 0 0 k (by omega) (by omega) (by omega) (by omega) (by omega)]
  unfold countR
  simp

theorem copy_l (l : List (List Int)) (hl : l.length ≤ 1048576) (hi : ∀ x ∈ l, x.length ≤ 1048576) : ∀ (d i k : Nat) (y : List (List Int)), i + d = l.length → y.length = i → d < k → spec_l5Copy.l0 k y l (l.length : Int) (i : Int) = some (y ++ l.drop i)
  | 0, i, k, y, h1, h2, hk => by
    obtain ⟨k, rfl⟩ : ∃ m, k = m + 1 := ⟨k - 1, by omega⟩
    simp only [spec_l5Copy.l0]
    rw [if_neg (by omega), List.drop_of_length_le (by omega), List.append_nil]
  | d + 1, i, k, y, h1, h2, hk => by
    obtain ⟨k, rfl⟩ : ∃ m, k = m + 1 := ⟨k - 1, by omega⟩
    have hil : i < l.length := by omega
    have hx := hi l[i] (List.getElem_mem _)
    simp only [spec_l5Copy.l0, Option.bind_some, List.nil_append, List.length_nil]
    rw [if_pos (by omega), if_pos (by omega), if_pos (by omega), rdL_nat l i hil, next64 (by omega), if_pos (by omega), if_pos (by omega)]
    rw [copy_l l hl hi d (i + 1) k (y ++ [l[i]]) (by omega) (by simp [h2]) (by omega), List.drop_eq_getElem_cons hil, List.append_assoc]
    rfl
theorem copy_val (l : List (List Int)) (hl : l.length ≤ 1048576) (hi : ∀ x ∈ l, x.length ≤ 1048576) (k : Nat) (hk : 1048577 ≤ k) : spec_l5Copy.f k l = some l := by
  unfold spec_l5Copy.f
  have := copy_l l hl hi l.length 0 k [] (by omega) rfl (by omega)
  simpa using this

theorem goodB_app (v : Int) (a b : List (List Int)) (ha : goodB v a = true) (hb : goodB v b = true) : goodB v (a ++ b) = decide ((a ++ b).length ≤ 60) := by
  obtain ⟨h0, h1, _, h2⟩ := goodB_facts ha
  obtain ⟨_, _, _, h3⟩ := goodB_facts hb
  have hall : ((a ++ b).all fun x => isClauseB x v) = true := by
    rw [List.all_eq_true]
    intro c hc
    exact (List.mem_append.1 hc).elim (h2 c) (h3 c)
  unfold goodB
  rw [hall, decide_eq_true h0, decide_eq_true h1]
  simp
def sameR (v : Int) (a b : List (List Int)) : Bool × Bool := if goodB v a = true then (if goodB v b = true then (if (a ++ b).length ≤ 60 then ((countR v a == countR v b) && (countR v b == countR v (a ++ b)), true) else (false, false)) else (false, false)) else (false, false)
theorem specSame_val (v : Int) (a b : List (List Int)) (ha : a.length ≤ 1048576) (hai : ∀ x ∈ a, x.length ≤ 1048576) (hb : b.length ≤ 1048576) (hbi : ∀ x ∈ b, x.length ≤ 1048576) (k : Nat) (hk : 9000000 ≤ k) : spec_SameModels.f k v a b = some (sameR v a b) := by
  unfold spec_SameModels.f sameR
  rw [copy_val a ha hai k (by omega)]
  simp only [Option.bind_some]
  rw [if_pos (by omega), specGood_val v a ha hai k (by omega)]
  simp only [Option.bind_some]
  cases h1 : goodB v a with
  | false => rfl
  | true =>
    simp only [if_true]
    rw [specGood_val v b hb hbi k (by omega)]
    simp only [Option.bind_some]
    cases h2 : goodB v b with
    | false => rfl
    | true =>
      simp only [if_true]
      obtain ⟨_, _, l1, _⟩ := goodB_facts h1
      obtain ⟨_, _, l2, _⟩ := goodB_facts h2
      have hl : (a ++ b).length ≤ 1048576 := by rw [List.length_append]; omega
      have hli : ∀ x ∈ a ++ b, x.length ≤ 1048576 := fun x hx => (List.mem_append.1 hx).elim (hai x) (hbi x)
      rw [specGood_val v (a ++ b) hl hli k (by omega), goodB_app v a b h1 h2]
      simp only [Option.bind_some]
      by_cases h3 : (a ++ b).length ≤ 60
      · rw [decide_eq_true h3, if_pos rfl, if_pos h3, specCount_val v a ha hai k (by omega), specCount_val v b hb hbi k (by omega), specCount_val v (a ++ b) hl hli k (by omega), if_pos h1, if_pos h2, if_pos (by rw [goodB_app v a b h1 h2]; exact decide_eq_true h3)]
        rfl
      · rw [decide_eq_false h3, if_neg Bool.false_ne_true, if_neg h3]
theorem implSame_val (v : Int) (a b : List (List Int)) (ha : a.length ≤ 1048576) (hb : b.length ≤ 1048576) (k : Nat) (hk : 9000000 ≤ k) : impl_SameModels.f k v a b = some (sameR v a b) := by
  unfold impl_SameModels.f sameR
  rw [if_pos (by omega), implGood_val, implGood_val]
  simp only [Option.bind_some]
  cases h1 : goodB v a with
  | false => rfl
  | true =>
    cases h2 : goodB v b with
    | false => rfl
    | true =>
      simp only [if_true]
      by_cases h3 : (a ++ b).length ≤ 60
      · have hg : goodB v (a ++ b) = true := by rw [goodB_app v a b h1 h2]; exact decide_eq_true h3
        rw [if_neg (by omega), if_pos h3, implCountModels_val v (a ++ b) hg k (by omega), implCountModels_val v a h1 k (by omega)]
        simp only [Option.bind_some]
        rw [implCountModels_val v b h2 k (by omega)]
        by_cases e : countR v a = countR v (a ++ b)
        · rw [if_pos e, e]
          simp only [Option.bind_some]
          by_cases e2 : countR v b = countR v (a ++ b)
          · rw [e2]
            simp
          · have n1 : (countR v b == countR v (a ++ b)) = false := by simp [e2]
            rw [n1]
            simp
        · rw [if_neg e]
          by_cases e2 : countR v b = countR v (a ++ b)
          · have n1 : (countR v a == countR v b) = false := by rw [e2]; simp [e]
            rw [n1]
            rfl
          · have n1 : (countR v b == countR v (a ++ b)) = false := by simp [e2]
            rw [n1]
            simp
      · rw [if_pos (by omega), if_neg h3]

theorem FnExactSameModels : laws_FnExactSameModels.Pure := by
  rintro v l m hv ⟨h0, h1⟩ ⟨h2, h3⟩
  obtain ⟨k, hk⟩ : ∃ k : Nat, 9000000 ≤ k := ⟨_, Nat.le_refl _⟩
  refine ⟨k, ?_⟩
  unfold laws_FnExactSameModels.f
  obtain ⟨t, ht, htb, hte⟩ := szIntSS_gen l h0 (fun x hx => (h1 x hx).1) 1048576 (by omega) (by omega) k (by omega)
  rw [ht]
  simp only [Option.bind_some]
  by_cases hn : t < 0
  · rw [if_pos hn]
  · rw [if_neg hn]
    obtain ⟨hb, hi⟩ := hte (by omega)
    obtain ⟨t2, ht2, _, hte2⟩ := szIntSS_gen m h2 (fun x hx => (h3 x hx).1) t (by omega) (by omega) k (by omega)
    rw [ht2]
    simp only [Option.bind_some]
    by_cases hn2 : t2 < 0
    · rw [if_pos hn2]
    · rw [if_neg hn2]
      obtain ⟨hb2, hi2⟩ := hte2 (by omega)
      have hT : ∀ q, 9000000 ≤ q → laws_toIntSS.f q l = some l := fun q hq => toIntSS_val l hb hi q (by omega)
      have hT2 : ∀ q, 9000000 ≤ q → laws_toIntSS.f q m = some m := fun q hq => toIntSS_val m hb2 hi2 q (by omega)
      have hE : ∀ q, 9000000 ≤ q → laws_eqIntSS.f q l l = some true := fun q hq => eqIntSS_val l hb hi q (by omega)
      have hE2 : ∀ q, 9000000 ≤ q → laws_eqIntSS.f q m m = some true := fun q hq => eqIntSS_val m hb2 hi2 q (by omega)
      have hs : ∀ q, 9000000 ≤ q → spec_SameModels.f q v l m = some (sameR v l m) := fun q hq => specSame_val v l m hb hi hb2 hi2 q hq
      have him : ∀ q, 9000000 ≤ q → impl_SameModels.f q v l m = some (sameR v l m) := fun q hq => implSame_val v l m hb hb2 q hq
      generalize sameR v l m = r at hs him
      repeat (first
        | (rw [hT _ (by omega)]; simp only [Option.bind_some])
        | (rw [hT2 _ (by omega)]; simp only [Option.bind_some])
        | (rw [hs _ (by omega)]; simp only [Option.bind_some])
        | (rw [him _ (by omega)]; simp only [Option.bind_some])
        | (rw [hE _ (by omega)]; simp only [Option.bind_some])
        | (rw [hE2 _ (by omega)]; simp only [Option.bind_some])
        | rw [if_pos rfl]
        | rw [bne_self_eq_false]
        | rw [if_neg Bool.false_ne_true]
        | simp only [Option.bind_some])
      try simp

end Go.Proofs.Ytlehkmadphmfdaa.Pure
