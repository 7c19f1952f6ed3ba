/- The pure statement of the law FnExactFollowsFrom: the printed functions of the program and of the reference give the same answers, at every input that the statement's guards let in. -/
import Derived.Test.YtafffpbagdoniaaPFnExactFollowsFromx7
namespace Go.Proofs.Ytafffpbagdoniaa.Pure
open Go.RowKit Go.Proofs.Ytafffpbagdoniaa.PFnExactFollowsFrom Go.Proofs.YtafffpbagdoniaaW.PrintWords Go.Proofs.YtafffpbagdoniaaW.PrintLast Go.Proofs.YtafffpbagdoniaaW.PrintMore
theorem w64 {x : Int} (h0 : -9223372036854775808 ≤ x) (h1 : x ≤ 9223372036854775807) : wrap64 x = x := by
  unfold wrap64
  omega
theorem l64 {a : Int} (h : (Lit.int .i64 a).wf = true) : -9223372036854775808 ≤ a ∧ a ≤ 9223372036854775807 := by
  simp only [Lit.wf, IntKind.min, IntKind.max, IntKind.signed, IntKind.bits, Bool.and_eq_true, decide_eq_true_eq, if_true] at h
  omega
theorem rd_nat (l : List Int) (i : Nat) (h : i < l.length) : rd l (i : Int) = l[i] := by
  unfold rd
  rw [List.getD_eq_getElem?_getD, show ((i : Int).toNat) = i by omega, List.getElem?_eq_getElem h]
  rfl
theorem next64 {i : Nat} (h : i ≤ 4611686018427387904) : wrap64 ((i : Int) + 1) = ((i + 1 : Nat) : Int) := by
  rw [w64 (by omega) (by omega)]
  omega

theorem rdL_nat (l : List (List Int)) (i : Nat) (h : i < l.length) : rd_L1 l (i : Int) = l[i] := by
  unfold rd_L1
  rw [List.getD_eq_getElem?_getD, show ((i : Int).toNat) = i by omega, List.getElem?_eq_getElem h]
  rfl

theorem szIntS_val (l : List Int) (a : Int) (h0 : 0 ≤ a) (h1 : a ≤ 1048576) (hl : l.length ≤ 9223372036854775807) : ∃ t, laws_szIntS.f l a = some t ∧ t ≤ 1048576 ∧ (0 ≤ t → (l.length : Int) ≤ a) := by
  unfold laws_szIntS.f
  rw [w64 (by omega) (by omega)]
  by_cases h : a - (l.length : Int) < 0
  · rw [if_pos h]
    exact ⟨-1, rfl, by omega, fun h => absurd h (by omega)⟩
  · rw [if_neg h]
    exact ⟨_, rfl, by omega, fun _ => by omega⟩
theorem szIntSS_l (l : List (List Int)) (hl : l.length ≤ 1048576) (hm : ∀ x ∈ l, x.length ≤ 9223372036854775807) : ∀ (d i : Nat) (a : Int) (k : Nat), i + d = l.length → 0 ≤ a → a ≤ 1048576 → (∀ j (hj : j < l.length), j < i → l[j].length ≤ 1048576) → d < k →
    ∃ t, laws_szIntSS.l0 k l a (i : Int) = some t ∧ t ≤ 1048576 ∧ (0 ≤ t → ∀ x ∈ l, x.length ≤ 1048576)
  | 0, i, a, k, h1, h2, h3, h4, hk => by
    obtain ⟨k, rfl⟩ : ∃ m, k = m + 1 := ⟨k - 1, by omega⟩
    simp only [laws_szIntSS.l0]
    rw [if_neg (by omega)]
    refine ⟨a, rfl, h3, fun _ x hx => ?_⟩
    obtain ⟨j, hj, rfl⟩ := List.mem_iff_getElem.1 hx
    exact h4 j hj (by omega)
  | d + 1, i, a, k, h1, h2, h3, h4, hk => by
    obtain ⟨k, rfl⟩ : ∃ m, k = m + 1 := ⟨k - 1, by omega⟩
    simp only [laws_szIntSS.l0]
    rw [if_pos (by omega), if_pos (by omega), rdL_nat l i (by omega)]
    obtain ⟨t, ht, htb, hte⟩ := szIntS_val l[i] a h2 h3 (hm _ (List.getElem_mem _))
    rw [ht]
    simp only [Option.bind_some]
    by_cases hn : t < 0
    · rw [if_pos hn]
      exact ⟨-1, rfl, by omega, fun h => absurd h (by omega)⟩
    · rw [if_neg hn, next64 (by omega)]
      refine szIntSS_l l hl hm d (i + 1) t k (by omega) (by omega) htb (fun j hj hji => ?_) (by omega)
      by_cases e : j = i
      · subst e
        have := hte (by omega)
        omega
      · exact h4 j hj (by omega)
theorem szIntSS_gen (l : List (List Int)) (hl : l.length ≤ 9223372036854775807) (hm : ∀ x ∈ l, x.length ≤ 9223372036854775807) (a : Int) (h0 : 0 ≤ a) (h1 : a ≤ 1048576) (k : Nat) (hk : 1048577 ≤ k) :
    ∃ t, laws_szIntSS.f k l a = some t ∧ t ≤ 1048576 ∧ (0 ≤ t → l.length ≤ 1048576 ∧ ∀ x ∈ l, x.length ≤ 1048576) := by
  unfold laws_szIntSS.f
  rw [w64 (by omega) (by omega)]
  by_cases h : a - (l.length : Int) < 0
  · rw [if_pos h]
    exact ⟨-1, rfl, by omega, fun h => absurd h (by omega)⟩
  · rw [if_neg h]
    obtain ⟨t, ht, htb, hte⟩ := szIntSS_l l (by omega) hm l.length 0 (a - (l.length : Int)) k (by omega) (by omega) (by omega) (fun j _ hj => absurd hj (by omega)) (by omega)
    exact ⟨t, ht, htb, fun h0 => ⟨by omega, hte h0⟩⟩
theorem szIntSS_val (l : List (List Int)) (hl : l.length ≤ 9223372036854775807) (hm : ∀ x ∈ l, x.length ≤ 9223372036854775807) (k : Nat) (hk : 1048577 ≤ k) :
    ∃ t, laws_szIntSS.f k l 1048576 = some t ∧ (0 ≤ t → l.length ≤ 1048576 ∧ ∀ x ∈ l, x.length ≤ 1048576) := by
  obtain ⟨t, ht, _, hte⟩ := szIntSS_gen l hl hm 1048576 (by omega) (by omega) k hk
  exact ⟨t, ht, hte⟩

theorem toIntS_l (l : List Int) (hl : l.length ≤ 4611686018427387904) : ∀ (d i : Nat) (y : List Int) (k : Nat), i + d = l.length → y.length = l.length → (∀ j, j < i → y[j]? = l[j]?) → d < k → laws_toIntS.l0 k l y (i : Int) = some l
  | 0, i, y, k, h1, h2, h3, hk => by
    obtain ⟨k, rfl⟩ : ∃ m, k = m + 1 := ⟨k - 1, by omega⟩
    simp only [laws_toIntS.l0]
    rw [if_neg (by omega)]
    congr 1
    apply List.ext_getElem?
    intro j
    by_cases hj : j < i
    · exact h3 j hj
    · rw [List.getElem?_eq_none (by omega), List.getElem?_eq_none (by omega)]
  | d + 1, i, y, k, h1, h2, h3, hk => by
    obtain ⟨k, rfl⟩ : ∃ m, k = m + 1 := ⟨k - 1, by omega⟩
    simp only [laws_toIntS.l0]
    rw [if_pos (by omega), if_pos (by omega), if_pos (by omega), next64 (by omega), rd_nat l i (by omega)]
    refine toIntS_l l hl d (i + 1) _ k (by omega) (by rw [List.length_set]; exact h2) (fun j hj => ?_) (by omega)
    rw [show ((i : Int).toNat) = i by omega, List.getElem?_set]
    by_cases e : i = j
    · subst e
      rw [if_pos rfl, if_pos (by omega), List.getElem?_eq_getElem (by omega)]
    · rw [if_neg e]
      exact h3 j (by omega)
theorem toIntS_val (l : List Int) (hl : l.length ≤ 1048576) (k : Nat) (hk : l.length < k) : laws_toIntS.f k l = some l := by
  unfold laws_toIntS.f
  rw [if_pos (by omega), if_pos (by omega)]
  exact toIntS_l l (by omega) l.length 0 _ k (by omega) (by rw [List.length_replicate]; omega) (fun j hj => absurd hj (by omega)) hk

theorem toIntSS_l (l : List (List Int)) (hl : l.length ≤ 1048576) (hi : ∀ x ∈ l, x.length ≤ 1048576) : ∀ (d i : Nat) (y : List (List Int)) (k : Nat), i + d = l.length → y.length = l.length → (∀ j, j < i → y[j]? = l[j]?) → d + 1048577 < k → laws_toIntSS.l0 k l y (i : Int) = some l
  | 0, i, y, k, h1, h2, h3, hk => by
    obtain ⟨k, rfl⟩ : ∃ m, k = m + 1 := ⟨k - 1, by omega⟩
    simp only [laws_toIntSS.l0]
    rw [if_neg (by omega)]
    congr 1
    apply List.ext_getElem?
    intro j
    by_cases hj : j < i
    · exact h3 j hj
    · rw [List.getElem?_eq_none (by omega), List.getElem?_eq_none (by omega)]
  | d + 1, i, y, k, h1, h2, h3, hk => by
    obtain ⟨k, rfl⟩ : ∃ m, k = m + 1 := ⟨k - 1, by omega⟩
    simp only [laws_toIntSS.l0]
    have hin := hi l[i] (List.getElem_mem _)
    rw [if_pos (by omega), if_pos (by omega), rdL_nat l i (by omega), toIntS_val l[i] hin k (by omega)]
    simp only [Option.bind_some]
    rw [if_pos (by omega), next64 (by omega)]
    refine toIntSS_l l hl hi d (i + 1) _ k (by omega) (by rw [List.length_set]; exact h2) (fun j hj => ?_) (by omega)
    rw [show ((i : Int).toNat) = i by omega, List.getElem?_set]
    by_cases e : i = j
    · subst e
      rw [if_pos rfl, if_pos (by omega), List.getElem?_eq_getElem (by omega)]
    · rw [if_neg e]
      exact h3 j (by omega)
theorem toIntSS_val (l : List (List Int)) (hl : l.length ≤ 1048576) (hi : ∀ x ∈ l, x.length ≤ 1048576) (k : Nat) (hk : 3000000 ≤ k) : laws_toIntSS.f k l = some l := by
  unfold laws_toIntSS.f
  rw [if_pos (by omega), if_pos (by omega)]
  exact toIntSS_l l hl hi l.length 0 _ k (by omega) (by rw [List.length_replicate]; omega) (fun j hj => absurd hj (by omega)) (by omega)

theorem eqIntS_l (l : List Int) (hl : l.length ≤ 4611686018427387904) : ∀ (d i k : Nat), i + d = l.length → d < k → laws_eqIntS.l0 k l l (i : Int) = some true
  | 0, i, k, h1, hk => by
    obtain ⟨k, rfl⟩ : ∃ m, k = m + 1 := ⟨k - 1, by omega⟩
    simp only [laws_eqIntS.l0]
    rw [if_neg (by omega)]
  | d + 1, i, k, h1, hk => by
    obtain ⟨k, rfl⟩ : ∃ m, k = m + 1 := ⟨k - 1, by omega⟩
    simp only [laws_eqIntS.l0]
    rw [if_pos (by omega), if_pos (by omega), if_pos (by omega), if_true, next64 (by omega)]
    exact eqIntS_l l hl d (i + 1) k (by omega) (by omega)
theorem eqIntS_val (l : List Int) (hl : l.length ≤ 4611686018427387904) (k : Nat) (hk : l.length < k) : laws_eqIntS.f k l l = some true := by
  unfold laws_eqIntS.f
  rw [if_pos rfl]
  exact eqIntS_l l hl l.length 0 k (by omega) hk

theorem eqIntSS_l (l : List (List Int)) (hl : l.length ≤ 1048576) (hi : ∀ x ∈ l, x.length ≤ 1048576) : ∀ (d i k : Nat), i + d = l.length → d + 1048577 < k → laws_eqIntSS.l0 k l l (i : Int) = some true
  | 0, i, k, h1, hk => by
    obtain ⟨k, rfl⟩ : ∃ m, k = m + 1 := ⟨k - 1, by omega⟩
    simp only [laws_eqIntSS.l0]
    rw [if_neg (by omega)]
  | d + 1, i, k, h1, hk => by
    obtain ⟨k, rfl⟩ : ∃ m, k = m + 1 := ⟨k - 1, by omega⟩
    simp only [laws_eqIntSS.l0]
    have hin := hi l[i] (List.getElem_mem _)
    rw [if_pos (by omega), if_pos (by omega), if_pos (by omega), rdL_nat l i (by omega), eqIntS_val l[i] (by omega) k (by omega)]
    simp only [Option.bind_some, if_true]
    rw [next64 (by omega)]
    exact eqIntSS_l l hl hi d (i + 1) k (by omega) (by omega)
theorem eqIntSS_val (l : List (List Int)) (hl : l.length ≤ 1048576) (hi : ∀ x ∈ l, x.length ≤ 1048576) (k : Nat) (hk : 3000000 ≤ k) : laws_eqIntSS.f k l l = some true := by
  unfold laws_eqIntSS.f
  rw [if_pos rfl]
  exact eqIntSS_l l hl hi l.length 0 k (by omega) (by omega)


theorem any_flip (l : List Int) (a : Int) : (l.any fun y => a == y) = l.any (· == a) := by
  congr 1
  funext y
  rw [Bool.eq_iff_iff]
  simp only [beq_iff_eq]
  exact eq_comm

def hasB (l : List Int) (n : Int) : Bool := l.any (· == n)

theorem meets_cons (x : Int) (r out : List Int) : meetsB (x :: r) out = (hasB out x || meetsB r out) := by
  unfold meetsB hasB
  rw [List.any_cons, any_flip]
theorem without_cons (x : Int) (r out : List Int) : withoutL (x :: r) out = if hasB out (wrap64 (-x)) = true then withoutL r out else x :: withoutL r out := by
  unfold withoutL hasB
  rw [List.filter_cons, any_flip]
  cases out.any (· == wrap64 (-x)) <;> simp

theorem drop_at (l : List Int) (i : Nat) (h : i < l.length) : l.drop i = l[i] :: l.drop (i + 1) := List.drop_eq_getElem_cons h
theorem has_l (l : List Int) (x : Int) (hl : l.length ≤ 1099511627776) : ∀ (d i k : Nat), i + d = l.length → d < k → spec_l1Has.l0 k x l (l.length : Int) (i : Int) = some ((l.drop i).any (· == x))
  | 0, i, k, h1, hk => by
    obtain ⟨k, rfl⟩ : ∃ m, k = m + 1 := ⟨k - 1, by omega⟩
    simp only [spec_l1Has.l0]
    rw [if_neg (by omega), List.drop_of_length_le (by omega)]
    rfl
  | d + 1, i, k, h1, hk => by
    obtain ⟨k, rfl⟩ : ∃ m, k = m + 1 := ⟨k - 1, by omega⟩
    simp only [spec_l1Has.l0]
    rw [if_pos (by omega), if_pos (by omega), if_pos (by omega), rd_nat l i (by omega), next64 (by omega), drop_at l i (by omega)]
    by_cases e : l[i] = x
    · rw [if_pos e]
      rw [List.any_cons, show (l[i] == x) = true by simpa using e, Bool.true_or]
    · rw [if_neg e, has_l l x hl d (i + 1) k (by omega) (by omega), List.any_cons, show (l[i] == x) = false by simpa using e, Bool.false_or]
theorem has_val (l : List Int) (x : Int) (hl : l.length ≤ 1099511627776) (k : Nat) (hk : l.length < k) : spec_l1Has.f k l x = some (l.any (· == x)) := by
  unfold spec_l1Has.f
  have := has_l l x hl l.length 0 k (by omega) hk
  simpa using this

theorem specIn_val (n a b : Int) : spec_l1In.f n a b = some (decide (a ≤ n) && decide (n ≤ b)) := by
  unfold spec_l1In.f
  by_cases h : n ≥ a
  · rw [if_pos h]
    simp [h]
  · rw [if_neg h]
    simp [h]
theorem neg64 {n : Int} (h0 : -4611686018427387904 ≤ n) (h1 : n ≤ 4611686018427387904) : wrap64 (-n) = -n := w64 (by omega) (by omega)
theorem vab_small {n : Int} (h0 : -12 ≤ n) (h1 : n ≤ 12) : vab n = if n < -n then -n else n := by
  unfold vab
  rw [neg64 (by omega) (by omega)]
theorem vab_eq {n m : Int} (h0 : -12 ≤ n) (h1 : n ≤ 12) (h2 : -12 ≤ m) (h3 : m ≤ 12) : (vab n == vab m) = ((n == m) || (n == -m)) := by
  rw [vab_small h0 h1, vab_small h2 h3, Bool.eq_iff_iff]
  simp only [beq_iff_eq, Bool.or_eq_true]
  split <;> split <;> omega
theorem litB_small {n v : Int} (h0 : 0 ≤ v) (h1 : v ≤ 12) (h : litB n v = true) : n ≠ 0 ∧ -v ≤ n ∧ n ≤ v := by
  unfold litB at h
  rw [neg64 (by omega) (by omega)] at h
  simpa [Bool.and_eq_true] using h
theorem any_vab (l : List Int) (m : Int) (h2 : -12 ≤ m) (h3 : m ≤ 12) (hl : ∀ x ∈ l, -12 ≤ x ∧ x ≤ 12) : (l.any fun k => vab k == vab m) = (l.any (· == m) || l.any (· == -m)) := by
  induction l with
  | nil => rfl
  | cons a l ih =>
    have ha := hl a List.mem_cons_self
    rw [List.any_cons, List.any_cons, List.any_cons, ih (fun x hx => hl x (List.mem_cons_of_mem _ hx)), vab_eq ha.1 ha.2 h2 h3]
    cases (a == m) <;> cases (a == -m) <;> cases l.any (· == m) <;> simp

theorem clause_l (v : Int) (hv0 : 0 ≤ v) (hv1 : v ≤ 12) (l : List Int) (hl : l.length ≤ 1099511627776) : ∀ (d i k : Nat), i + d = l.length → (∀ x ∈ l.take i, -12 ≤ x ∧ x ≤ 12) → d + l.length + 1 < k →
    spec_l4Clause.l0 k v l l (l.length : Int) (i : Int) = some (clauseFrom v (l.take i) (l.drop i) && decide (l.length ≤ 12))
  | 0, i, k, h1, hs, hk => by
    obtain ⟨k, rfl⟩ : ∃ m, k = m + 1 := ⟨k - 1, by omega⟩
    simp only [spec_l4Clause.l0]
    rw [if_neg (by omega), List.drop_of_length_le (by omega)]
    simp only [clauseFrom, Bool.true_and]
    congr 2
    exact propext (by omega)
  | d + 1, i, k, h1, hs, hk => by
    obtain ⟨k, rfl⟩ : ∃ m, k = m + 1 := ⟨k - 1, by omega⟩
    have hil : i < l.length := by omega
    have ht : (l.take i).length = i := by rw [List.length_take]; omega
    simp only [spec_l4Clause.l0]
    rw [if_pos (by omega), if_pos (by omega), if_pos (by omega), rd_nat l i hil, next64 (by omega), drop_at l i hil, show ((i : Int).toNat) = i by omega, if_pos (show (i : Int) ≤ (l.length : Int) by omega)]
    simp only [clauseFrom]
    by_cases e0 : l[i] = 0
    · rw [if_pos e0]
      have : litB l[i] v = false := by unfold litB; simp [e0]
      rw [this]
      rfl
    · rw [if_neg e0, specIn_val]
      simp only [Option.bind_some]
      have hlit : litB l[i] v = (decide (wrap64 (-v) ≤ l[i]) && decide (l[i] ≤ v)) := by unfold litB; simp [e0]
      rw [← hlit]
      cases hb : litB l[i] v with
      | false => rfl
      | true =>
        obtain ⟨_, h4, h5⟩ := litB_small hv0 hv1 hb
        rw [if_pos rfl, has_val _ _ (by omega) _ (by omega), neg64 (by omega) (by omega), has_val _ _ (by omega) _ (by omega), any_vab _ _ (by omega) (by omega) hs]
        simp only [Option.bind_some]
        cases (l.take i).any (· == l[i]) with
        | true => rfl
        | false =>
          cases (l.take i).any (· == -l[i]) with
          | true => rfl
          | false =>
            have hst : l.take (i + 1) = l.take i ++ [l[i]] := List.take_succ_eq_append_getElem hil
            have := clause_l v hv0 hv1 l hl d (i + 1) k (by omega) (fun x hx => by
              rw [hst] at hx
              rcases List.mem_append.1 hx with hx | hx
              · exact hs x hx
              · rw [List.mem_singleton.1 hx]
                omega) (by omega)
            rw [hst] at this
            simp only [Bool.false_eq_true, if_false, Bool.or_false, Bool.not_false, Bool.true_and]
            exact this
theorem clause_val (v : Int) (hv0 : 0 ≤ v) (hv1 : v ≤ 12) (l : List Int) (hl : l.length ≤ 1048576) (k : Nat) (hk : 3000000 ≤ k) : spec_l4Clause.f k v l = some (isClauseB l v) := by
  unfold spec_l4Clause.f isClauseB
  have := clause_l v hv0 hv1 l (by omega) l.length 0 k (by omega) (by simp) (by omega)
  simpa using this

def goodB (v : Int) (l : List (List Int)) : Bool := (decide (0 ≤ v) && decide (v ≤ 12)) && (decide (l.length ≤ 60) && l.all fun x => isClauseB x v)
theorem good_l (v : Int) (hv0 : 0 ≤ v) (hv1 : v ≤ 12) (l : List (List Int)) (hl : l.length ≤ 1048576) (hi : ∀ x ∈ l, x.length ≤ 1048576) : ∀ (d i k : Nat), i + d = l.length → d + 3000001 ≤ k → spec_l4Good.l0 k v l (l.length : Int) (i : Int) = some ((l.drop i).all fun x => isClauseB x v)
  | 0, i, k, h1, hk => by
    obtain ⟨k, rfl⟩ : ∃ m, k = m + 1 := ⟨k - 1, by omega⟩
    simp only [spec_l4Good.l0]
    rw [if_neg (by omega), List.drop_of_length_le (by omega)]
    rfl
  | d + 1, i, k, h1, hk => by
    obtain ⟨k, rfl⟩ : ∃ m, k = m + 1 := ⟨k - 1, by omega⟩
    have hil : i < l.length := by omega
    simp only [spec_l4Good.l0]
    rw [if_pos (by omega), if_pos (by omega), if_pos (by omega), rdL_nat l i hil, next64 (by omega), clause_val v hv0 hv1 l[i] (hi _ (List.getElem_mem _)) k (by omega), List.drop_eq_getElem_cons hil, List.all_cons]
    simp only [Option.bind_some]
    cases isClauseB l[i] v with
    | false => rfl
    | true =>
      first | rw [if_pos rfl] | rw [if_true]
      rw [good_l v hv0 hv1 l hl hi d (i + 1) k (by omega) (by omega)]
      rfl
theorem specGood_val (v : Int) (l : List (List Int)) (hl : l.length ≤ 1048576) (hi : ∀ x ∈ l, x.length ≤ 1048576) (k : Nat) (hk : 5000000 ≤ k) : spec_GoodClauses.f k v l = some (goodB v l) := by
  obtain ⟨k, rfl⟩ : ∃ m, k = m + 1 := ⟨k - 1, by omega⟩
  unfold spec_GoodClauses.f spec_l4Good.f goodB
  rw [specIn_val]
  simp only [Option.bind_some, spec_l4Good.j0]
  by_cases hv : 0 ≤ v ∧ v ≤ 12
  · rw [show (decide (0 ≤ v) && decide (v ≤ 12)) = true by simp [hv.1, hv.2], if_pos rfl]
    by_cases h60 : l.length ≤ 60
    · have : decide ((l.length : Int) > 60) = false := decide_eq_false (by omega)
      rw [this, if_neg Bool.false_ne_true]
      have h := good_l v hv.1 hv.2 l hl hi l.length 0 k (by omega) (by omega)
      simp only [List.drop_zero] at h
      rw [show ((0 : Nat) : Int) = 0 from rfl] at h
      rw [h]
      simp [h60]
    · have : decide ((l.length : Int) > 60) = true := decide_eq_true (by omega)
      rw [this]
      first | rw [if_pos rfl] | rw [if_true]
      simp [h60]
  · have hd : (decide (0 ≤ v) && decide (v ≤ 12)) = false := by
      rw [Bool.and_eq_false_iff]
      rcases Int.lt_or_le v 0 with h | h
      · exact .inl (decide_eq_false (by omega))
      · exact .inr (decide_eq_false (by omega))
    rw [hd, if_neg Bool.false_ne_true]
    first | rw [if_pos rfl] | rw [if_true]
    rfl
theorem implIn_val (n a b : Int) : impl_in.f n a b = some (decide (a ≤ n) && decide (n ≤ b)) := by
  unfold impl_in.f
  by_cases h : n ≥ a
  · rw [if_pos h]
    simp [h]
  · rw [if_neg h]
    simp [h]
theorem implGood_val (v : Int) (l : List (List Int)) : impl_GoodClauses.f v l = some (goodB v l) := by
  unfold impl_GoodClauses.f impl_areClauses.f goodB
  rw [implIn_val]
  simp only [Option.bind_some]
  cases (decide (0 ≤ v) && decide (v ≤ 12)) with
  | false => rfl
  | true =>
    first | rw [if_pos rfl] | rw [if_true]
    by_cases h60 : l.length ≤ 60
    · rw [if_pos (by omega)]
      simp [h60, List.all_eq_not_any_not]
    · rw [if_neg (by omega)]
      simp [h60]
theorem goodB_facts {v : Int} {l : List (List Int)} (h : goodB v l = true) : 0 ≤ v ∧ v ≤ 12 ∧ l.length ≤ 60 ∧ ∀ x ∈ l, isClauseB x v = true := by
  unfold goodB at h
  simp only [Bool.and_eq_true, decide_eq_true_eq, List.all_eq_true] at h
  exact ⟨h.1.1, h.1.2, h.2.1, h.2.2⟩

theorem clause_lits (v : Int) : ∀ (l seen : List Int), clauseFrom v seen l = true → ∀ n ∈ l, litB n v = true
  | [], _, _, n, hn => by simp at hn
  | a :: r, seen, h, n, hn => by
    unfold clauseFrom at h
    simp only [Bool.and_eq_true] at h
    rcases List.mem_cons.1 hn with rfl | hn
    · exact h.1
    · exact clause_lits v r _ h.2.2 n hn
theorem isClause_facts {v : Int} {c : List Int} (h : isClauseB c v = true) : c.length ≤ 12 ∧ ∀ n ∈ c, litB n v = true := by
  unfold isClauseB at h
  simp only [Bool.and_eq_true, decide_eq_true_eq] at h
  exact ⟨h.2, clause_lits v c [] h.1⟩

theorem goodB_lits {v : Int} {l : List (List Int)} (h : goodB v l = true) : ∀ c ∈ l, c.length ≤ 12 ∧ ∀ n ∈ c, n ≠ 0 ∧ -v ≤ n ∧ n ≤ v := by
  obtain ⟨h0, h1, _, h2⟩ := goodB_facts h
  intro c hc
  obtain ⟨a, b⟩ := isClause_facts (h2 c hc)
  exact ⟨a, fun n hn => litB_small h0 h1 (b n hn)⟩

theorem filter_lt {α : Type} (p q : α → Bool) : ∀ (l : List α), (∀ a, q a = true → p a = true) → (∃ a ∈ l, p a = true ∧ q a = false) → (l.filter q).length < (l.filter p).length
  | [], _, ⟨a, ha, _⟩ => by simp at ha
  | b :: l, h, ⟨a, ha, hp, hq⟩ => by
    have hle : ∀ l : List α, (l.filter q).length ≤ (l.filter p).length := by
      intro l
      induction l with
      | nil => simp
      | cons c l ih =>
        cases hqc : q c with
        | true =>
          rw [List.filter_cons_of_pos hqc, List.filter_cons_of_pos (h c hqc)]
          simpa using ih
        | false =>
          rw [List.filter_cons_of_neg (by simp [hqc])]
          cases hpc : p c with
          | true =>
            rw [List.filter_cons_of_pos hpc]
            simp
            omega
          | false =>
            rw [List.filter_cons_of_neg (by simp [hpc])]
            exact ih
    rcases List.mem_cons.1 ha with rfl | ha
    · rw [List.filter_cons_of_neg (by simp [hq]), List.filter_cons_of_pos hp]
      have := hle l
      simp
      omega
    · have ih := filter_lt p q l h ⟨a, ha, hp, hq⟩
      cases hqb : q b with
      | true =>
        rw [List.filter_cons_of_pos hqb, List.filter_cons_of_pos (h b hqb)]
        simpa using ih
      | false =>
        rw [List.filter_cons_of_neg (by simp [hqb])]
        cases hpb : p b with
        | true =>
          rw [List.filter_cons_of_pos hpb]
          simp
          omega
        | false =>
          rw [List.filter_cons_of_neg (by simp [hpb])]
          exact ih
theorem hasB_app (l : List Int) (x n : Int) : hasB (l ++ [x]) n = (hasB l n || x == n) := by simp [hasB]
/-- The variables (less 1) of which no literal is there. -/
def freeV (out : List Int) : Nat := ((List.range 12).filter fun (i : Nat) => !(hasB out ((i : Int) + 1) || hasB out (-((i : Int) + 1)))).length
theorem freeV_lt (out : List Int) (x : Int) (h0 : x ≠ 0) (h1 : -12 ≤ x) (h2 : x ≤ 12) (h3 : hasB out x = false) (h4 : hasB out (-x) = false) : freeV (out ++ [x]) < freeV out := by
  unfold freeV
  refine filter_lt _ _ _ (fun i hi => ?_) ⟨x.natAbs - 1, by rw [List.mem_range]; omega, ?_, ?_⟩
  · simp only [hasB_app] at hi
    cases ha : hasB out ((i : Int) + 1) <;> cases hb : hasB out (-((i : Int) + 1)) <;> simp_all
  · rcases Int.lt_or_le x 0 with h | h
    · have e : ((x.natAbs - 1 : Nat) : Int) + 1 = -x := by omega
      rw [e, h4, Int.neg_neg, h3]
      rfl
    · have e : ((x.natAbs - 1 : Nat) : Int) + 1 = x := by omega
      rw [e, h3, h4]
      rfl
  · simp only [hasB_app]
    rcases Int.lt_or_le x 0 with h | h
    · have e : ((x.natAbs - 1 : Nat) : Int) + 1 = -x := by omega
      rw [e, Int.neg_neg]
      simp
    · have e : ((x.natAbs - 1 : Nat) : Int) + 1 = x := by omega
      rw [e]
      simp
theorem freeV_le (out : List Int) : freeV out ≤ 12 := by
  unfold freeV
  exact Nat.le_trans (List.length_filter_le _ _) (by simp)
def unitS (out : List Int) : Int → Int → List Int → Int × Bool
  | left, many, [] => if many = 0 then (0, true) else if many = 1 then (left, false) else (0, false)
  | left, many, x :: r => if hasB out x = true then (0, false) else if hasB out (wrap64 (-x)) = true then unitS out left many r else unitS out x (many + 1) r
def unitP (out c : List Int) : Int × Bool := if meetsB c out = true then (0, false) else match withoutL c out with | [] => (0, true) | [x] => (x, false) | _ => (0, false)
theorem unitS_val (out : List Int) : ∀ (r : List Int) (left many : Int), 0 ≤ many → unitS out left many r = if meetsB r out = true then (0, false) else
    if many + ((withoutL r out).length : Int) = 0 then (0, true) else if many + ((withoutL r out).length : Int) = 1 then ((withoutL r out).getLast?.getD left, false) else (0, false)
  | [], left, many, h => by
    unfold unitS
    simp [meetsB, withoutL]
  | x :: r, left, many, h => by
    unfold unitS
    rw [meets_cons, without_cons]
    cases hasB out x with
    | true => simp
    | false =>
      rw [if_neg Bool.false_ne_true, Bool.false_or]
      cases hasB out (wrap64 (-x)) with
      | true =>
        simp only [if_true]
        exact unitS_val out r left many h
      | false =>
        rw [if_neg Bool.false_ne_true, if_neg Bool.false_ne_true, unitS_val out r x (many + 1) (by omega)]
        have e1 : ((x :: withoutL r out).length : Int) = ((withoutL r out).length : Int) + 1 := by simp
        rw [e1, show many + 1 + ((withoutL r out).length : Int) = many + (((withoutL r out).length : Int) + 1) by omega]
        cases hL : withoutL r out with
        | nil => simp
        | cons y t => simp [List.getLast?_cons]
theorem unitS_P (out c : List Int) : unitS out 0 0 c = unitP out c := by
  rw [unitS_val out c 0 0 (by omega)]
  unfold unitP
  cases meetsB c out with
  | true => rfl
  | false =>
    rw [if_neg Bool.false_ne_true, if_neg Bool.false_ne_true]
    match h : withoutL c out with
    | [] => simp
    | [x] => simp
    | x :: y :: t =>
      rw [if_neg (by simp; omega), if_neg (by simp; omega)]
theorem specUnit_l (out c : List Int) (ho : out.length ≤ 100000) (hc : c.length ≤ 1000) : ∀ (d j k : Nat) (left : Int) (many : Nat), j + d = c.length → many ≤ j → d + 200000 ≤ k → spec_l4Unit.l0 k out left (many : Int) c (c.length : Int) (j : Int) = some (unitS out left (many : Int) (c.drop j))
  | 0, j, k, left, many, h1, h2, hk => by
    obtain ⟨k, rfl⟩ : ∃ m, k = m + 1 := ⟨k - 1, by omega⟩
    simp only [spec_l4Unit.l0]
    rw [if_neg (by omega), List.drop_of_length_le (by omega)]
    unfold unitS
    split
    · rfl
    · split
      · rfl
      · rfl
  | d + 1, j, k, left, many, h1, h2, hk => by
    obtain ⟨k, rfl⟩ : ∃ m, k = m + 1 := ⟨k - 1, by omega⟩
    have hj : j < c.length := by omega
    simp only [spec_l4Unit.l0]
    rw [if_pos (by omega), if_pos (by omega), if_pos (by omega), rd_nat c j hj, next64 (by omega), has_val out _ (by omega) k (by omega), has_val out _ (by omega) k (by omega), drop_at c j hj]
    unfold unitS hasB
    simp only [Option.bind_some]
    cases out.any (· == c[j]) with
    | true => rfl
    | false =>
      rw [if_neg Bool.false_ne_true, if_neg Bool.false_ne_true]
      cases out.any (· == wrap64 (-c[j])) with
      | true =>
        simp only [if_true]
        exact specUnit_l out c ho hc d (j + 1) k left many (by omega) (by omega) (by omega)
      | false =>
        rw [if_neg Bool.false_ne_true, if_neg Bool.false_ne_true, next64 (by omega)]
        exact specUnit_l out c ho hc d (j + 1) k c[j] (many + 1) (by omega) (by omega) (by omega)
theorem specUnit_val (out c : List Int) (ho : out.length ≤ 100000) (hc : c.length ≤ 1000) (k : Nat) (hk : 300000 ≤ k) : spec_l4Unit.f k c out = some (unitP out c) := by
  unfold spec_l4Unit.f
  have := specUnit_l out c ho hc c.length 0 k 0 0 (by omega) (by omega) (by omega)
  rw [show ((0 : Nat) : Int) = 0 from rfl, List.drop_zero, unitS_P] at this
  exact this
/-- What one run through the clauses finds: nothing, a clause that is falsified, a literal. -/
def scanC (out : List Int) : List (List Int) → Option (Option Int)
  | [] => none
  | c :: r => if (unitP out c).2 = true then some none else if (unitP out c).1 = 0 then scanC out r else some (some (unitP out c).1)
def propL (l : List (List Int)) : Nat → List Int → List Int × Bool
  | 0, out => (out, false)
  | f + 1, out => match scanC out l with | none => (out, false) | some none => (out, true) | some (some x) => propL l f (out ++ [x])
def LitsOk (l : List (List Int)) : Prop := ∀ c ∈ l, c.length ≤ 1000 ∧ ∀ n ∈ c, n ≠ 0 ∧ -12 ≤ n ∧ n ≤ 12
theorem unitP_lit (out c : List Int) (hc : ∀ n ∈ c, n ≠ 0 ∧ -12 ≤ n ∧ n ≤ 12) (h : (unitP out c).1 ≠ 0) : (unitP out c).2 = false ∧ (unitP out c).1 ∈ c ∧ hasB out (unitP out c).1 = false ∧ hasB out (-(unitP out c).1) = false := by
  unfold unitP at h ⊢
  cases hm : meetsB c out with
  | true => rw [hm] at h; simp at h
  | false =>
    rw [hm] at h
    rw [if_neg Bool.false_ne_true] at h ⊢
    match hw : withoutL c out with
    | [] => rw [hw] at h; simp at h
    | x :: y :: t => rw [hw] at h; simp at h
    | [x] =>
      have hx : x ∈ withoutL c out := by rw [hw]; simp
      unfold withoutL at hx
      rw [List.mem_filter, any_flip] at hx
      obtain ⟨h1, h2⟩ := hx
      obtain ⟨_, b1, b2⟩ := hc x h1
      rw [neg64 (by omega) (by omega)] at h2
      refine ⟨rfl, h1, ?_, by simpa [hasB] using h2⟩
      unfold meetsB at hm
      have := List.any_eq_false.1 hm x h1
      rw [any_flip] at this
      exact Bool.eq_false_iff.mpr this
theorem scan_lit (out : List Int) : ∀ (l : List (List Int)) (x : Int), LitsOk l → scanC out l = some (some x) → x ≠ 0 ∧ -12 ≤ x ∧ x ≤ 12 ∧ hasB out x = false ∧ hasB out (-x) = false
  | [], x, _, h => by simp [scanC] at h
  | c :: r, x, hl, h => by
    unfold scanC at h
    have hc := (hl c List.mem_cons_self).2
    split at h
    · simp at h
    · split at h
      · exact scan_lit out r x (fun c' h' => hl c' (List.mem_cons_of_mem _ h')) h
      · rename_i h2
        injection h with h
        injection h with h
        subst h
        obtain ⟨_, hm, h3, h4⟩ := unitP_lit out c hc h2
        obtain ⟨a, b, d⟩ := hc _ hm
        exact ⟨a, b, d, h3, h4⟩
theorem prop_same (l : List (List Int)) (hl : LitsOk l) : ∀ (f f' : Nat) (out : List Int), freeV out < f → freeV out < f' → propL l f out = propL l f' out
  | 0, _, _, h, _ => by omega
  | _ + 1, 0, _, _, h => by omega
  | f + 1, f' + 1, out, h, h' => by
    unfold propL
    match hs : scanC out l with
    | none => rfl
    | some none => rfl
    | some (some x) =>
      obtain ⟨a, b, c, d, e⟩ := scan_lit out l x hl hs
      have := freeV_lt out x a b c d e
      exact prop_same l hl f f' _ (by omega) (by omega)
/-- The place of the clause at which a run ends. -/
def scanAt (out : List Int) : List (List Int) → Nat
  | [] => 0
  | c :: r => if (unitP out c).2 = true then 0 else if (unitP out c).1 = 0 then scanAt out r + 1 else 0
theorem specProp_scan (l : List (List Int)) (hl : LitsOk l) (hn : l.length ≤ 1048576) (out : List Int) (ho : out.length ≤ 100000) : ∀ (d i k : Nat), i + d = l.length → 300001 + d ≤ k →
    ∃ j, k - d - 1 ≤ j ∧ j < k ∧ spec_l4Propagate.l1 k l out false l (l.length : Int) (i : Int) = match scanC out (l.drop i) with | none => spec_l4Propagate.l0 j l out false | some none => some (out, true) | some (some x) => spec_l4Propagate.l0 j l (out ++ [x]) true
  | 0, i, k, h1, hk => by
    obtain ⟨k, rfl⟩ : ∃ m, k = m + 1 := ⟨k - 1, by omega⟩
    simp only [spec_l4Propagate.l1]
    rw [if_neg (by omega), List.drop_of_length_le (by omega)]
    exact ⟨k, by omega, by omega, rfl⟩
  | d + 1, i, k, h1, hk => by
    obtain ⟨k, rfl⟩ : ∃ m, k = m + 1 := ⟨k - 1, by omega⟩
    have hil : i < l.length := by omega
    obtain ⟨c1, c2⟩ := hl l[i] (List.getElem_mem _)
    simp only [spec_l4Propagate.l1]
    rw [if_pos (by omega), if_pos (by omega), if_pos (by omega), rdL_nat l i hil, next64 (by omega), specUnit_val out l[i] ho c1 k (by omega), List.drop_eq_getElem_cons hil]
    unfold scanC
    simp only [Option.bind_some]
    by_cases hb : (unitP out l[i]).2 = true
    · rw [if_pos hb, if_pos hb]
      exact ⟨k, by omega, by omega, rfl⟩
    · rw [if_neg hb, if_neg hb]
      by_cases h0 : (unitP out l[i]).1 = 0
      · rw [if_pos h0, if_pos h0]
        obtain ⟨j, hj1, hj2, hj⟩ := specProp_scan l hl hn out ho d (i + 1) k (by omega) (by omega)
        exact ⟨j, by omega, by omega, hj⟩
      · rw [if_neg h0, if_neg h0, if_pos (by omega)]
        exact ⟨k, by omega, by omega, rfl⟩
theorem specProp_l (l : List (List Int)) (hl : LitsOk l) (hn : l.length ≤ 1048576) : ∀ (f : Nat) (out : List Int) (k : Nat), freeV out < f → out.length + f ≤ 100000 → f * (l.length + 3) + 300010 ≤ k → spec_l4Propagate.l0 k l out true = some (propL l f out)
  | 0, _, _, h, _, _ => by omega
  | f + 1, out, k, h, ho, hk => by
    obtain ⟨k, rfl⟩ : ∃ m, k = m + 1 := ⟨k - 1, by omega⟩
    have hm : (f + 1) * (l.length + 3) = f * (l.length + 3) + (l.length + 3) := Nat.succ_mul _ _
    simp only [spec_l4Propagate.l0, if_true]
    obtain ⟨j, hj1, hj2, hj⟩ := specProp_scan l hl hn out (by omega) l.length 0 k (by omega) (by omega)
    rw [show ((0 : Nat) : Int) = 0 from rfl, List.drop_zero] at hj
    rw [hj]
    unfold propL
    match hs : scanC out l with
    | none =>
      obtain ⟨j', rfl⟩ : ∃ m, j = m + 1 := ⟨j - 1, by omega⟩
      simp [spec_l4Propagate.l0]
    | some none => rfl
    | some (some x) =>
      obtain ⟨a, b, c, d, e⟩ := scan_lit out l x hl hs
      have := freeV_lt out x a b c d e
      exact specProp_l l hl hn f (out ++ [x]) j (by omega) (by simp; omega) (by omega)
theorem implProp_scan (l : List (List Int)) (hl : LitsOk l) (hn : l.length ≤ 1048576) (out : List Int) (ho : out.length ≤ 100000) : ∀ (d i k : Nat), i + d = l.length → 1 + d ≤ k →
    ∃ j, k - d - 1 ≤ j ∧ j < k ∧ impl_propagate.l1 k l out false l (l.length : Int) (i : Int) = match scanC out (l.drop i) with | none => some (out, false) | some none => some (out, true) | some (some x) => impl_propagate.l0 j l (out ++ [x])
  | 0, i, k, h1, hk => by
    obtain ⟨k, rfl⟩ : ∃ m, k = m + 1 := ⟨k - 1, by omega⟩
    simp only [impl_propagate.l1]
    rw [if_neg (by omega), List.drop_of_length_le (by omega), if_neg Bool.false_ne_true]
    exact ⟨k, by omega, by omega, rfl⟩
  | d + 1, i, k, h1, hk => by
    obtain ⟨k, rfl⟩ : ∃ m, k = m + 1 := ⟨k - 1, by omega⟩
    have hil : i < l.length := by omega
    obtain ⟨c1, c2⟩ := hl l[i] (List.getElem_mem _)
    obtain ⟨j, hj1, hj2, hj⟩ := implProp_scan l hl hn out ho d (i + 1) k (by omega) (by omega)
    simp only [impl_propagate.l1, impl_meets.f, impl_without.f]
    rw [if_pos (by omega), if_pos (by omega), if_pos (by omega), rdL_nat l i hil, next64 (by omega), if_pos (by omega), List.drop_eq_getElem_cons hil]
    unfold scanC
    simp only [Option.bind_some]
    cases hm : meetsB l[i] out with
    | true =>
      have hu : unitP out l[i] = (0, false) := by unfold unitP; rw [hm]; rfl
      rw [hu]
      simp only [if_true]
      exact ⟨j, by omega, by omega, by simpa using hj⟩
    | false =>
      rw [if_neg Bool.false_ne_true]
      match hw : withoutL l[i] out with
      | [] =>
        have hu : unitP out l[i] = (0, true) := by unfold unitP; rw [hm, hw]; rfl
        rw [hu]
        exact ⟨k, by omega, by omega, by simp⟩
      | [x] =>
        have hu : unitP out l[i] = (x, false) := by unfold unitP; rw [hm, hw]; rfl
        have hx : x ∈ l[i] := by
          have : x ∈ withoutL l[i] out := by rw [hw]; simp
          unfold withoutL at this
          exact (List.mem_filter.1 this).1
        have h0 := (c2 x hx).1
        rw [hu]
        refine ⟨k, by omega, by omega, ?_⟩
        simp only [List.length_singleton]
        rw [if_neg (by decide), if_pos (by decide), if_pos (by decide), if_pos (by omega), if_neg Bool.false_ne_true, if_neg h0]
        rfl
      | x :: y :: t =>
        have hu : unitP out l[i] = (0, false) := by unfold unitP; rw [hm, hw]; rfl
        rw [hu]
        refine ⟨j, by omega, by omega, ?_⟩
        rw [if_neg (by simp; omega), if_neg (by simp; omega)]
        simpa using hj
theorem implProp_l (l : List (List Int)) (hl : LitsOk l) (hn : l.length ≤ 1048576) : ∀ (f : Nat) (out : List Int) (k : Nat), freeV out < f → out.length + f ≤ 100000 → f * (l.length + 3) + 10 ≤ k → impl_propagate.l0 k l out = some (propL l f out)
  | 0, _, _, h, _, _ => by omega
  | f + 1, out, k, h, ho, hk => by
    obtain ⟨k, rfl⟩ : ∃ m, k = m + 1 := ⟨k - 1, by omega⟩
    have hm : (f + 1) * (l.length + 3) = f * (l.length + 3) + (l.length + 3) := Nat.succ_mul _ _
    simp only [impl_propagate.l0]
    obtain ⟨j, hj1, hj2, hj⟩ := implProp_scan l hl hn out (by omega) l.length 0 k (by omega) (by omega)
    rw [show ((0 : Nat) : Int) = 0 from rfl, List.drop_zero] at hj
    rw [hj]
    unfold propL
    match hs : scanC out l with
    | none => rfl
    | some none => rfl
    | some (some x) =>
      obtain ⟨a, b, c, d, e⟩ := scan_lit out l x hl hs
      have := freeV_lt out x a b c d e
      exact implProp_l l hl hn f (out ++ [x]) j (by omega) (by simp; omega) (by omega)
/-- Unit propagation. -/
def propP (l : List (List Int)) (given : List Int) : List Int × Bool := propL l 13 given
theorem specProp_val (l : List (List Int)) (hl : LitsOk l) (hn : l.length ≤ 10000) (g : List Int) (hg : g.length ≤ 10000) (k : Nat) (hk : 3000000 ≤ k) : spec_l4Propagate.f k l g = some (propP l g) := by
  unfold spec_l4Propagate.f propP
  simp only [Option.bind_some, List.nil_append, List.length_nil]
  rw [if_pos (by omega)]
  exact specProp_l l hl (by omega) 13 g k (by have := freeV_le g; omega) (by omega) (by omega)
theorem implProp_val (l : List (List Int)) (hl : LitsOk l) (hn : l.length ≤ 10000) (g : List Int) (hg : g.length ≤ 10000) (k : Nat) (hk : 3000000 ≤ k) : impl_propagate.f k l g = some (propP l g) := by
  unfold impl_propagate.f slices_Clone_int_int.f propP
  rw [if_pos (by omega)]
  simp only [Option.bind_some]
  exact implProp_l l hl (by omega) 13 g k (by have := freeV_le g; omega) (by omega) (by omega)
theorem good_litsOk {v : Int} {l : List (List Int)} (h : goodB v l = true) : LitsOk l := by
  obtain ⟨h0, h1, _, _⟩ := goodB_facts h
  intro c hc
  obtain ⟨a, b⟩ := goodB_lits h c hc
  exact ⟨by omega, fun n hn => by have := b n hn; omega⟩

theorem propL_length (l : List (List Int)) : ∀ (f : Nat) (out : List Int), (propL l f out).1.length ≤ out.length + f
  | 0, out => by simp [propL]
  | f + 1, out => by
    unfold propL
    match scanC out l with
    | none => simp
    | some none => simp
    | some (some x) =>
      have := propL_length l f (out ++ [x])
      simp at this
      simp
      omega
/-- The first variable from x on of which literals tell neither way; 0 if none. -/
def firstV (out : List Int) : Nat → Int → Int
  | 0, _ => 0
  | d + 1, x => if hasB out x = true then firstV out d (x + 1) else if hasB out (-x) = true then firstV out d (x + 1) else x
theorem specFirst_l (v : Int) (out : List Int) (ho : out.length ≤ 100000) (hv : v ≤ 12) : ∀ (d : Nat) (x : Int) (k : Nat), x + d = v + 1 → 1 ≤ x → d + 200000 ≤ k → spec_l5First.l0 k v out x = some (firstV out d x)
  | 0, x, k, h1, h2, hk => by
    obtain ⟨k, rfl⟩ : ∃ m, k = m + 1 := ⟨k - 1, by omega⟩
    simp only [spec_l5First.l0]
    rw [if_neg (by omega)]
    rfl
  | d + 1, x, k, h1, h2, hk => by
    obtain ⟨k, rfl⟩ : ∃ m, k = m + 1 := ⟨k - 1, by omega⟩
    simp only [spec_l5First.l0]
    rw [if_pos (by omega), has_val out x (by omega) k (by omega), neg64 (by omega) (by omega), has_val out (-x) (by omega) k (by omega), w64 (by omega) (by omega)]
    unfold firstV hasB
    simp only [Option.bind_some]
    have ih := specFirst_l v out ho hv d (x + 1) k (by omega) (by omega) (by omega)
    cases out.any (· == x) with
    | true => simpa using ih
    | false =>
      rw [if_neg Bool.false_ne_true, if_neg Bool.false_ne_true]
      cases out.any (· == -x) with
      | true => simpa using ih
      | false => simp
theorem implDecide_l (v : Int) (out : List Int) (hv : v ≤ 12) : ∀ (d : Nat) (x : Int) (k : Nat), x + d = v + 1 → 1 ≤ x → d < k → impl_decide.l0 k v out x = some (firstV out d x, decide (firstV out d x ≠ 0))
  | 0, x, k, h1, h2, hk => by
    obtain ⟨k, rfl⟩ : ∃ m, k = m + 1 := ⟨k - 1, by omega⟩
    simp only [impl_decide.l0]
    rw [if_neg (by omega)]
    rfl
  | d + 1, x, k, h1, h2, hk => by
    obtain ⟨k, rfl⟩ : ∃ m, k = m + 1 := ⟨k - 1, by omega⟩
    simp only [impl_decide.l0, slices_Contains_int_int.f, any_flip, Option.bind_some]
    rw [if_pos (by omega), neg64 (by omega) (by omega), w64 (by omega) (by omega)]
    unfold firstV hasB
    have ih := implDecide_l v out hv d (x + 1) k (by omega) (by omega) (by omega)
    cases out.any (· == x) with
    | true => simpa using ih
    | false =>
      rw [if_neg Bool.false_ne_true, if_neg Bool.false_ne_true]
      cases out.any (· == -x) with
      | true => simpa using ih
      | false =>
        have : x ≠ 0 := by omega
        simp [this]
theorem specFirst_val (v : Int) (out : List Int) (ho : out.length ≤ 100000) (h0 : 0 ≤ v) (hv : v ≤ 12) (k : Nat) (hk : 3000000 ≤ k) : spec_l5First.f k v out = some (firstV out v.toNat 1) := by
  unfold spec_l5First.f
  exact specFirst_l v out ho hv v.toNat 1 k (by omega) (by omega) (by omega)
theorem implDecide_val (v : Int) (out : List Int) (h0 : 0 ≤ v) (hv : v ≤ 12) (k : Nat) (hk : 3000000 ≤ k) : impl_decide.f k v out = some (firstV out v.toNat 1, decide (firstV out v.toNat 1 ≠ 0)) := by
  unfold impl_decide.f
  exact implDecide_l v out hv v.toNat 1 k (by omega) (by omega) (by omega)

theorem negate_l (l : List Int) (hl : l.length ≤ 1048576) : ∀ (d i k : Nat) (y : List Int), i + d = l.length → y.length = i → d < k → spec_l5Negate.l0 k y l (l.length : Int) (i : Int) = some (y ++ (l.drop i).map fun x => wrap64 (-x))
  | 0, i, k, y, h1, h2, hk => by
    obtain ⟨k, rfl⟩ : ∃ m, k = m + 1 := ⟨k - 1, by omega⟩
    simp only [spec_l5Negate.l0]
    rw [if_neg (by omega), List.drop_of_length_le (by omega)]
    simp
  | d + 1, i, k, y, h1, h2, hk => by
    obtain ⟨k, rfl⟩ : ∃ m, k = m + 1 := ⟨k - 1, by omega⟩
    simp only [spec_l5Negate.l0]
    rw [if_pos (by omega), if_pos (by omega), if_pos (by omega), if_pos (by omega), rd_nat l i (by omega), next64 (by omega), negate_l l hl d (i + 1) k _ (by omega) (by simp [h2]) (by omega), drop_at l i (by omega), List.map_cons, List.append_assoc]
    rfl
theorem negate_val (l : List Int) (hl : l.length ≤ 1048576) (k : Nat) (hk : l.length < k) : spec_l5Negate.f k l = some (l.map fun x => wrap64 (-x)) := by
  unfold spec_l5Negate.f
  have := negate_l l hl l.length 0 k [] (by omega) rfl hk
  simpa using this

theorem learn_same : ∀ (k : Nat) (a b : List Int) (c d : Int), impl_learn.l0 k a b c d = spec_l5Negate.l0 k a b c d
  | 0, _, _, _, _ => rfl
  | k + 1, a, b, c, d => by
    simp only [impl_learn.l0, spec_l5Negate.l0, learn_same k]
theorem learn_val (l : List Int) (hl : l.length ≤ 1048576) (k : Nat) (hk : l.length < k) : impl_learn.f k l = some (l.map fun x => wrap64 (-x)) :=
  (learn_same ..).trans (negate_val l hl k hk)

def negL (l : List Int) : List Int := l.map fun x => wrap64 (-x)

def modelZ (v : Nat) (out : List Int) : List Bool := (List.range v).map fun (i : Nat) => hasB out ((i : Int) + 1)
/-- The decisions are new variables, each. -/
def DecOk (v : Int) (d : List Int) : Prop := ∀ (i : Nat) (x : Int), d[i]? = some x → 1 ≤ x ∧ x ≤ v ∧ hasB (d.take i) x = false ∧ hasB (d.take i) (-x) = false
theorem decOk_nil (v : Int) : DecOk v [] := fun i x h => by simp at h
theorem decOk_take {v : Int} {d : List Int} (h : DecOk v d) (j : Nat) : DecOk v (d.take j) := by
  intro i x hx
  rw [List.getElem?_take] at hx
  split at hx
  · rename_i hij
    obtain ⟨a, b, c, e⟩ := h i x hx
    rw [List.take_take, Nat.min_eq_left (by omega)]
    exact ⟨a, b, c, e⟩
  · cases hx
theorem decOk_drop {v : Int} {d : List Int} (h : DecOk v d) : DecOk v d.dropLast := by
  rw [List.dropLast_eq_take]
  exact decOk_take h _
theorem decOk_snoc {v : Int} {d : List Int} (h : DecOk v d) (x : Int) (h1 : 1 ≤ x) (h2 : x ≤ v) (h3 : hasB d x = false) (h4 : hasB d (-x) = false) : DecOk v (d ++ [x]) := by
  intro i y hy
  rcases Nat.lt_trichotomy i d.length with hi | hi | hi
  · rw [List.getElem?_append_left hi] at hy
    rw [List.take_append_of_le_length (by omega)]
    exact h i y hy
  · subst hi
    rw [List.getElem?_append_right (Nat.le_refl _)] at hy
    simp at hy
    subst hy
    rw [List.take_left']
    exact ⟨h1, h2, h3, h4⟩
    rfl
  · rw [List.getElem?_eq_none (by simp; omega)] at hy
    cases hy
theorem decOk_mem {v : Int} {d : List Int} (h : DecOk v d) : ∀ x ∈ d, 1 ≤ x ∧ x ≤ v := by
  intro x hx
  obtain ⟨i, hi, rfl⟩ := List.mem_iff_getElem.1 hx
  obtain ⟨a, b, _, _⟩ := h i d[i] (List.getElem?_eq_getElem hi)
  exact ⟨a, b⟩
theorem decOk_len {v : Int} {d : List Int} (hv : v ≤ 12) (h : DecOk v d) : ∀ i : Nat, i ≤ d.length → freeV (d.take i) + i ≤ 12
  | 0, _ => by
    have := freeV_le (d.take 0)
    omega
  | i + 1, hi => by
    have ih := decOk_len hv h i (by omega)
    have hil : i < d.length := by omega
    obtain ⟨a, b, c, e⟩ := h i d[i] (List.getElem?_eq_getElem hil)
    rw [List.take_succ_eq_append_getElem hil]
    have := freeV_lt (d.take i) d[i] (by omega) (by omega) (by omega) c e
    omega
theorem decOk_le {v : Int} {d : List Int} (hv : v ≤ 12) (h : DecOk v d) : d.length ≤ 12 := by
  have := decOk_len hv h d.length (Nat.le_refl _)
  omega
theorem hasB_mem {l : List Int} {n : Int} : hasB l n = true ↔ n ∈ l := by
  unfold hasB
  rw [List.any_eq_true]
  exact ⟨fun ⟨x, hx, he⟩ => by have : x = n := by simpa using he
                               exact this ▸ hx, fun h => ⟨n, h, by simp⟩⟩
theorem hasB_no {l : List Int} {n : Int} : hasB l n = false ↔ n ∉ l := by
  rw [← hasB_mem]
  simp
theorem scan_mem (out : List Int) : ∀ (l : List (List Int)) (x : Int), LitsOk l → scanC out l = some (some x) → ∃ c ∈ l, x ∈ c
  | [], x, _, h => by simp [scanC] at h
  | c :: r, x, hl, h => by
    unfold scanC at h
    have hc := (hl c List.mem_cons_self).2
    split at h
    · simp at h
    · split at h
      · obtain ⟨c', h1, h2⟩ := scan_mem out r x (fun c' h' => hl c' (List.mem_cons_of_mem _ h')) h
        exact ⟨c', List.mem_cons_of_mem _ h1, h2⟩
      · rename_i h2
        injection h with h
        injection h with h
        subst h
        exact ⟨c, List.mem_cons_self, (unitP_lit out c hc h2).2.1⟩
theorem propL_pre (l : List (List Int)) : ∀ (f : Nat) (out : List Int), ∃ t, (propL l f out).1 = out ++ t
  | 0, out => ⟨[], by simp [propL]⟩
  | f + 1, out => by
    unfold propL
    match scanC out l with
    | none => exact ⟨[], by simp⟩
    | some none => exact ⟨[], by simp⟩
    | some (some x) =>
      obtain ⟨t, ht⟩ := propL_pre l f (out ++ [x])
      exact ⟨x :: t, by simp only [ht]; simp⟩
/-- Whatever the given literals and those of the clauses are, the derived ones are. -/
theorem propL_all (P : Int → Prop) (l : List (List Int)) (hl : LitsOk l) (hP : ∀ c ∈ l, ∀ n ∈ c, P n) : ∀ (f : Nat) (out : List Int), (∀ n ∈ out, P n) → ∀ n ∈ (propL l f out).1, P n
  | 0, out, h => by simpa [propL] using h
  | f + 1, out, h => by
    unfold propL
    match hs : scanC out l with
    | none => exact h
    | some none => exact h
    | some (some x) =>
      obtain ⟨c, h1, h2⟩ := scan_mem out l x hl hs
      exact propL_all P l hl hP f (out ++ [x]) (fun n hn => by
        rcases List.mem_append.1 hn with hn | hn
        · exact h n hn
        · have : n = x := by simpa using hn
          exact this ▸ hP c h1 x h2)
/-- No variable both ways. -/
def Cons (out : List Int) : Prop := ∀ n ∈ out, hasB out (-n) = false
theorem cons_snoc {out : List Int} (h : Cons out) (x : Int) (h0 : x ≠ 0) (h1 : hasB out (-x) = false) : Cons (out ++ [x]) := by
  intro n hn
  rw [hasB_app]
  rcases List.mem_append.1 hn with hn | hn
  · rw [h n hn, Bool.false_or]
    cases e : x == -n with
    | false => rfl
    | true =>
      have : x = -n := by simpa using e
      have h2 : n = -x := by omega
      rw [h2] at hn
      rw [hasB_mem.2 hn] at h1
      cases h1
  · have : n = x := by simpa using hn
    subst this
    rw [h1, Bool.false_or]
    simp
    omega
theorem propL_cons (l : List (List Int)) (hl : LitsOk l) : ∀ (f : Nat) (out : List Int), Cons out → Cons (propL l f out).1
  | 0, out, h => by simpa [propL] using h
  | f + 1, out, h => by
    unfold propL
    match hs : scanC out l with
    | none => exact h
    | some none => exact h
    | some (some x) =>
      obtain ⟨a, b, c, d, e⟩ := scan_lit out l x hl hs
      exact propL_cons l hl f (out ++ [x]) (cons_snoc h x a e)
theorem firstV_some (out : List Int) : ∀ (d : Nat) (a : Int), 1 ≤ a → firstV out d a ≠ 0 → a ≤ firstV out d a ∧ firstV out d a < a + d ∧ hasB out (firstV out d a) = false ∧ hasB out (-firstV out d a) = false
  | 0, a, h1, h => by simp [firstV] at h
  | d + 1, a, h1, h => by
    unfold firstV at h ⊢
    cases ha : hasB out a with
    | true =>
      rw [ha] at h
      simp only [if_true] at h ⊢
      have := firstV_some out d (a + 1) (by omega) h
      exact ⟨by omega, by omega, this.2.2⟩
    | false =>
      rw [ha] at h
      rw [if_neg Bool.false_ne_true] at h ⊢
      cases hb : hasB out (-a) with
      | true =>
        rw [hb] at h
        simp only [if_true] at h ⊢
        have := firstV_some out d (a + 1) (by omega) h
        exact ⟨by omega, by omega, this.2.2⟩
      | false =>
        rw [hb] at h
        rw [if_neg Bool.false_ne_true] at h ⊢
        exact ⟨by omega, by omega, ha, hb⟩
theorem firstV_none (out : List Int) : ∀ (d : Nat) (a : Int), 1 ≤ a → firstV out d a = 0 → ∀ y, a ≤ y → y < a + d → hasB out y = true ∨ hasB out (-y) = true
  | 0, a, h1, h, y, h2, h3 => by omega
  | d + 1, a, h1, h, y, h2, h3 => by
    unfold firstV at h
    cases ha : hasB out a with
    | true =>
      rw [ha] at h
      simp only [if_true] at h
      rcases Int.lt_or_eq_of_le h2 with hy | hy
      · exact firstV_none out d (a + 1) (by omega) h y (by omega) (by omega)
      · exact .inl (hy ▸ ha)
    | false =>
      rw [ha] at h
      rw [if_neg Bool.false_ne_true] at h
      cases hb : hasB out (-a) with
      | true =>
        rw [hb] at h
        simp only [if_true] at h
        rcases Int.lt_or_eq_of_le h2 with hy | hy
        · exact firstV_none out d (a + 1) (by omega) h y (by omega) (by omega)
        · exact .inr (hy ▸ hb)
      | false =>
        rw [hb] at h
        rw [if_neg Bool.false_ne_true] at h
        omega
/-- The search for a model. -/
def solveL (v : Int) (l : List (List Int)) : Nat → List (List Int) → List Int → Bool × List Bool × List (List Int) × Bool
  | 0, _, _ => (false, [], [], false)
  | f + 1, learned, decided =>
    if (propP (l ++ learned) decided).2 = true then
      (if learned.length = 300 then (false, [], [], false)
      else if decided = [] then (false, [], learned ++ [negL decided], true)
      else solveL v l f (learned ++ [negL decided]) decided.dropLast)
    else if firstV (propP (l ++ learned) decided).1 v.toNat 1 = 0 then (true, modelZ v.toNat (propP (l ++ learned) decided).1, learned, true)
    else solveL v l f learned (decided ++ [firstV (propP (l ++ learned) decided).1 v.toNat 1])
def LitsV (v : Int) (l : List (List Int)) : Prop := ∀ c ∈ l, c.length ≤ 1000 ∧ ∀ n ∈ c, n ≠ 0 ∧ -v ≤ n ∧ n ≤ v
theorem LitsV.ok {v : Int} {l : List (List Int)} (h : LitsV v l) (hv : v ≤ 12) : LitsOk l := fun c hc => ⟨(h c hc).1, fun n hn => by have := (h c hc).2 n hn; omega⟩
theorem LitsV.app {v : Int} {l m : List (List Int)} (h : LitsV v l) (k : LitsV v m) : LitsV v (l ++ m) := fun c hc => (List.mem_append.1 hc).elim (h c) (k c)
theorem good_litsV {v : Int} {l : List (List Int)} (h : goodB v l = true) : LitsV v l := by
  intro c hc
  obtain ⟨a, b⟩ := goodB_lits h c hc
  exact ⟨by omega, b⟩
theorem litsV_learn {v : Int} (hv : v ≤ 12) {d : List Int} (h : DecOk v d) : LitsV v [negL d] := by
  intro c hc
  have : c = negL d := by simpa using hc
  subst this
  have hl := decOk_le hv h
  refine ⟨by unfold negL; rw [List.length_map]; omega, fun n hn => ?_⟩
  unfold negL at hn
  obtain ⟨x, hx, rfl⟩ := List.mem_map.1 hn
  obtain ⟨a, b⟩ := decOk_mem h x hx
  rw [neg64 (by omega) (by omega)]
  omega
theorem dec_cons {v : Int} {d : List Int} (h : DecOk v d) : Cons d := by
  intro n hn
  obtain ⟨a, _⟩ := decOk_mem h n hn
  rw [hasB_no]
  intro h'
  obtain ⟨b, _⟩ := decOk_mem h _ h'
  omega
/-- What a round of the search needs of its state, and what it leaves. -/
structure SolveOk (v : Int) (l learned : List (List Int)) (decided : List Int) : Prop where
  v0 : 0 ≤ v
  v1 : v ≤ 12
  ll : l.length ≤ 1000
  lv : LitsV v l
  nv : LitsV v learned
  nl : learned.length ≤ 300
  ni : ∀ c ∈ learned, c.length ≤ 12
  dd : DecOk v decided
theorem SolveOk.all {v : Int} {l n : List (List Int)} {d : List Int} (h : SolveOk v l n d) : LitsOk (l ++ n) := (h.lv.app h.nv).ok h.v1
theorem SolveOk.learn {v : Int} {l n : List (List Int)} {d : List Int} (h : SolveOk v l n d) (hn : n.length < 300) : SolveOk v l (n ++ [negL d]) d.dropLast where
  v0 := h.v0
  v1 := h.v1
  ll := h.ll
  lv := h.lv
  nv := h.nv.app (litsV_learn h.v1 h.dd)
  nl := by simp; omega
  ni := fun c hc => (List.mem_append.1 hc).elim (h.ni c) fun hc => by
    have : c = negL d := by simpa using hc
    subst this
    unfold negL
    rw [List.length_map]
    exact decOk_le h.v1 h.dd
  dd := decOk_drop h.dd
theorem SolveOk.decide {v : Int} {l n : List (List Int)} {d : List Int} (h : SolveOk v l n d) (h0 : firstV (propP (l ++ n) d).1 v.toNat 1 ≠ 0) : SolveOk v l n (d ++ [firstV (propP (l ++ n) d).1 v.toNat 1]) where
  v0 := h.v0
  v1 := h.v1
  ll := h.ll
  lv := h.lv
  nv := h.nv
  nl := h.nl
  ni := h.ni
  dd := by
    obtain ⟨a, b, c, e⟩ := firstV_some (propP (l ++ n) d).1 v.toNat 1 (by omega) h0
    have := h.v0
    obtain ⟨t, ht⟩ := propL_pre (l ++ n) 13 d
    have hsub : ∀ y, hasB (propP (l ++ n) d).1 y = false → hasB d y = false := fun y hy => by
      rw [hasB_no] at hy ⊢
      intro h'
      exact hy (by unfold propP; rw [ht]; exact List.mem_append_left _ h')
    exact decOk_snoc h.dd _ a (by omega) (hsub _ c) (hsub _ e)
def solveM (n : List (List Int)) (d : List Int) : Nat := 2 * (301 - n.length) + (13 - d.length)
theorem solveM_learn {v : Int} {l n : List (List Int)} {d : List Int} (h : SolveOk v l n d) (hd : d ≠ []) : solveM (n ++ [negL d]) d.dropLast < solveM n d := by
  have h1 := decOk_le h.v1 h.dd
  have h2 := h.nl
  have h3 : 0 < d.length := List.length_pos_iff.2 hd
  unfold solveM
  rw [List.length_append, List.length_dropLast, List.length_singleton]
  omega
theorem solveM_decide {v : Int} {l n : List (List Int)} {d : List Int} (h : SolveOk v l n d) (x : Int) : solveM n (d ++ [x]) < solveM n d := by
  have h1 := decOk_le h.v1 h.dd
  unfold solveM
  rw [List.length_append, List.length_singleton]
  omega

theorem copy_l (l : List (List Int)) (hl : l.length ≤ 1048576) (hi : ∀ x ∈ l, x.length ≤ 1048576) : ∀ (d i k : Nat) (y : List (List Int)), i + d = l.length → y.length = i → d < k → spec_l5Copy.l0 k y l (l.length : Int) (i : Int) = some (y ++ l.drop i)
  | 0, i, k, y, h1, h2, hk => by
    obtain ⟨k, rfl⟩ : ∃ m, k = m + 1 := ⟨k - 1, by omega⟩
    simp only [spec_l5Copy.l0]
    rw [if_neg (by omega), List.drop_of_length_le (by omega), List.append_nil]
  | d + 1, i, k, y, h1, h2, hk => by
    obtain ⟨k, rfl⟩ : ∃ m, k = m + 1 := ⟨k - 1, by omega⟩
    have hil : i < l.length := by omega
    have hx := hi l[i] (List.getElem_mem _)
    simp only [spec_l5Copy.l0, Option.bind_some, List.nil_append, List.length_nil]
    rw [if_pos (by omega), if_pos (by omega), if_pos (by omega), rdL_nat l i hil, next64 (by omega), if_pos (by omega), if_pos (by omega)]
    rw [copy_l l hl hi d (i + 1) k (y ++ [l[i]]) (by omega) (by simp [h2]) (by omega), List.drop_eq_getElem_cons hil, List.append_assoc]
    rfl
theorem copy_val (l : List (List Int)) (hl : l.length ≤ 1048576) (hi : ∀ x ∈ l, x.length ≤ 1048576) (k : Nat) (hk : 1048577 ≤ k) : spec_l5Copy.f k l = some l := by
  unfold spec_l5Copy.f
  have := copy_l l hl hi l.length 0 k [] (by omega) rfl (by omega)
  simpa using this

theorem modelZ_length (v : Nat) (out : List Int) : (modelZ v out).length = v := by simp [modelZ]
theorem modelZ_at (v : Nat) (out : List Int) (j : Nat) (h : j < v) : (modelZ v out)[j]? = some (hasB out ((j : Int) + 1)) := by
  unfold modelZ
  rw [List.getElem?_map, List.getElem?_range h]
  rfl
theorem vab_abs {n : Int} (h0 : -12 ≤ n) (h1 : n ≤ 12) : vab n = if 0 ≤ n then n else -n := by
  rw [vab_small h0 h1]
  by_cases h : 0 ≤ n
  · rw [if_pos h, if_neg (by omega)]
  · rw [if_neg h, if_pos (by omega)]
/-- The model of the literals out: what the part up to i has set, and what it has not. -/
theorem implModelZ_l (v : Nat) (hv : v ≤ 12) (out : List Int) (hl : out.length ≤ 100000) (hr : ∀ n ∈ out, n ≠ 0 ∧ -(v : Int) ≤ n ∧ n ≤ (v : Int)) (hc : Cons out) : ∀ (d i k : Nat) (m : List Bool), i + d = out.length → m.length = v → (∀ j, j < v → m[j]? = some (hasB (out.take i) ((j : Int) + 1))) → d < k →
    impl_solve.l1 k out m (i : Int) = some (modelZ v out)
  | 0, i, k, m, h1, h2, h3, hk => by
    obtain ⟨k, rfl⟩ : ∃ m, k = m + 1 := ⟨k - 1, by omega⟩
    simp only [impl_solve.l1]
    rw [if_neg (by omega)]
    congr 1
    apply List.ext_getElem?
    intro j
    by_cases hj : j < v
    · rw [h3 j hj, modelZ_at v out j hj, List.take_of_length_le (by omega)]
    · rw [List.getElem?_eq_none (by omega), List.getElem?_eq_none (by rw [modelZ_length]; omega)]
  | d + 1, i, k, m, h1, h2, h3, hk => by
    obtain ⟨k, rfl⟩ : ∃ m, k = m + 1 := ⟨k - 1, by omega⟩
    have hil : i < out.length := by omega
    have hmem := List.getElem_mem hil
    obtain ⟨b0, b1, b2⟩ := hr out[i] hmem
    have hca := hc out[i] hmem
    obtain ⟨n, hn⟩ : ∃ n, out[i] = n := ⟨_, rfl⟩
    rw [hn] at b0 b1 b2 hca
    obtain ⟨q, hq⟩ : ∃ q : Nat, q < v ∧ (((q : Int) + 1 = n ∧ 0 < n) ∨ ((q : Int) + 1 = -n ∧ n < 0)) := by
      rcases Int.lt_or_gt_of_ne b0 with h | h
      · exact ⟨(-n).toNat - 1, by omega, .inr ⟨by omega, h⟩⟩
      · exact ⟨n.toNat - 1, by omega, .inl ⟨by omega, h⟩⟩
    obtain ⟨hqv, hq⟩ := hq
    have hvab : vab n = (q : Int) + 1 := by
      rw [vab_abs (by omega) (by omega)]
      split <;> omega
    simp only [impl_solve.l1]
    rw [if_pos (by omega), if_pos (by omega), rd_nat out i hil, next64 (by omega), hn, hvab, if_pos ⟨by omega, by omega⟩, show ((q : Int) + 1 - 1).toNat = q by omega]
    refine implModelZ_l v hv out hl hr hc d (i + 1) k _ (by omega) (by rw [List.length_set]; exact h2) (fun j hj => ?_) (by omega)
    rw [List.take_succ_eq_append_getElem hil, hasB_app, List.getElem?_set, hn]
    by_cases e : q = j
    · subst e
      rw [if_pos rfl, if_pos (by omega)]
      congr 1
      rcases hq with ⟨h1', h2'⟩ | ⟨h1', h2'⟩
      · rw [h1', decide_eq_true h2']
        simp
      · have hno : hasB (out.take i) ((q : Int) + 1) = false := by
          rw [h1']
          rw [hasB_no] at hca ⊢
          intro h
          exact hca (List.mem_of_mem_take h)
        rw [hno, decide_eq_false (by omega), show (n == (q : Int) + 1) = false by rw [beq_eq_false_iff_ne]; omega]
        rfl
    · rw [if_neg e, h3 j hj]
      congr 1
      have hne : (n == (j : Int) + 1) = false := by
        rw [beq_eq_false_iff_ne]
        omega
      rw [hne, Bool.or_false]
theorem specModelZ_l (v : Nat) (hv : v ≤ 12) (out : List Int) (hl : out.length ≤ 100000) (hr : ∀ n ∈ out, n ≠ 0 ∧ -(v : Int) ≤ n ∧ n ≤ (v : Int)) : ∀ (d i k : Nat) (m : List Bool), i + d = out.length → m.length = v → (∀ j, j < v → m[j]? = some (hasB (out.take i) ((j : Int) + 1))) → d < k →
    spec_l5Solve.l1 k out m (i : Int) = some (modelZ v out)
  | 0, i, k, m, h1, h2, h3, hk => by
    obtain ⟨k, rfl⟩ : ∃ m, k = m + 1 := ⟨k - 1, by omega⟩
    simp only [spec_l5Solve.l1]
    rw [if_neg (by omega)]
    congr 1
    apply List.ext_getElem?
    intro j
    by_cases hj : j < v
    · rw [h3 j hj, modelZ_at v out j hj, List.take_of_length_le (by omega)]
    · rw [List.getElem?_eq_none (by omega), List.getElem?_eq_none (by rw [modelZ_length]; omega)]
  | d + 1, i, k, m, h1, h2, h3, hk => by
    obtain ⟨k, rfl⟩ : ∃ m, k = m + 1 := ⟨k - 1, by omega⟩
    have hil : i < out.length := by omega
    obtain ⟨b0, b1, b2⟩ := hr out[i] (List.getElem_mem hil)
    simp only [spec_l5Solve.l1]
    rw [if_pos (by omega), if_pos (by omega), rd_nat out i hil, next64 (by omega)]
    by_cases hp : 0 < out[i]
    · rw [if_pos hp, if_pos (by omega)]
      refine specModelZ_l v hv out hl hr d (i + 1) k _ (by omega) (by rw [List.length_set]; exact h2) (fun j hj => ?_) (by omega)
      rw [List.take_succ_eq_append_getElem hil, hasB_app, List.getElem?_set]
      by_cases e : out[i].toNat - 1 = j
      · rw [if_pos e, if_pos (by omega), show (out[i] == (j : Int) + 1) = true by simp; omega, Bool.or_true]
      · rw [if_neg e, h3 j hj, show (out[i] == (j : Int) + 1) = false by simp; omega, Bool.or_false]
    · rw [if_neg hp]
      refine specModelZ_l v hv out hl hr d (i + 1) k m (by omega) h2 (fun j hj => ?_) (by omega)
      rw [List.take_succ_eq_append_getElem hil, hasB_app, h3 j hj, show (out[i] == (j : Int) + 1) = false by simp; omega, Bool.or_false]

theorem litsV_all {v : Int} {l n : List (List Int)} {d : List Int} (h : SolveOk v l n d) : ∀ x ∈ (propP (l ++ n) d).1, x ≠ 0 ∧ -v ≤ x ∧ x ≤ v :=
  propL_all (fun x => x ≠ 0 ∧ -v ≤ x ∧ x ≤ v) (l ++ n) h.all (fun c hc => ((h.lv.app h.nv) c hc).2) 13 d (fun x hx => by
    obtain ⟨a, b⟩ := decOk_mem h.dd x hx
    have := h.v0
    omega)
theorem prop_len {v : Int} {l n : List (List Int)} {d : List Int} (h : SolveOk v l n d) : (propP (l ++ n) d).1.length ≤ 100 := by
  have h1 := propL_length (l ++ n) 13 d
  have h2 := decOk_le h.v1 h.dd
  unfold propP
  omega
theorem take_dropLast {α : Type} (l : List α) : l.take (l.length - 1) = l.dropLast := (List.dropLast_eq_take).symm
theorem implSolve_l (v : Int) (l : List (List Int)) : ∀ (f k : Nat) (n : List (List Int)) (d : List Int), SolveOk v l n d → solveM n d < f → f + 4000000 ≤ k → impl_solve.l0 k v l n d = some (solveL v l f n d)
  | 0, k, n, d, h, hm, hk => by omega
  | f + 1, k, n, d, h, hm, hk => by
    obtain ⟨k, rfl⟩ : ∃ m, k = m + 1 := ⟨k - 1, by omega⟩
    have hll := h.ll
    have hnl := h.nl
    have hd12 := decOk_le h.v1 h.dd
    have hpl := prop_len h
    have hv0 := h.v0
    have hv1 := h.v1
    simp only [impl_solve.l0]
    rw [if_pos (by omega), implProp_val (l ++ n) h.all (by rw [List.length_append]; omega) d (by omega) k (by omega), solveL]
    simp only [Option.bind_some]
    cases hb : (propP (l ++ n) d).2 with
    | true =>
      rw [if_pos rfl, if_pos rfl, learn_val d (by omega) k (by omega)]
      simp only [Option.bind_some]
      rw [show (d.map fun x => wrap64 (-x)) = negL d from rfl]
      by_cases h3 : n.length = 300
      · rw [if_pos (by simp; omega), if_pos h3]
      · rw [if_neg (by simp; omega), if_neg h3]
        by_cases h0 : d = []
        · rw [if_pos (by rw [h0]; rfl), if_pos h0]
        · have h0' : ¬ d.length = 0 := fun e => h0 (List.eq_nil_of_length_eq_zero e)
          rw [if_neg h0', if_neg h0, take_dropLast]
          exact implSolve_l v l f k _ _ (h.learn (by omega)) (by have := solveM_learn h h0; omega) (by omega)
    | false =>
      rw [if_neg Bool.false_ne_true, if_neg Bool.false_ne_true, implDecide_val v _ hv0 hv1 k (by omega)]
      simp only [Option.bind_some]
      by_cases hx : firstV (propP (l ++ n) d).1 v.toNat 1 = 0
      · rw [decide_eq_false (by simpa using hx), if_neg Bool.false_ne_true, if_pos ⟨hv0, by omega⟩, if_pos hx]
        have := implModelZ_l v.toNat (by omega) (propP (l ++ n) d).1 (by omega) (fun x hx => by have := litsV_all h x hx; omega) (propL_cons _ h.all 13 d (dec_cons h.dd)) (propP (l ++ n) d).1.length 0 k (List.replicate v.toNat false) (by omega) (by simp) (fun j hj => by rw [List.getElem?_replicate, if_pos hj]; simp [hasB]) (by omega)
        rw [show ((0 : Nat) : Int) = 0 from rfl] at this
        rw [this]
        rfl
      · rw [decide_eq_true hx, if_pos rfl, if_pos (by omega), if_neg hx]
        exact implSolve_l v l f k _ _ (h.decide hx) (by have := solveM_decide h (firstV (propP (l ++ n) d).1 v.toNat 1); omega) (by omega)
theorem learned_bounds {n : List (List Int)} (h : ∀ c ∈ n, c.length ≤ 12) : ∀ c ∈ n, c.length ≤ 1048576 := fun c hc => by have := h c hc; omega
theorem specSolve_l (v : Int) (l : List (List Int)) : ∀ (f k : Nat) (n : List (List Int)) (d : List Int), SolveOk v l n d → solveM n d < f → f + 4000000 ≤ k → spec_l5Solve.l0 k v (l ++ n) n d = some (solveL v l f n d)
  | 0, k, n, d, h, hm, hk => by omega
  | f + 1, k, n, d, h, hm, hk => by
    obtain ⟨k, rfl⟩ : ∃ m, k = m + 1 := ⟨k - 1, by omega⟩
    have hll := h.ll
    have hnl := h.nl
    have hd12 := decOk_le h.v1 h.dd
    have hpl := prop_len h
    have hv0 := h.v0
    have hv1 := h.v1
    simp only [spec_l5Solve.l0]
    rw [specProp_val (l ++ n) h.all (by rw [List.length_append]; omega) d (by omega) k (by omega), solveL]
    simp only [Option.bind_some]
    rw [specFirst_val v _ (by omega) hv0 hv1 k (by omega)]
    simp only [Option.bind_some]
    cases hb : (propP (l ++ n) d).2 with
    | true =>
      rw [if_pos rfl, if_pos rfl]
      by_cases h3 : n.length = 300
      · rw [if_pos h3, if_pos h3]
      · rw [if_neg h3, if_neg h3, negate_val d (by omega) k (by omega)]
        simp only [Option.bind_some]
        rw [show (d.map fun x => wrap64 (-x)) = negL d from rfl, if_pos ⟨by omega, by rw [List.length_append]; omega⟩]
        by_cases h0 : d = []
        · rw [if_pos (by rw [h0]; rfl), if_pos h0, copy_val _ (by simp; omega) (fun c hc => by
            rcases List.mem_append.1 hc with hc | hc
            · exact learned_bounds h.ni c hc
            · have : c = negL d := by simpa using hc
              subst this
              unfold negL
              rw [List.length_map]
              omega) k (by omega)]
          rfl
        · have h0' : ¬ d.length = 0 := fun e => h0 (List.eq_nil_of_length_eq_zero e)
          rw [if_neg h0', if_neg h0, take_dropLast, List.append_assoc]
          exact specSolve_l v l f k _ _ (h.learn (by omega)) (by have := solveM_learn h h0; omega) (by omega)
    | false =>
      rw [if_neg Bool.false_ne_true, if_neg Bool.false_ne_true]
      by_cases hx : firstV (propP (l ++ n) d).1 v.toNat 1 = 0
      · rw [hx, if_neg (by omega), if_pos ⟨hv0, by omega⟩, if_pos rfl]
        have := specModelZ_l v.toNat (by omega) (propP (l ++ n) d).1 (by omega) (fun x hx => by have := litsV_all h x hx; omega) (propP (l ++ n) d).1.length 0 k (List.replicate v.toNat false) (by omega) (by simp) (fun j hj => by rw [List.getElem?_replicate, if_pos hj]; simp [hasB]) (by omega)
        rw [show ((0 : Nat) : Int) = 0 from rfl] at this
        rw [this]
        simp only [Option.bind_some]
        rw [copy_val n (by omega) (learned_bounds h.ni) k (by omega)]
        rfl
      · obtain ⟨a, _, _, _⟩ := firstV_some (propP (l ++ n) d).1 v.toNat 1 (by omega) hx
        rw [if_pos (by omega), if_pos (by omega), if_neg hx]
        exact specSolve_l v l f k _ _ (h.decide hx) (by have := solveM_decide h (firstV (propP (l ++ n) d).1 v.toNat 1); omega) (by omega)
/-- The search. -/
def solveP (v : Int) (l : List (List Int)) : Bool × List Bool × List (List Int) × Bool := solveL v l 700 [] []
theorem solveOk_nil {v : Int} {l : List (List Int)} (h0 : 0 ≤ v) (h1 : v ≤ 12) (hl : LitsV v l) (hn : l.length ≤ 1000) : SolveOk v l [] [] where
  v0 := h0
  v1 := h1
  ll := hn
  lv := hl
  nv := fun c hc => by simp at hc
  nl := by simp
  ni := fun c hc => by simp at hc
  dd := decOk_nil v
theorem implSolve_val (v : Int) (l : List (List Int)) (h0 : 0 ≤ v) (h1 : v ≤ 12) (hl : LitsV v l) (hn : l.length ≤ 1000) (k : Nat) (hk : 5000000 ≤ k) : impl_solve.f k v l = some (solveP v l) := by
  unfold impl_solve.f solveP
  exact implSolve_l v l 700 k [] [] (solveOk_nil h0 h1 hl hn) (by unfold solveM; simp) (by omega)
theorem specSolve_val (v : Int) (l : List (List Int)) (h0 : 0 ≤ v) (h1 : v ≤ 12) (hl : LitsV v l) (hn : l.length ≤ 1000) (k : Nat) (hk : 5000000 ≤ k) : spec_l5Solve.f k v l = some (solveP v l) := by
  unfold spec_l5Solve.f solveP
  rw [copy_val l (by omega) (fun c hc => by have := (hl c hc).1; omega) k (by omega)]
  simp only [Option.bind_some]
  have := specSolve_l v l 700 k [] [] (solveOk_nil h0 h1 hl hn) (by unfold solveM; simp) (by omega)
  rw [List.append_nil] at this
  exact this
/-- How long what is found is. -/
theorem solveL_bounds (v : Int) (l : List (List Int)) : ∀ (f : Nat) (n : List (List Int)) (d : List Int), SolveOk v l n d → solveM n d < f →
    (solveL v l f n d).2.1.length ≤ 12 ∧ (solveL v l f n d).2.2.1.length ≤ 301 ∧ ∀ c ∈ (solveL v l f n d).2.2.1, c.length ≤ 12
  | 0, n, d, h, hm => by omega
  | f + 1, n, d, h, hm => by
    have hd12 := decOk_le h.v1 h.dd
    have hnl := h.nl
    rw [solveL]
    cases hb : (propP (l ++ n) d).2 with
    | true =>
      rw [if_pos rfl]
      by_cases h3 : n.length = 300
      · rw [if_pos h3]
        simp
      · rw [if_neg h3]
        by_cases h0 : d = []
        · rw [if_pos h0]
          refine ⟨by simp, by simp; omega, fun c hc => ?_⟩
          rcases List.mem_append.1 hc with hc | hc
          · exact h.ni c hc
          · have : c = negL d := by simpa using hc
            subst this
            unfold negL
            rw [List.length_map]
            omega
        · rw [if_neg h0]
          exact solveL_bounds v l f _ _ (h.learn (by omega)) (by have := solveM_learn h h0; omega)
    | false =>
      rw [if_neg Bool.false_ne_true]
      by_cases hx : firstV (propP (l ++ n) d).1 v.toNat 1 = 0
      · rw [if_pos hx]
        have hv1 := h.v1
        exact ⟨by rw [modelZ_length]; omega, by simp only; omega, h.ni⟩
      · rw [if_neg hx]
        exact solveL_bounds v l f _ _ (h.decide hx) (by have := solveM_decide h (firstV (propP (l ++ n) d).1 v.toNat 1); omega)
theorem solveP_bounds {v : Int} {l : List (List Int)} (h0 : 0 ≤ v) (h1 : v ≤ 12) (hl : LitsV v l) (hn : l.length ≤ 1000) : (solveP v l).2.1.length ≤ 12 ∧ (solveP v l).2.2.1.length ≤ 301 ∧ ∀ c ∈ (solveP v l).2.2.1, c.length ≤ 12 :=
  solveL_bounds v l 700 [] [] (solveOk_nil h0 h1 hl hn) (by unfold solveM; simp)

def unitsL (l : List Int) : List (List Int) := l.map fun x => [x]
theorem unitsL_length (l : List Int) : (unitsL l).length = l.length := by simp [unitsL]
theorem units_l (l : List Int) (hl : l.length ≤ 1048576) : ∀ (d i k : Nat) (y : List (List Int)), i + d = l.length → y.length = i → d < k → impl_units.l0 k y l (l.length : Int) (i : Int) = some (y ++ unitsL (l.drop i))
  | 0, i, k, y, h1, h2, hk => by
    obtain ⟨k, rfl⟩ : ∃ m, k = m + 1 := ⟨k - 1, by omega⟩
    simp only [impl_units.l0]
    rw [if_neg (by omega), List.drop_of_length_le (by omega)]
    simp [unitsL]
  | d + 1, i, k, y, h1, h2, hk => by
    obtain ⟨k, rfl⟩ : ∃ m, k = m + 1 := ⟨k - 1, by omega⟩
    simp only [impl_units.l0]
    rw [if_pos (by omega), if_pos (by omega), if_pos (by omega), if_pos (by omega), rd_nat l i (by omega), next64 (by omega), units_l l hl d (i + 1) k _ (by omega) (by simp [h2]) (by omega), drop_at l i (by omega), unitsL, unitsL, List.map_cons, List.append_assoc]
    rfl
theorem units_val (l : List Int) (hl : l.length ≤ 1048576) (k : Nat) (hk : l.length < k) : impl_units.f k l = some (unitsL l) := by
  unfold impl_units.f
  have := units_l l hl l.length 0 k [] (by omega) rfl hk
  simpa using this
theorem withSpec_l (v : Int) (g : List Int) (hg : g.length ≤ 1048576) (r : Bool × List Bool × List (List Int) × Bool) : ∀ (d i k : Nat) (y : List (List Int)), i + d = g.length → y.length ≤ 1048576 + i → (∀ q, 5000000 ≤ q → spec_l5Solve.f q v (y ++ unitsL (g.drop i)) = some r) → d + 5000001 ≤ k → spec_SolveWith.l0 k v y g (g.length : Int) (i : Int) = some r
  | 0, i, k, y, h1, h2, hs, hk => by
    obtain ⟨k, rfl⟩ : ∃ m, k = m + 1 := ⟨k - 1, by omega⟩
    have := hs k (by omega)
    rw [List.drop_of_length_le (by omega), show unitsL ([] : List Int) = [] from rfl, List.append_nil] at this
    simp only [spec_SolveWith.l0]
    rw [if_neg (by omega), this]
    rfl
  | d + 1, i, k, y, h1, h2, hs, hk => by
    obtain ⟨k, rfl⟩ : ∃ m, k = m + 1 := ⟨k - 1, by omega⟩
    have e : y ++ unitsL (g.drop i) = y ++ [[g[i]'(by omega)]] ++ unitsL (g.drop (i + 1)) := by
      rw [drop_at g i (by omega), unitsL, unitsL, List.map_cons, List.append_assoc]
      rfl
    simp only [spec_SolveWith.l0]
    rw [if_pos (by omega), if_pos (by omega), if_pos (by omega), if_pos (by omega), rd_nat g i (by omega), next64 (by omega)]
    exact withSpec_l v g hg r d (i + 1) k _ (by omega) (by simp; omega) (fun q hq => by rw [← e]; exact hs q hq) (by omega)
theorem units_litsV {v : Int} (h0 : 0 ≤ v) (h1 : v ≤ 12) {g : List Int} (h : isClauseB g v = true) : LitsV v (unitsL g) := by
  obtain ⟨_, b⟩ := isClause_facts h
  intro c hc
  obtain ⟨x, hx, rfl⟩ := List.mem_map.1 hc
  refine ⟨by simp, fun n hn => ?_⟩
  have : n = x := by simpa using hn
  subst this
  exact litB_small h0 h1 (b n hx)
def noR_ : Bool × List Bool × List (List Int) × Bool := (false, [], [], false)
def solveWithR (v : Int) (l : List (List Int)) (g : List Int) : Bool × List Bool × List (List Int) × Bool :=
  if goodB v l = true then (if isClauseB g v = true then (if l.length + g.length > 60 then noR_ else solveP v (l ++ unitsL g)) else noR_) else noR_
theorem specSolveWith_val (v : Int) (l : List (List Int)) (g : List Int) (hl : l.length ≤ 1048576) (hi : ∀ x ∈ l, x.length ≤ 1048576) (hg : g.length ≤ 1048576) (k : Nat) (hk : 8000000 ≤ k) : spec_SolveWith.f k v l g = some (solveWithR v l g) := by
  obtain ⟨k, rfl⟩ : ∃ m, k = m + 1 := ⟨k - 1, by omega⟩
  have hf : spec_SolveWith.j0 (k + 1) v l g true = some noR_ := by
    rw [spec_SolveWith.j0, if_pos rfl]
    rfl
  unfold spec_SolveWith.f spec_l4Given.f solveWithR
  rw [specGood_val v l hl hi (k + 1) (by omega), hf]
  simp only [Option.bind_some]
  cases hgo : goodB v l with
  | false => rfl
  | true =>
    obtain ⟨h0, h1, h60, _⟩ := goodB_facts hgo
    rw [if_pos rfl, if_pos rfl, clause_val v h0 h1 g hg (k + 1) (by omega)]
    simp only [Option.bind_some]
    cases hc : isClauseB g v with
    | false => rfl
    | true =>
      rw [if_pos rfl, if_pos rfl, w64 (by omega) (by omega)]
      by_cases h6 : l.length + g.length > 60
      · rw [decide_eq_true (by omega), hf, if_pos h6]
      · rw [decide_eq_false (by omega), if_neg h6]
        simp only [spec_SolveWith.j0]
        rw [if_neg Bool.false_ne_true, copy_val l hl hi k (by omega)]
        simp only [Option.bind_some]
        exact withSpec_l v g hg _ g.length 0 k l (by omega) (by omega) (fun q hq => specSolve_val v _ h0 h1 ((good_litsV hgo).app (units_litsV h0 h1 hc)) (by rw [List.length_append, unitsL_length]; omega) q hq) (by omega)
theorem implSolveWith_val (v : Int) (l : List (List Int)) (g : List Int) (hl : l.length ≤ 1048576) (hg : g.length ≤ 1048576) (k : Nat) (hk : 8000000 ≤ k) : impl_SolveWith.f k v l g = some (solveWithR v l g) := by
  unfold impl_SolveWith.f impl_isClause.f solveWithR
  rw [units_val g hg k (by omega)]
  simp only [Option.bind_some]
  rw [if_pos (by rw [unitsL_length]; omega), implGood_val]
  simp only [Option.bind_some]
  cases hgo : goodB v l with
  | false => rfl
  | true =>
    obtain ⟨h0, h1, h60, _⟩ := goodB_facts hgo
    rw [if_pos rfl, if_pos rfl]
    cases hc : isClauseB g v with
    | false => rfl
    | true =>
      rw [if_pos rfl, if_pos rfl, List.length_append, unitsL_length]
      by_cases h6 : l.length + g.length > 60
      · rw [if_pos h6, if_pos h6]
        rfl
      · rw [if_neg h6, if_neg h6]
        exact implSolve_val v _ h0 h1 ((good_litsV hgo).app (units_litsV h0 h1 hc)) (by rw [List.length_append, unitsL_length]; omega) k (by omega)
theorem solveWithR_bounds (v : Int) (l : List (List Int)) (g : List Int) : (solveWithR v l g).2.1.length ≤ 12 ∧ (solveWithR v l g).2.2.1.length ≤ 301 ∧ ∀ c ∈ (solveWithR v l g).2.2.1, c.length ≤ 12 := by
  unfold solveWithR
  cases hgo : goodB v l with
  | false => simp [noR_]
  | true =>
    obtain ⟨h0, h1, h60, _⟩ := goodB_facts hgo
    rw [if_pos rfl]
    cases hc : isClauseB g v with
    | false => simp [noR_]
    | true =>
      rw [if_pos rfl]
      by_cases h6 : l.length + g.length > 60
      · rw [if_pos h6]
        simp [noR_]
      · rw [if_neg h6]
        exact solveP_bounds h0 h1 ((good_litsV hgo).app (units_litsV h0 h1 hc)) (by rw [List.length_append, unitsL_length]; omega)

def followsR (v : Int) (l : List (List Int)) (c : List Int) : Bool × Bool :=
  if goodB v l = true then (if isClauseB c v = true then (if (solveWithR v l (negL c)).2.2.2 = true then (!(solveWithR v l (negL c)).1, true) else (false, false)) else (false, false)) else (false, false)
theorem negL_length (c : List Int) : (negL c).length = c.length := by simp [negL]
theorem specFollows_val (v : Int) (l : List (List Int)) (c : List Int) (hl : l.length ≤ 1048576) (hi : ∀ x ∈ l, x.length ≤ 1048576) (hg : c.length ≤ 1048576) (k : Nat) (hk : 9000000 ≤ k) : spec_FollowsFrom.f k v l c = some (followsR v l c) := by
  obtain ⟨k, rfl⟩ : ∃ m, k = m + 1 := ⟨k - 1, by omega⟩
  have hf : spec_FollowsFrom.j0 (k + 1) v l c true = some (false, false) := by
    rw [spec_FollowsFrom.j0, if_pos rfl]
  unfold spec_FollowsFrom.f spec_l4Given.f followsR
  rw [specGood_val v l hl hi (k + 1) (by omega), hf]
  simp only [Option.bind_some]
  cases hgo : goodB v l with
  | false => rfl
  | true =>
    obtain ⟨h0, h1, h60, _⟩ := goodB_facts hgo
    rw [if_pos rfl, if_pos rfl, clause_val v h0 h1 c hg (k + 1) (by omega)]
    simp only [Option.bind_some]
    cases hc : isClauseB c v with
    | false => exact hf
    | true =>
      simp only [spec_FollowsFrom.j0, Bool.not_true]
      simp only [if_true]
      first | rw [if_neg Bool.false_ne_true] | skip
      rw [negate_val c hg k (by omega)]
      simp only [Option.bind_some]
      rw [show (c.map fun x => wrap64 (-x)) = negL c from rfl, specSolveWith_val v l (negL c) hl hi (by rw [negL_length]; exact hg) k (by omega)]
      simp only [Option.bind_some]
      split <;> rfl
theorem implFollows_val (v : Int) (l : List (List Int)) (c : List Int) (hl : l.length ≤ 1048576) (hg : c.length ≤ 1048576) (k : Nat) (hk : 9000000 ≤ k) : impl_FollowsFrom.f k v l c = some (followsR v l c) := by
  obtain ⟨k, rfl⟩ : ∃ m, k = m + 1 := ⟨k - 1, by omega⟩
  have hf : impl_FollowsFrom.j0 (k + 1) v l c true = some (false, false) := by
    rw [impl_FollowsFrom.j0, if_pos rfl]
  unfold impl_FollowsFrom.f impl_isClause.f followsR
  rw [implGood_val, hf]
  simp only [Option.bind_some]
  cases hgo : goodB v l with
  | false => rfl
  | true =>
    rw [if_pos rfl, if_pos rfl]
    cases hc : isClauseB c v with
    | false => exact hf
    | true =>
      simp only [impl_FollowsFrom.j0, Bool.not_true]
      simp only [if_true]
      first | rw [if_neg Bool.false_ne_true] | skip
      rw [learn_val c hg k (by omega)]
      simp only [Option.bind_some]
      rw [show (c.map fun x => wrap64 (-x)) = negL c from rfl, implSolveWith_val v l (negL c) hl (by rw [negL_length]; exact hg) k (by omega)]
      simp only [Option.bind_some]
      cases (solveWithR v l (negL c)).2.2.2 <;> rfl

theorem FnExactFollowsFrom : laws_FnExactFollowsFrom.Pure := by
  rintro v l c hv ⟨h0, h1⟩ ⟨h2, _⟩
  obtain ⟨k, hk⟩ : ∃ k : Nat, 9000000 ≤ k := ⟨_, Nat.le_refl _⟩
  refine ⟨k, ?_⟩
  unfold laws_FnExactFollowsFrom.f
  by_cases hb2 : (c.length : Int) > 1048576
  · rw [if_pos hb2]
  · rw [if_neg hb2]
    obtain ⟨t, ht, hte⟩ := szIntSS_val l h0 (fun x hx => (h1 x hx).1) k (by omega)
    rw [ht]
    simp only [Option.bind_some]
    by_cases hn : t < 0
    · rw [if_pos hn]
    · rw [if_neg hn]
      obtain ⟨hb, hi⟩ := hte (by omega)
      have hs : ∀ q, 9000000 ≤ q → spec_FollowsFrom.f q v l c = some (followsR v l c) := fun q hq => specFollows_val v l c hb hi (by omega) q hq
      have him : ∀ q, 9000000 ≤ q → impl_FollowsFrom.f q v l c = some (followsR v l c) := fun q hq => implFollows_val v l c hb (by omega) q hq
      obtain ⟨r, hre⟩ : ∃ r, r = followsR v l c := ⟨_, rfl⟩
      rw [← hre] at hs him
      obtain ⟨r1, r2⟩ := r
      have hT : ∀ q, 9000000 ≤ q → laws_toIntSS.f q l = some l := fun q hq => toIntSS_val l hb hi q (by omega)
      have hTB : ∀ q, 9000000 ≤ q → laws_toIntS.f q c = some c := fun q hq => toIntS_val c (by omega) q (by omega)
      have hE : ∀ q, 9000000 ≤ q → laws_eqIntSS.f q l l = some true := fun q hq => eqIntSS_val l hb hi q (by omega)
      have hEG : ∀ q, 9000000 ≤ q → laws_eqIntS.f q c c = some true := fun q hq => eqIntS_val c (by omega) q (by omega)
      repeat (first
        | (rw [hT _ (by omega)]; simp only [Option.bind_some])
        | (rw [hTB _ (by omega)]; simp only [Option.bind_some])
        | (rw [hs _ (by omega)]; simp only [Option.bind_some])
        | (rw [him _ (by omega)]; simp only [Option.bind_some])
        | (rw [hE _ (by omega)]; simp only [Option.bind_some])
        | (rw [hEG _ (by omega)]; simp only [Option.bind_some])
        | rw [if_pos rfl]
        | rw [bne_self_eq_false]
        | rw [if_neg Bool.false_ne_true]
        | simp only [Option.bind_some])
      try simp

end Go.Proofs.Ytafffpbagdoniaa.Pure
