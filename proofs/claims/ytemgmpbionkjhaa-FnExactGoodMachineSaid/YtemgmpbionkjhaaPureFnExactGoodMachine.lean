/- The pure statement of the law FnExactGoodMachine: the printed functions of the program and of the reference give the same answers, at every input that the statement's guards let in. -/
import Derived.Test.YtemgmpbionkjhaaPFnExactGoodMachinex2
namespace Go.Proofs.Ytemgmpbionkjhaa.Pure
open Go.RowKit Go.Proofs.Ytemgmpbionkjhaa.PFnExactGoodMachine Go.Proofs.YtemgmpbionkjhaaW.PrintWords Go.Proofs.YtemgmpbionkjhaaW.PrintLast Go.Proofs.YtemgmpbionkjhaaW.PrintMore
theorem w64 {x : Int} (h0 : -9223372036854775808 ≤ x) (h1 : x ≤ 9223372036854775807) : wrap64 x = x := by
  unfold wrap64
  omega
theorem l64 {a : Int} (h : (Lit.int .i64 a).wf = true) : -9223372036854775808 ≤ a ∧ a ≤ 9223372036854775807 := by
  simp only [Lit.wf, IntKind.min, IntKind.max, IntKind.signed, IntKind.bits, Bool.and_eq_true, decide_eq_true_eq, if_true] at h
  omega
theorem rd_nat (l : List Int) (i : Nat) (h : i < l.length) : rd l (i : Int) = l[i] := by
  unfold rd
  rw [List.getD_eq_getElem?_getD, show ((i : Int).toNat) = i by omega, List.getElem?_eq_getElem h]
  rfl
theorem next64 {i : Nat} (h : i ≤ 4611686018427387904) : wrap64 ((i : Int) + 1) = ((i + 1 : Nat) : Int) := by
  rw [w64 (by omega) (by omega)]
  omega

theorem toIntS_l (l : List Int) (hl : l.length ≤ 4611686018427387904) : ∀ (d i : Nat) (y : List Int) (k : Nat), i + d = l.length → y.length = l.length → (∀ j, j < i → y[j]? = l[j]?) → d < k → laws_toIntS.l0 k l y (i : Int) = some l
  | 0, i, y, k, h1, h2, h3, hk => by
    obtain ⟨k, rfl⟩ : ∃ m, k = m + 1 := ⟨k - 1, by omega⟩
    simp only [laws_toIntS.l0]
    rw [if_neg (by omega)]
    congr 1
    apply List.ext_getElem?
    intro j
    by_cases hj : j < i
    · exact h3 j hj
    · rw [List.getElem?_eq_none (by omega), List.getElem?_eq_none (by omega)]
  | d + 1, i, y, k, h1, h2, h3, hk => by
    obtain ⟨k, rfl⟩ : ∃ m, k = m + 1 := ⟨k - 1, by omega⟩
    simp only [laws_toIntS.l0]
    rw [if_pos (by omega), if_pos (by omega), if_pos (by omega), next64 (by omega), rd_nat l i (by omega)]
    refine toIntS_l l hl d (i + 1) _ k (by omega) (by rw [List.length_set]; exact h2) (fun j hj => ?_) (by omega)
    rw [show ((i : Int).toNat) = i by omega, List.getElem?_set]
    by_cases e : i = j
    · subst e
      rw [if_pos rfl, if_pos (by omega), List.getElem?_eq_getElem (by omega)]
    · rw [if_neg e]
      exact h3 j (by omega)
theorem toIntS_val (l : List Int) (hl : l.length ≤ 1048576) (k : Nat) (hk : l.length < k) : laws_toIntS.f k l = some l := by
  unfold laws_toIntS.f
  rw [if_pos (by omega), if_pos (by omega)]
  exact toIntS_l l (by omega) l.length 0 _ k (by omega) (by rw [List.length_replicate]; omega) (fun j hj => absurd hj (by omega)) hk

theorem eqIntS_l (l : List Int) (hl : l.length ≤ 4611686018427387904) : ∀ (d i k : Nat), i + d = l.length → d < k → laws_eqIntS.l0 k l l (i : Int) = some true
  | 0, i, k, h1, hk => by
    obtain ⟨k, rfl⟩ : ∃ m, k = m + 1 := ⟨k - 1, by omega⟩
    simp only [laws_eqIntS.l0]
    rw [if_neg (by omega)]
  | d + 1, i, k, h1, hk => by
    obtain ⟨k, rfl⟩ : ∃ m, k = m + 1 := ⟨k - 1, by omega⟩
    simp only [laws_eqIntS.l0]
    rw [if_pos (by omega), if_pos (by omega), if_pos (by omega), if_true, next64 (by omega)]
    exact eqIntS_l l hl d (i + 1) k (by omega) (by omega)
theorem eqIntS_val (l : List Int) (hl : l.length ≤ 4611686018427387904) (k : Nat) (hk : l.length < k) : laws_eqIntS.f k l l = some true := by
  unfold laws_eqIntS.f
  rw [if_pos rfl]
  exact eqIntS_l l hl l.length 0 k (by omega) hk

theorem rdB_nat (l : List Bool) (i : Nat) (h : i < l.length) : rdOf false l (i : Int) = l[i] := by
  unfold rdOf
  rw [List.getD_eq_getElem?_getD, show ((i : Int).toNat) = i by omega, List.getElem?_eq_getElem h]
  rfl

theorem toBoolS_l (l : List Bool) (hl : l.length ≤ 4611686018427387904) : ∀ (d i : Nat) (y : List Bool) (k : Nat), i + d = l.length → y.length = l.length → (∀ j, j < i → y[j]? = l[j]?) → d < k → laws_toBoolS.l0 k l y (i : Int) = some l
  | 0, i, y, k, h1, h2, h3, hk => by
    obtain ⟨k, rfl⟩ : ∃ m, k = m + 1 := ⟨k - 1, by omega⟩
    simp only [laws_toBoolS.l0]
    rw [if_neg (by omega)]
    congr 1
    apply List.ext_getElem?
    intro j
    by_cases hj : j < i
    · exact h3 j hj
    · rw [List.getElem?_eq_none (by omega), List.getElem?_eq_none (by omega)]
  | d + 1, i, y, k, h1, h2, h3, hk => by
    obtain ⟨k, rfl⟩ : ∃ m, k = m + 1 := ⟨k - 1, by omega⟩
    simp only [laws_toBoolS.l0]
    rw [if_pos (by omega), if_pos (by omega), if_pos (by omega), next64 (by omega), rdB_nat l i (by omega)]
    refine toBoolS_l l hl d (i + 1) _ k (by omega) (by rw [List.length_set]; exact h2) (fun j hj => ?_) (by omega)
    rw [show ((i : Int).toNat) = i by omega, List.getElem?_set]
    by_cases e : i = j
    · subst e
      rw [if_pos rfl, if_pos (by omega), List.getElem?_eq_getElem (by omega)]
    · rw [if_neg e]
      exact h3 j (by omega)
theorem toBoolS_val (l : List Bool) (hl : l.length ≤ 1048576) (k : Nat) (hk : l.length < k) : laws_toBoolS.f k l = some l := by
  unfold laws_toBoolS.f
  rw [if_pos (by omega), if_pos (by omega)]
  exact toBoolS_l l (by omega) l.length 0 _ k (by omega) (by rw [List.length_replicate]; omega) (fun j hj => absurd hj (by omega)) hk

theorem eqBoolS_l (l : List Bool) (hl : l.length ≤ 4611686018427387904) : ∀ (d i k : Nat), i + d = l.length → d < k → laws_eqBoolS.l0 k l l (i : Int) = some true
  | 0, i, k, h1, hk => by
    obtain ⟨k, rfl⟩ : ∃ m, k = m + 1 := ⟨k - 1, by omega⟩
    simp only [laws_eqBoolS.l0]
    rw [if_neg (by omega)]
  | d + 1, i, k, h1, hk => by
    obtain ⟨k, rfl⟩ : ∃ m, k = m + 1 := ⟨k - 1, by omega⟩
    simp only [laws_eqBoolS.l0]
    rw [if_pos (by omega), if_pos (by omega), if_pos (by omega), bne_self_eq_false, if_neg Bool.false_ne_true, next64 (by omega)]
    exact eqBoolS_l l hl d (i + 1) k (by omega) (by omega)
theorem eqBoolS_val (l : List Bool) (hl : l.length ≤ 4611686018427387904) (k : Nat) (hk : l.length < k) : laws_eqBoolS.f k l l = some true := by
  unfold laws_eqBoolS.f
  rw [if_pos rfl]
  exact eqBoolS_l l hl l.length 0 k (by omega) hk

theorem szI_val (l : List Int) (a : Int) (h0 : 0 ≤ a) (h1 : a ≤ 1048576) (hl : l.length ≤ 9223372036854775807) : ∃ t, laws_szIntS.f l a = some t ∧ t ≤ 1048576 ∧ (0 ≤ t → (l.length : Int) ≤ a) := by
  unfold laws_szIntS.f
  rw [w64 (by omega) (by omega)]
  by_cases h : a - (l.length : Int) < 0
  · rw [if_pos h]
    exact ⟨-1, rfl, by omega, fun h => absurd h (by omega)⟩
  · rw [if_neg h]
    exact ⟨_, rfl, by omega, fun _ => by omega⟩
theorem szB_val (l : List Bool) (a : Int) (h0 : 0 ≤ a) (h1 : a ≤ 1048576) (hl : l.length ≤ 9223372036854775807) : ∃ t, laws_szBoolS.f l a = some t ∧ t ≤ 1048576 ∧ (0 ≤ t → (l.length : Int) ≤ a) := by
  unfold laws_szBoolS.f
  rw [w64 (by omega) (by omega)]
  by_cases h : a - (l.length : Int) < 0
  · rw [if_pos h]
    exact ⟨-1, rfl, by omega, fun h => absurd h (by omega)⟩
  · rw [if_neg h]
    exact ⟨_, rfl, by omega, fun _ => by omega⟩
theorem szMachine_val (a : Int) (l1 l2 : List Int) (l3 : List Bool) (h1 : l1.length ≤ 9223372036854775807) (h2 : l2.length ≤ 9223372036854775807) (h3 : l3.length ≤ 9223372036854775807) :
    ∃ t, laws_szMachine.f a l1 l2 l3 1048576 = some t ∧ (0 ≤ t → l1.length ≤ 1048576 ∧ l2.length ≤ 1048576 ∧ l3.length ≤ 1048576) := by
  unfold laws_szMachine.f
  obtain ⟨t1, e1, b1, c1⟩ := szI_val l1 1048576 (by omega) (by omega) h1
  rw [e1]
  simp only [Option.bind_some]
  by_cases n1 : t1 < 0
  · rw [if_pos n1]
    exact ⟨-1, rfl, fun h => absurd h (by omega)⟩
  · rw [if_neg n1]
    obtain ⟨t2, e2, b2, c2⟩ := szI_val l2 t1 (by omega) b1 h2
    rw [e2]
    simp only [Option.bind_some]
    by_cases n2 : t2 < 0
    · rw [if_pos n2]
      exact ⟨-1, rfl, fun h => absurd h (by omega)⟩
    · rw [if_neg n2]
      obtain ⟨t3, e3, b3, c3⟩ := szB_val l3 t2 (by omega) b2 h3
      rw [e3]
      simp only [Option.bind_some]
      by_cases n3 : t3 < 0
      · rw [if_pos n3]
        exact ⟨-1, rfl, fun h => absurd h (by omega)⟩
      · rw [if_neg n3]
        have := c1 (by omega)
        have := c2 (by omega)
        have := c3 (by omega)
        exact ⟨t3, rfl, fun _ => ⟨by omega, by omega, by omega⟩⟩
theorem toMachine_val (a : Int) (l1 l2 : List Int) (l3 : List Bool) (h1 : l1.length ≤ 1048576) (h2 : l2.length ≤ 1048576) (h3 : l3.length ≤ 1048576) (k : Nat) (hk : 3000000 ≤ k) : laws_toMachine.f k a l1 l2 l3 = some (a, l1, l2, l3) := by
  unfold laws_toMachine.f
  rw [toIntS_val l1 h1 k (by omega)]
  simp only [Option.bind_some]
  rw [toIntS_val l2 h2 k (by omega)]
  simp only [Option.bind_some]
  rw [toBoolS_val l3 h3 k (by omega)]
  rfl
theorem eqMachine_val (a : Int) (l1 l2 : List Int) (l3 : List Bool) (h1 : l1.length ≤ 1048576) (h2 : l2.length ≤ 1048576) (h3 : l3.length ≤ 1048576) (k : Nat) (hk : 3000000 ≤ k) : laws_eqMachine.f k a l1 l2 l3 a l1 l2 l3 = some true := by
  unfold laws_eqMachine.f
  first | rw [if_pos rfl] | rw [if_true]
  rw [eqIntS_val l1 (by omega) k (by omega)]
  simp only [Option.bind_some]
  first | rw [if_pos rfl] | rw [if_true]
  rw [eqIntS_val l2 (by omega) k (by omega)]
  simp only [Option.bind_some]
  first | rw [if_pos rfl] | rw [if_true]
  rw [eqBoolS_val l3 (by omega) k (by omega)]
  rfl

theorem specIn_val (n a b : Int) : spec_l1In.f n a b = some (decide (a ≤ n) && decide (n ≤ b)) := by
  unfold spec_l1In.f
  by_cases h : n ≥ a
  · rw [if_pos h]
    simp [h]
  · rw [if_neg h]
    simp [h]
theorem implIn_val (n a b : Int) : impl_in.f n a b = some (decide (a ≤ n) && decide (n ≤ b)) := by
  unfold impl_in.f
  by_cases h : n ≥ a
  · rw [if_pos h]
    simp [h]
  · rw [if_neg h]
    simp [h]
theorem all_l (l : List Int) (a b : Int) (hl : l.length ≤ 1048576) : ∀ (d i k : Nat), i + d = l.length → d < k → spec_l1All.l0 k a b l (l.length : Int) (i : Int) = some ((l.drop i).all fun n => decide (a ≤ n) && decide (n ≤ b))
  | 0, i, k, h1, hk => by
    obtain ⟨k, rfl⟩ : ∃ m, k = m + 1 := ⟨k - 1, by omega⟩
    simp only [spec_l1All.l0]
    rw [if_neg (by omega), List.drop_of_length_le (by omega)]
    rfl
  | d + 1, i, k, h1, hk => by
    obtain ⟨k, rfl⟩ : ∃ m, k = m + 1 := ⟨k - 1, by omega⟩
    have hil : i < l.length := by omega
    simp only [spec_l1All.l0]
    rw [if_pos (by omega), if_pos (by omega), if_pos (by omega), rd_nat l i hil, next64 (by omega), specIn_val, List.drop_eq_getElem_cons hil, List.all_cons]
    simp only [Option.bind_some]
    cases (decide (a ≤ l[i]) && decide (l[i] ≤ b)) with
    | false => rfl
    | true =>
      first | rw [if_pos rfl] | rw [if_true]
      rw [all_l l a b hl d (i + 1) k (by omega) (by omega)]
      rfl
theorem all_val (l : List Int) (a b : Int) (hl : l.length ≤ 1048576) (k : Nat) (hk : 3000000 ≤ k) : spec_l1All.f k l a b = some (l.all fun n => decide (a ≤ n) && decide (n ≤ b)) := by
  unfold spec_l1All.f
  have := all_l l a b hl l.length 0 k (by omega) (by omega)
  simpa using this
theorem areWords_val (l : List Int) : impl_areWords.f l = some (l.all fun n => decide (0 ≤ n) && decide (n ≤ 65535)) := by
  unfold impl_areWords.f
  rw [List.all_eq_not_any_not]
theorem good_same (a : Int) (l1 l2 : List Int) (l3 : List Bool) (h1 : l1.length ≤ 1048576) (h2 : l2.length ≤ 1048576) (k : Nat) (hk : 3000000 ≤ k) : ∃ b, spec_GoodMachine.f k a l1 l2 l3 = some b ∧ impl_GoodMachine.f a l1 l2 l3 = some b := by
  unfold spec_GoodMachine.f impl_GoodMachine.f
  rw [specIn_val, implIn_val, all_val l1 _ _ h1 k hk, all_val l2 _ _ h2 k hk, areWords_val, areWords_val]
  simp only [Option.bind_some]
  cases (decide (0 ≤ a) && decide (a ≤ 19)) with
  | false => exact ⟨_, rfl, rfl⟩
  | true =>
    first | rw [if_pos rfl] | rw [if_true]
    first | rw [if_pos rfl] | rw [if_true]
    by_cases c1 : (l1.length : Int) = 6
    · rw [if_pos c1, if_pos c1]
      cases l1.all fun n => decide (0 ≤ n) && decide (n ≤ 65535) with
      | false =>
        refine ⟨false, rfl, ?_⟩
        split
        · split
          · rfl
          · rfl
        · rfl
      | true =>
        first | rw [if_pos rfl] | rw [if_true]
        by_cases c2 : (l2.length : Int) = 16
        · rw [if_pos c2, if_pos c2]
          by_cases c3 : (l3.length : Int) = 16
          · rw [if_pos c3, if_pos rfl]
            cases l2.all fun n => decide (0 ≤ n) && decide (n ≤ 65535) with
            | false => exact ⟨false, rfl, rfl⟩
            | true => exact ⟨true, by rw [if_pos rfl, c3]; rfl, rfl⟩
          · rw [if_neg c3]
            have h3 : ((l3.length : Int) == 16) = false := beq_eq_false_iff_ne.2 c3
            rw [h3]
            refine ⟨false, ?_, rfl⟩
            split <;> rfl
        · rw [if_neg c2, if_neg c2]
          exact ⟨_, rfl, rfl⟩
    · rw [if_neg c1, if_neg c1]
      exact ⟨_, rfl, rfl⟩

theorem FnExactGoodMachine : laws_FnExactGoodMachine.Pure := by
  rintro a l1 l2 l3 ha ⟨h1, _⟩ ⟨h2, _⟩ ⟨h3, _⟩
  obtain ⟨k, hk⟩ : ∃ k : Nat, 6000000 ≤ k := ⟨_, Nat.le_refl _⟩
  refine ⟨k, ?_⟩
  obtain ⟨t, ht, hte⟩ := szMachine_val a l1 l2 l3 h1 h2 h3
  unfold laws_FnExactGoodMachine.f
  rw [ht]
  simp only [Option.bind_some]
  by_cases hn : t < 0
  · rw [if_pos hn]
  · obtain ⟨b1, b2, b3⟩ := hte (by omega)
    obtain ⟨b, hs, hi⟩ := good_same a l1 l2 l3 b1 b2 k (by omega)
    rw [if_neg hn, toMachine_val a l1 l2 l3 b1 b2 b3 k (by omega)]
    simp only [Option.bind_some, hs, hi]
    rw [bne_self_eq_false, if_neg Bool.false_ne_true, eqMachine_val a l1 l2 l3 b1 b2 b3 k (by omega)]
    simp

end Go.Proofs.Ytemgmpbionkjhaa.Pure
