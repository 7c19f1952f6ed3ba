/- The pure statement of the law FnExactGoodDiagram: the printed functions of the program and of the reference give the same answers, at every input that the statement's guards let in. -/
import Derived.Test.YtjopmdogdmdanaaPFnExactGoodDiagramx9
namespace Go.Proofs.Ytjopmdogdmdanaa.Pure
open Go.RowKit Go.Proofs.Ytjopmdogdmdanaa.PFnExactGoodDiagram Go.Proofs.YtjopmdogdmdanaaW.PrintWords Go.Proofs.YtjopmdogdmdanaaW.PrintLast Go.Proofs.YtjopmdogdmdanaaW.PrintMore
set_option linter.unusedSimpArgs false
set_option linter.unusedVariables false
theorem w64 {x : Int} (h0 : -9223372036854775808 ≤ x) (h1 : x ≤ 9223372036854775807) : wrap64 x = x := by
  unfold wrap64
  omega
theorem next64 {i : Nat} (h : i ≤ 4611686018427387904) : wrap64 ((i : Int) + 1) = ((i + 1 : Nat) : Int) := by
  rw [w64 (by omega) (by omega)]
  omega

theorem rdB_nat (l : List Bool) (i : Nat) (h : i < l.length) : rdOf false l (i : Int) = l[i] := by
  unfold rdOf
  rw [List.getD_eq_getElem?_getD, show ((i : Int).toNat) = i by omega, List.getElem?_eq_getElem h]
  rfl

/-- Every second answer, from the first (or the second) on. -/
def everyB : List Bool → List Bool
  | [] => []
  | [a] => [a]
  | a :: _ :: r => a :: everyB r
theorem everyB_length : ∀ l : List Bool, (everyB l).length = (l.length + 1) / 2
  | [] => rfl
  | [a] => by simp [everyB]
  | a :: b :: r => by
    simp only [everyB, List.length_cons]
    rw [everyB_length r]
    omega
theorem everyB_drop (l : List Bool) (i : Nat) (h : i < l.length) : everyB (l.drop i) = l[i] :: everyB (l.drop (i + 2)) := by
  rw [List.drop_eq_getElem_cons h]
  by_cases h2 : i + 1 < l.length
  · rw [List.drop_eq_getElem_cons h2]
    rfl
  · rw [List.drop_of_length_le (by omega), List.drop_of_length_le (by omega)]
    rfl
theorem half_l (l : List Bool) (hl : l.length ≤ 1048576) : ∀ (d i k : Nat) (y : List Bool), l.length ≤ i + 2 * d → y.length ≤ i → i ≤ l.length + 2 → d < k → spec_l7Half.l0 k l y (i : Int) = some (y ++ everyB (l.drop i))
  | 0, i, k, y, h1, h2, h3, hk => by
    obtain ⟨k, rfl⟩ : ∃ m, k = m + 1 := ⟨k - 1, by omega⟩
    simp only [spec_l7Half.l0]
    rw [if_neg (by omega), List.drop_of_length_le (by omega)]
    simp [everyB]
  | d + 1, i, k, y, h1, h2, h3, hk => by
    obtain ⟨k, rfl⟩ : ∃ m, k = m + 1 := ⟨k - 1, by omega⟩
    simp only [spec_l7Half.l0]
    by_cases c : i < l.length
    · rw [if_pos (by omega), if_pos (by omega), if_pos (by omega), rdB_nat l i c, show wrap64 ((i : Int) + 2) = ((i + 2 : Nat) : Int) by rw [w64 (by omega) (by omega)]; omega, half_l l hl d (i + 2) k _ (by omega) (by rw [List.length_append]; simp; omega) (by omega) (by omega), everyB_drop l i c, List.append_assoc]
      rfl
    · rw [if_neg (by omega), List.drop_of_length_le (by omega)]
      simp [everyB]
theorem half_val (l : List Bool) (hl : l.length ≤ 1048576) (i : Nat) (hi : i ≤ 1) (k : Nat) (hk : l.length < k) : spec_l7Half.f k l (i : Int) = some (everyB (l.drop i)) := by
  unfold spec_l7Half.f
  have := half_l l hl l.length i k [] (by omega) (by simp) (by omega) hk
  simpa using this
theorem sameT_l (a b : List Bool) (he : a.length = b.length) (hl : a.length ≤ 1048576) : ∀ (d i k : Nat), i + d = a.length → d < k → spec_l7SameTable.l0 k a b (a.length : Int) (i : Int) = some (decide (a.drop i = b.drop i))
  | 0, i, k, h1, hk => by
    obtain ⟨k, rfl⟩ : ∃ m, k = m + 1 := ⟨k - 1, by omega⟩
    simp only [spec_l7SameTable.l0]
    rw [if_neg (by omega), List.drop_of_length_le (by omega), List.drop_of_length_le (by omega)]
    simp
  | d + 1, i, k, h1, hk => by
    obtain ⟨k, rfl⟩ : ∃ m, k = m + 1 := ⟨k - 1, by omega⟩
    have ha : i < a.length := by omega
    have hb : i < b.length := by omega
    simp only [spec_l7SameTable.l0]
    rw [if_pos (by omega), if_pos (by omega), if_pos (by omega), if_pos (by omega), rdB_nat a i ha, rdB_nat b i hb, next64 (by omega), sameT_l a b he hl d (i + 1) k (by omega) (by omega), List.drop_eq_getElem_cons ha, List.drop_eq_getElem_cons hb]
    by_cases c : a[i] = b[i]
    · rw [c, bne_self_eq_false, if_neg Bool.false_ne_true]
      simp only [List.cons.injEq, true_and]
    · rw [if_pos (by simpa using c), decide_eq_false (fun h => c (List.cons.inj h).1)]
theorem sameT_val (a b : List Bool) (he : a.length = b.length) (hl : a.length ≤ 1048576) (k : Nat) (hk : a.length < k) : spec_l7SameTable.f k a b = some (decide (a = b)) := by
  unfold spec_l7SameTable.f
  have := sameT_l a b he hl a.length 0 k (by omega) hk
  simpa using this
theorem eqBB_l (a b : List Bool) (he : a.length = b.length) (hl : a.length ≤ 1048576) : ∀ (d i k : Nat), i + d = a.length → d < k → slices_Equal_bool_bool.l0 k a b (a.length : Int) (i : Int) = some (decide (a.drop i = b.drop i))
  | 0, i, k, h1, hk => by
    obtain ⟨k, rfl⟩ : ∃ m, k = m + 1 := ⟨k - 1, by omega⟩
    simp only [slices_Equal_bool_bool.l0]
    rw [if_neg (by omega), List.drop_of_length_le (by omega), List.drop_of_length_le (by omega)]
    simp
  | d + 1, i, k, h1, hk => by
    obtain ⟨k, rfl⟩ : ∃ m, k = m + 1 := ⟨k - 1, by omega⟩
    have ha : i < a.length := by omega
    have hb : i < b.length := by omega
    simp only [slices_Equal_bool_bool.l0]
    rw [if_pos (by omega), if_pos (by omega), if_pos (by omega), if_pos (by omega), rdB_nat a i ha, rdB_nat b i hb, next64 (by omega), eqBB_l a b he hl d (i + 1) k (by omega) (by omega), List.drop_eq_getElem_cons ha, List.drop_eq_getElem_cons hb]
    by_cases c : a[i] = b[i]
    · rw [c, bne_self_eq_false, if_neg Bool.false_ne_true]
      simp only [List.cons.injEq, true_and]
    · rw [if_pos (by simpa using c), decide_eq_false (fun h => c (List.cons.inj h).1)]
theorem eqBB_val (a b : List Bool) (hl : a.length ≤ 1048576) (k : Nat) (hk : a.length < k) : slices_Equal_bool_bool.f k a b = some (decide (a = b)) := by
  unfold slices_Equal_bool_bool.f
  by_cases he : a.length = b.length
  · rw [if_pos (by omega)]
    have := eqBB_l a b he hl a.length 0 k (by omega) hk
    simpa using this
  · rw [if_neg (by omega), decide_eq_false (fun h => he (by rw [h]))]

theorem rd92_nat (l : List S92) (i : Nat) (h : i < l.length) : rd_T92 l (i : Int) = l[i] := by
  unfold rd_T92
  rw [List.getD_eq_getElem?_getD, show ((i : Int).toNat) = i by omega, List.getElem?_eq_getElem h]
  rfl
/-- Where a node stands, or -1. -/
def fnd (v q s : Int) : List S92 → Int → Int
  | [], _ => -1
  | y :: r, i => if (v == y.f0 && (q == y.f1 && s == y.f2)) = true then i else fnd v q s r (i + 1)
def put_ (v q s : Int) (l : List S92) : Int × List S92 := if fnd v q s l 0 < 0 then (wrap64 ((l.length : Int) + 2), l ++ [⟨v, q, s⟩]) else (wrap64 (fnd v q s l 0 + 2), l)
theorem put_length (v q s : Int) (l : List S92) : (put_ v q s l).2.length ≤ l.length + 1 := by
  unfold put_
  split
  · rw [List.length_append]
    simp
  · simp
/-- The reduced diagram of a table of n variables. -/
def bld : Nat → Int → List S92 → List Bool → Int × List S92
  | 0, _, ns, t => (if rdOf false t 0 = true then 1 else 0, ns)
  | n + 1, v, ns, t => if everyB t = everyB (t.drop 1) then bld n (wrap64 (v + 1)) ns (everyB t) else put_ v (bld n (wrap64 (v + 1)) ns (everyB t)).1 (bld n (wrap64 (v + 1)) (bld n (wrap64 (v + 1)) ns (everyB t)).2 (everyB (t.drop 1))).1 (bld n (wrap64 (v + 1)) (bld n (wrap64 (v + 1)) ns (everyB t)).2 (everyB (t.drop 1))).2
theorem bld_length : ∀ (n : Nat) (v : Int) (ns : List S92) (t : List Bool), (bld n v ns t).2.length + 1 ≤ ns.length + 2 ^ n
  | 0, v, ns, t => by simp [bld]
  | n + 1, v, ns, t => by
    have hp : 2 ^ (n + 1) = 2 ^ n * 2 := Nat.pow_succ ..
    have h1 : 1 ≤ 2 ^ n := Nat.one_le_two_pow
    unfold bld
    split
    · have := bld_length n (wrap64 (v + 1)) ns (everyB t)
      omega
    · have a := bld_length n (wrap64 (v + 1)) ns (everyB t)
      have b := bld_length n (wrap64 (v + 1)) (bld n (wrap64 (v + 1)) ns (everyB t)).2 (everyB (t.drop 1))
      have c := put_length v (bld n (wrap64 (v + 1)) ns (everyB t)).1 (bld n (wrap64 (v + 1)) (bld n (wrap64 (v + 1)) ns (everyB t)).2 (everyB (t.drop 1))).1 (bld n (wrap64 (v + 1)) (bld n (wrap64 (v + 1)) ns (everyB t)).2 (everyB (t.drop 1))).2
      omega
theorem tmod2 (i : Nat) : Int.tmod (i : Int) 2 = (i : Int) % 2 := Int.tmod_eq_emod_of_nonneg (by omega)
theorem split_l (t : List Bool) (hl : t.length ≤ 1048576) : ∀ (d i k : Nat) (x y : List Bool), t.length ≤ i + d → x.length ≤ i → y.length ≤ i → i ≤ t.length → d < k →
    impl_Diagram_build.l0 k t x y (i : Int) = some (if i % 2 = 0 then (x ++ everyB (t.drop i), y ++ everyB (t.drop (i + 1))) else (x ++ everyB (t.drop (i + 1)), y ++ everyB (t.drop i)))
  | 0, i, k, x, y, h1, h2, h3, h4, hk => by
    obtain ⟨k, rfl⟩ : ∃ m, k = m + 1 := ⟨k - 1, by omega⟩
    simp only [impl_Diagram_build.l0]
    rw [if_neg (by omega), List.drop_of_length_le (by omega), List.drop_of_length_le (by omega)]
    simp [everyB]
  | d + 1, i, k, x, y, h1, h2, h3, h4, hk => by
    obtain ⟨k, rfl⟩ : ∃ m, k = m + 1 := ⟨k - 1, by omega⟩
    simp only [impl_Diagram_build.l0]
    by_cases c : i < t.length
    · rw [if_pos (by omega), if_pos (by omega), rdB_nat t i c, next64 (by omega), tmod2]
      by_cases e : i % 2 = 0
      · rw [if_pos (by omega), if_pos (by omega), split_l t hl d (i + 1) k _ y (by omega) (by rw [List.length_append]; simp; omega) (by omega) (by omega) (by omega), if_neg (by omega), if_pos e, everyB_drop t i c]
        simp
      · rw [if_neg (by omega), if_pos (by omega), split_l t hl d (i + 1) k x _ (by omega) (by omega) (by rw [List.length_append]; simp; omega) (by omega) (by omega), if_pos (by omega), if_neg e, everyB_drop t i c]
        simp
    · rw [if_neg (by omega), List.drop_of_length_le (by omega), List.drop_of_length_le (by omega)]
      simp [everyB]
theorem split_val (t : List Bool) (hl : t.length ≤ 1048576) (k : Nat) (hk : t.length < k) : impl_Diagram_build.l0 k t [] [] 0 = some (everyB t, everyB (t.drop 1)) := by
  have := split_l t hl t.length 0 k [] [] (by omega) (by simp) (by simp) (by omega) hk
  simpa using this
theorem sfnd_l (l : List S92) (v q s : Int) (hl : l.length ≤ 1048576) : ∀ (d i k : Nat), i + d = l.length → d < k → spec_l7B_build.l1 k l v q s (i : Int) = some (fnd v q s (l.drop i) (i : Int))
  | 0, i, k, h1, hk => by
    obtain ⟨k, rfl⟩ : ∃ m, k = m + 1 := ⟨k - 1, by omega⟩
    simp only [spec_l7B_build.l1]
    rw [if_neg (by omega), List.drop_of_length_le (by omega)]
    rfl
  | d + 1, i, k, h1, hk => by
    obtain ⟨k, rfl⟩ : ∃ m, k = m + 1 := ⟨k - 1, by omega⟩
    have hi : i < l.length := by omega
    simp only [spec_l7B_build.l1]
    rw [if_pos (by omega), if_pos (by omega), rd92_nat l i hi, next64 (by omega), List.drop_eq_getElem_cons hi]
    simp only [fnd]
    rw [show (l[i].f0 == v && (l[i].f1 == q && l[i].f2 == s)) = (v == l[i].f0 && (q == l[i].f1 && s == l[i].f2)) by rw [Bool.beq_comm (a := l[i].f0), Bool.beq_comm (a := l[i].f1), Bool.beq_comm (a := l[i].f2)]]
    by_cases c : (v == l[i].f0 && (q == l[i].f1 && s == l[i].f2)) = true
    · rw [if_pos c, if_pos c]
    · rw [if_neg c, if_neg c, sfnd_l l v q s hl d (i + 1) k (by omega) (by omega)]
      rw [show ((i + 1 : Nat) : Int) = (i : Int) + 1 by omega]
theorem sfnd_val (l : List S92) (v q s : Int) (hl : l.length ≤ 1048576) (k : Nat) (hk : l.length < k) : spec_l7B_build.l1 k l v q s 0 = some (fnd v q s l 0) := by
  simpa using sfnd_l l v q s hl l.length 0 k (by omega) hk

theorem idx_l (l : List S92) (v q s : Int) (hl : l.length ≤ 1048576) : ∀ (d i k : Nat), i + d = l.length → d < k → impl_Node_100.l0 k l (l.length : Int) (i : Int) v q s = some (fnd v q s (l.drop i) (i : Int))
  | 0, i, k, h1, hk => by
    obtain ⟨k, rfl⟩ : ∃ m, k = m + 1 := ⟨k - 1, by omega⟩
    simp only [impl_Node_100.l0]
    rw [if_neg (by omega), List.drop_of_length_le (by omega)]
    rfl
  | d + 1, i, k, h1, hk => by
    obtain ⟨k, rfl⟩ : ∃ m, k = m + 1 := ⟨k - 1, by omega⟩
    have hi : i < l.length := by omega
    simp only [impl_Node_100.l0]
    rw [if_pos (by omega), if_pos (by omega), if_pos (by omega), rd92_nat l i hi, next64 (by omega), List.drop_eq_getElem_cons hi]
    simp only [fnd]
    by_cases c : (v == l[i].f0 && (q == l[i].f1 && s == l[i].f2)) = true
    · rw [if_pos c, if_pos c]
    · rw [if_neg c, if_neg c, idx_l l v q s hl d (i + 1) k (by omega) (by omega)]
      rw [show ((i + 1 : Nat) : Int) = (i : Int) + 1 by omega]
theorem idx_val (l : List S92) (v q s : Int) (hl : l.length ≤ 1048576) (k : Nat) (hk : l.length < k) : impl_Node_100.f k l v q s = some (fnd v q s l 0) := by
  unfold impl_Node_100.f
  simpa using idx_l l v q s hl l.length 0 k (by omega) hk

theorem implBld : ∀ (n k : Nat) (v : Int) (ns : List S92) (t : List Bool), t.length = 2 ^ n → ns.length + 2 ^ n ≤ 1000000 → 2000000 + n ≤ k → impl_Diagram_build.f k v ns t = some (bld n v ns t)
  | 0, k, v, ns, t, h1, h2, hk => by
    obtain ⟨k, rfl⟩ : ∃ m, k = m + 1 := ⟨k - 1, by omega⟩
    simp only [impl_Diagram_build.f, bld]
    rw [if_pos (by omega)]
    split <;> rfl
  | n + 1, k, v, ns, t, h1, h2, hk => by
    obtain ⟨k, rfl⟩ : ∃ m, k = m + 1 := ⟨k - 1, by omega⟩
    have hp : 2 ^ (n + 1) = 2 ^ n * 2 := Nat.pow_succ ..
    have h0 : 1 ≤ 2 ^ n := Nat.one_le_two_pow
    have ha : (everyB t).length = 2 ^ n := by rw [everyB_length]; omega
    have hb : (everyB (t.drop 1)).length = 2 ^ n := by rw [everyB_length, List.length_drop]; omega
    simp only [impl_Diagram_build.f]
    rw [if_neg (by omega), split_val t (by omega) k (by omega)]
    simp only [Option.bind_some]
    rw [eqBB_val _ _ (by omega) k (by omega)]
    simp only [Option.bind_some, bld]
    by_cases e : everyB t = everyB (t.drop 1)
    · rw [if_pos (by simpa using e), if_pos e, implBld n k _ ns _ ha (by omega) (by omega)]
    · rw [if_neg (by simpa using e), if_neg e, implBld n k _ ns _ ha (by omega) (by omega)]
      simp only [Option.bind_some]
      have l1 := bld_length n (wrap64 (v + 1)) ns (everyB t)
      rw [implBld n k _ _ _ hb (by omega) (by omega)]
      simp only [Option.bind_some]
      have l2 := bld_length n (wrap64 (v + 1)) (bld n (wrap64 (v + 1)) ns (everyB t)).2 (everyB (t.drop 1))
      rw [idx_val _ _ _ _ (by omega) k (by omega)]
      simp only [Option.bind_some, put_]
      by_cases c : fnd v (bld n (wrap64 (v + 1)) ns (everyB t)).1 (bld n (wrap64 (v + 1)) (bld n (wrap64 (v + 1)) ns (everyB t)).2 (everyB (t.drop 1))).1 (bld n (wrap64 (v + 1)) (bld n (wrap64 (v + 1)) ns (everyB t)).2 (everyB (t.drop 1))).2 0 < 0
      · rw [if_pos c, if_pos c, if_pos (by omega)]
      · rw [if_neg c, if_neg c]
theorem specBld : ∀ (n k : Nat) (v : Int) (ns : List S92) (t : List Bool), t.length = 2 ^ n → ns.length + 2 ^ n ≤ 1000000 → 2000000 + n ≤ k → spec_l7B_build.f k v ns t = some (bld n v ns t)
  | 0, k, v, ns, t, h1, h2, hk => by
    obtain ⟨k, rfl⟩ : ∃ m, k = m + 1 := ⟨k - 1, by omega⟩
    simp only [spec_l7B_build.f, bld]
    rw [if_pos (by omega)]
    split <;> rfl
  | n + 1, k, v, ns, t, h1, h2, hk => by
    obtain ⟨k, rfl⟩ : ∃ m, k = m + 1 := ⟨k - 1, by omega⟩
    have hp : 2 ^ (n + 1) = 2 ^ n * 2 := Nat.pow_succ ..
    have h0 : 1 ≤ 2 ^ n := Nat.one_le_two_pow
    have ha : (everyB t).length = 2 ^ n := by rw [everyB_length]; omega
    have hb : (everyB (t.drop 1)).length = 2 ^ n := by rw [everyB_length, List.length_drop]; omega
    have e0 : spec_l7Half.f k t 0 = some (everyB t) := by simpa using half_val t (by omega) 0 (by omega) k (by omega)
    have e1 : spec_l7Half.f k t 1 = some (everyB (t.drop 1)) := half_val t (by omega) 1 (by omega) k (by omega)
    simp only [spec_l7B_build.f]
    rw [if_neg (by omega), e0]
    simp only [Option.bind_some]
    rw [e1]
    simp only [Option.bind_some]
    rw [sameT_val _ _ (by omega) (by omega) k (by omega)]
    simp only [Option.bind_some, bld]
    by_cases e : everyB t = everyB (t.drop 1)
    · rw [if_pos (by simpa using e), if_pos e, specBld n k _ ns _ ha (by omega) (by omega)]
    · rw [if_neg (by simpa using e), if_neg e, specBld n k _ ns _ ha (by omega) (by omega)]
      simp only [Option.bind_some]
      have l1 := bld_length n (wrap64 (v + 1)) ns (everyB t)
      rw [specBld n k _ _ _ hb (by omega) (by omega)]
      simp only [Option.bind_some]
      have l2 := bld_length n (wrap64 (v + 1)) (bld n (wrap64 (v + 1)) ns (everyB t)).2 (everyB (t.drop 1))
      rw [sfnd_val _ _ _ _ (by omega) k (by omega)]
      simp only [Option.bind_some, put_]
      by_cases c : fnd v (bld n (wrap64 (v + 1)) ns (everyB t)).1 (bld n (wrap64 (v + 1)) (bld n (wrap64 (v + 1)) ns (everyB t)).2 (everyB (t.drop 1))).1 (bld n (wrap64 (v + 1)) (bld n (wrap64 (v + 1)) ns (everyB t)).2 (everyB (t.drop 1))).2 0 < 0
      · rw [if_pos c, if_pos c, if_pos (by omega)]
        congr 3
      · rw [if_neg c, if_neg c]

theorem eqNodeS_l (l : List S92) (hl : l.length ≤ 1048576) : ∀ (d i k : Nat), i + d = l.length → d < k → laws_eqNodeS.l0 k l l (i : Int) = some true
  | 0, i, k, h1, hk => by
    obtain ⟨k, rfl⟩ : ∃ m, k = m + 1 := ⟨k - 1, by omega⟩
    simp only [laws_eqNodeS.l0]
    rw [if_neg (by omega)]
  | d + 1, i, k, h1, hk => by
    obtain ⟨k, rfl⟩ : ∃ m, k = m + 1 := ⟨k - 1, by omega⟩
    simp only [laws_eqNodeS.l0, laws_eqNode.f, if_true, Option.bind_some]
    rw [if_pos (by omega), if_pos (by omega), if_pos (by omega), next64 (by omega)]
    exact eqNodeS_l l hl d (i + 1) k (by omega) (by omega)
theorem eqNodeS_val (l : List S92) (hl : l.length ≤ 1048576) (k : Nat) (hk : l.length < k) : laws_eqNodeS.f k l l = some true := by
  unfold laws_eqNodeS.f
  rw [if_pos rfl]
  exact eqNodeS_l l hl l.length 0 k (by omega) hk
theorem eqDiagram_val (a c : Int) (l : List S92) (hl : l.length ≤ 1048576) (k : Nat) (hk : l.length < k) : laws_eqDiagram.f k a l c a l c = some true := by
  unfold laws_eqDiagram.f
  rw [if_pos rfl, eqNodeS_val l hl k hk]
  simp only [Option.bind_some, if_true]

def cvN (x : S113) : S92 := ⟨x.f0, x.f1, x.f2⟩
theorem rd113_nat (l : List S113) (i : Nat) (h : i < l.length) : rd_T113 l (i : Int) = l[i] := by
  unfold rd_T113
  rw [List.getD_eq_getElem?_getD, show ((i : Int).toNat) = i by omega, List.getElem?_eq_getElem h]
  rfl
theorem szDiagram_val (a c : Int) (l : List S113) (hl : l.length ≤ 9223372036854775807) : ∃ t, laws_szDiagram.f a l c 1048576 = some t ∧ (0 ≤ t → l.length ≤ 1048576) := by
  unfold laws_szDiagram.f laws_szNodeS.f
  rw [w64 (by omega) (by omega)]
  by_cases h : (1048576 : Int) - (l.length : Int) < 0
  · rw [if_pos h]
    simp only [Option.bind_some]
    exact ⟨-1, rfl, fun h => absurd h (by omega)⟩
  · rw [if_neg h]
    simp only [Option.bind_some]
    rw [if_neg h]
    exact ⟨_, rfl, fun _ => by omega⟩
theorem toNodeS_l (l : List S113) (hl : l.length ≤ 1048576) : ∀ (d i : Nat) (y : List S92) (k : Nat), i + d = l.length → y.length = l.length → (∀ j, j < i → y[j]? = (l.map cvN)[j]?) → d < k → laws_toNodeS.l0 k l y (i : Int) = some (l.map cvN)
  | 0, i, y, k, h1, h2, h3, hk => by
    obtain ⟨k, rfl⟩ : ∃ m, k = m + 1 := ⟨k - 1, by omega⟩
    simp only [laws_toNodeS.l0]
    rw [if_neg (by omega)]
    congr 1
    apply List.ext_getElem?
    intro j
    by_cases hj : j < i
    · exact h3 j hj
    · rw [List.getElem?_eq_none (by omega), List.getElem?_eq_none (by rw [List.length_map]; omega)]
  | d + 1, i, y, k, h1, h2, h3, hk => by
    obtain ⟨k, rfl⟩ : ∃ m, k = m + 1 := ⟨k - 1, by omega⟩
    simp only [laws_toNodeS.l0, laws_toNode.f, Option.bind_some]
    rw [if_pos (by omega), if_pos (by omega), if_pos (by omega), next64 (by omega), rd113_nat l i (by omega)]
    refine toNodeS_l l hl d (i + 1) _ k (by omega) (by rw [List.length_set]; exact h2) (fun j hj => ?_) (by omega)
    rw [show ((i : Int).toNat) = i by omega, List.getElem?_set]
    by_cases e : i = j
    · subst e
      rw [if_pos rfl, if_pos (by omega), List.getElem?_map, List.getElem?_eq_getElem (by omega)]
      rfl
    · rw [if_neg e]
      exact h3 j (by omega)
theorem toDiagram_val (a c : Int) (l : List S113) (hl : l.length ≤ 1048576) (k : Nat) (hk : l.length < k) : laws_toDiagram.f k a l c = some (a, l.map cvN, c) := by
  unfold laws_toDiagram.f laws_toNodeS.f
  have h := toNodeS_l l hl l.length 0 (List.replicate ((l.length : Int)).toNat z92) k (by omega) (by rw [List.length_replicate]; omega) (fun j hj => absurd hj (by omega)) hk
  replace h : laws_toNodeS.l0 k l _ 0 = _ := h
  rw [if_pos (by omega), if_pos (by omega), h]
  rfl
def inD (x lo hi : Int) : Bool := decide (lo ≤ x ∧ x ≤ hi)
def okN (a : Int) (i : Nat) (x : S92) : Bool := inD x.f0 1 a && (inD x.f1 0 ((i + 1 : Nat) : Int) && inD x.f2 0 ((i + 1 : Nat) : Int))
def okL (a : Int) : List S92 → Nat → Bool
  | [], _ => true
  | x :: r, i => okN a i x && okL a r (i + 1)
theorem okL_at (a : Int) : ∀ (l : List S92) (i : Nat), okL a l i = true → ∀ j (h : j < l.length), okN a (i + j) l[j] = true
  | [], i, h, j, hj => by simp at hj
  | x :: r, i, h, j, hj => by
    unfold okL at h
    rw [Bool.and_eq_true] at h
    cases j with
    | zero => simpa using h.1
    | succ j =>
      have := okL_at a r (i + 1) h.2 j (by simpa using hj)
      rw [show i + (j + 1) = i + 1 + j by omega]
      simpa using this
theorem sIn (x lo hi : Int) : spec_l1In.f x lo hi = some (inD x lo hi) := by
  unfold spec_l1In.f inD
  by_cases h : x ≥ lo
  · rw [if_pos h]
    congr 1
    exact decide_eq_decide.mpr ⟨fun h2 => ⟨h, h2⟩, fun h2 => h2.2⟩
  · rw [if_neg h, decide_eq_false (fun h2 => h h2.1)]
theorem iIn (x lo hi : Int) : impl_in.f x lo hi = some (inD x lo hi) := sIn x lo hi
/-- The value that a diagram gives. -/
def ev (g : Int → Bool) (ns : List S92) : Nat → Int → Bool
  | 0, a => a == 1
  | f + 1, a => if a > 1 then ev g ns f (if g ((rd_T92 ns (a - 2)).f0 - 1) = true then (rd_T92 ns (a - 2)).f2 else (rd_T92 ns (a - 2)).f1) else a == 1
theorem okN_open {a : Int} {i : Nat} {x : S92} (h : okN a i x = true) : 1 ≤ x.f0 ∧ x.f0 ≤ a ∧ 0 ≤ x.f1 ∧ x.f1 ≤ (i : Int) + 1 ∧ 0 ≤ x.f2 ∧ x.f2 ≤ (i : Int) + 1 := by
  unfold okN inD at h
  rw [Bool.and_eq_true, Bool.and_eq_true, decide_eq_true_eq, decide_eq_true_eq, decide_eq_true_eq] at h
  obtain ⟨⟨h1, h2⟩, ⟨h3, h4⟩, h5, h6⟩ := h
  exact ⟨h1, h2, h3, by omega, h5, by omega⟩
theorem sEval_l (a : Int) (h6 : a ≤ 6) (ns : List S92) (hl : ns.length ≤ 64) (hok : okL a ns 0 = true) (r : Int) (m : List Bool) (hm : (m.length : Int) = a) (g : Int → Bool) (hg : ∀ i : Int, 0 ≤ i → i < a → rdOf false m i = g i) : ∀ (f : Nat) (c : Int) (k : Nat), 0 ≤ c → c ≤ (f : Int) + 1 → c ≤ (ns.length : Int) + 1 → f < k → spec_l7Eval.l0 k m c a ns r = some (ev g ns f c)
  | 0, c, k, h0, h1, h2, hk => by
    obtain ⟨k, rfl⟩ : ∃ m, k = m + 1 := ⟨k - 1, by omega⟩
    simp only [spec_l7Eval.l0, ev]
    rw [if_neg (by omega)]
  | f + 1, c, k, h0, h1, h2, hk => by
    obtain ⟨k, rfl⟩ : ∃ m, k = m + 1 := ⟨k - 1, by omega⟩
    simp only [spec_l7Eval.l0, ev]
    by_cases hc : c > 1
    · obtain ⟨j, hj⟩ : ∃ j : Nat, c - 2 = (j : Int) := ⟨(c - 2).toNat, by omega⟩
      have hjl : j < ns.length := by omega
      obtain ⟨o1, o2, o3, o4, o5, o6⟩ := okN_open (okL_at a ns 0 hok j hjl)
      rw [if_pos hc, if_pos hc, w64 (x := c - 2) (by omega) (by omega), hj, rd92_nat ns j hjl, if_pos (by omega), if_pos (by omega), w64 (by omega) (by omega), if_pos (by omega), if_pos (by omega), hg _ (by omega) (by omega)]
      by_cases e : g (ns[j].f0 - 1) = true
      · rw [if_pos e, if_pos e]
        exact sEval_l a h6 ns hl hok r m hm g hg f _ k (by omega) (by omega) (by omega) (by omega)
      · rw [if_neg e, if_neg e]
        exact sEval_l a h6 ns hl hok r m hm g hg f _ k (by omega) (by omega) (by omega) (by omega)
    · rw [if_neg hc, if_neg hc]
def gx (x : Int) (i : Int) : Bool := Go.bits .and .i64 (shr .i64 x i) 1 == 1
theorem iVal_l (a : Int) (h6 : a ≤ 6) (ns : List S92) (hl : ns.length ≤ 64) (hok : okL a ns 0 = true) (r x : Int) : ∀ (f : Nat) (c : Int) (k : Nat), 0 ≤ c → c ≤ (f : Int) + 1 → c ≤ (ns.length : Int) + 1 → f < k → impl_Diagram_value.l0 k x c a ns r = some (ev (gx x) ns f c)
  | 0, c, k, h0, h1, h2, hk => by
    obtain ⟨k, rfl⟩ : ∃ m, k = m + 1 := ⟨k - 1, by omega⟩
    simp only [impl_Diagram_value.l0, ev]
    rw [if_neg (by omega)]
  | f + 1, c, k, h0, h1, h2, hk => by
    obtain ⟨k, rfl⟩ : ∃ m, k = m + 1 := ⟨k - 1, by omega⟩
    simp only [impl_Diagram_value.l0, ev]
    by_cases hc : c > 1
    · obtain ⟨j, hj⟩ : ∃ j : Nat, c - 2 = (j : Int) := ⟨(c - 2).toNat, by omega⟩
      have hjl : j < ns.length := by omega
      obtain ⟨o1, o2, o3, o4, o5, o6⟩ := okN_open (okL_at a ns 0 hok j hjl)
      rw [if_pos hc, if_pos hc, w64 (x := c - 2) (by omega) (by omega), hj, rd92_nat ns j hjl, if_pos (by omega), if_pos (by omega), w64 (by omega) (by omega), if_pos (by omega)]
      by_cases e : Go.bits .and .i64 (shr .i64 x (ns[j].f0 - 1)) 1 = 1
      · rw [if_pos e, if_pos (show gx x (ns[j].f0 - 1) = true from beq_iff_eq.mpr e)]
        exact iVal_l a h6 ns hl hok r x f _ k (by omega) (by omega) (by omega) (by omega)
      · rw [if_neg e, if_neg (show ¬ gx x (ns[j].f0 - 1) = true from fun h => e (beq_iff_eq.mp h))]
        exact iVal_l a h6 ns hl hok r x f _ k (by omega) (by omega) (by omega) (by omega)
    · rw [if_neg hc, if_neg hc]
theorem uw6 {x : Int} (h0 : 0 ≤ x) (h6 : x ≤ 6) : IntKind.u64.wrap x = x := by
  have : x = 0 ∨ x = 1 ∨ x = 2 ∨ x = 3 ∨ x = 4 ∨ x = 5 ∨ x = 6 := by omega
  rcases this with rfl | rfl | rfl | rfl | rfl | rfl | rfl <;> decide
theorem p6 {a : Int} (h0 : 0 ≤ a) (h6 : a ≤ 6) : 2 ^ a.toNat ≤ 64 := by
  have : a = 0 ∨ a = 1 ∨ a = 2 ∨ a = 3 ∨ a = 4 ∨ a = 5 ∨ a = 6 := by omega
  rcases this with rfl | rfl | rfl | rfl | rfl | rfl | rfl <;> decide
theorem shi {a : Int} (h0 : 0 ≤ a) (h6 : a ≤ 6) : shl .i64 1 a = ((2 ^ a.toNat : Nat) : Int) := by
  have : a = 0 ∨ a = 1 ∨ a = 2 ∨ a = 3 ∨ a = 4 ∨ a = 5 ∨ a = 6 := by omega
  rcases this with rfl | rfl | rfl | rfl | rfl | rfl | rfl <;> decide
theorem model_l (x : Int) (n : Nat) (hn : n ≤ 6) : ∀ (d i : Nat) (y : List Bool) (k : Nat), i + d = n → y.length = n → (∀ j (hj : j < y.length), j < i → y[j] = gx x (j : Int)) → d < k → ∃ z : List Bool, spec_l4Model.l0 k x y (n : Int) (i : Int) = some z ∧ z.length = n ∧ ∀ j (hj : j < z.length), z[j] = gx x (j : Int)
  | 0, i, y, k, h1, h2, h3, hk => by
    obtain ⟨k, rfl⟩ : ∃ m, k = m + 1 := ⟨k - 1, by omega⟩
    simp only [spec_l4Model.l0]
    rw [if_neg (by omega)]
    exact ⟨y, rfl, h2, fun j hj => h3 j hj (by omega)⟩
  | d + 1, i, y, k, h1, h2, h3, hk => by
    obtain ⟨k, rfl⟩ : ∃ m, k = m + 1 := ⟨k - 1, by omega⟩
    simp only [spec_l4Model.l0]
    rw [if_pos (by omega), uw6 (by omega) (by omega), if_pos (by omega), if_pos (by omega), if_pos (by omega), next64 (by omega), show ((i : Int).toNat) = i by omega]
    exact model_l x n hn d (i + 1) _ k (by omega) (by rw [List.length_set]; exact h2) (fun j hj hji => by
      rw [List.getElem_set]
      by_cases e : i = j
      · rw [if_pos e, ← e]
        rfl
      · rw [if_neg e]
        exact h3 j (by rw [List.length_set] at hj; exact hj) (by omega)) (by omega)
theorem model_val (a x : Int) (h0 : 0 ≤ a) (h6 : a ≤ 6) (k : Nat) (hk : 100 ≤ k) : ∃ z : List Bool, spec_l4Model.f k a x = some z ∧ (z.length : Int) = a ∧ ∀ i : Int, 0 ≤ i → i < a → rdOf false z i = gx x i := by
  unfold spec_l4Model.f
  obtain ⟨z, h1, h2, h3⟩ := model_l x a.toNat (by omega) a.toNat 0 (List.replicate a.toNat false) k (by omega) (by simp) (fun j _ hj => absurd hj (by omega)) (by omega)
  rw [if_pos h0, if_pos (by omega)]
  simp only [Option.bind_some]
  rw [List.length_replicate]
  refine ⟨z, h1, by omega, fun i hi0 hi1 => ?_⟩
  obtain ⟨j, rfl⟩ : ∃ j : Nat, i = (j : Int) := ⟨i.toNat, by omega⟩
  rw [rdB_nat z j (by omega), h3 j (by omega)]
def tabF (h : Int → Bool) : Nat → Nat → List Bool
  | 0, _ => []
  | d + 1, j => h (j : Int) :: tabF h d (j + 1)
theorem tabF_length (h : Int → Bool) : ∀ d j, (tabF h d j).length = d
  | 0, j => rfl
  | d + 1, j => by rw [tabF, List.length_cons, tabF_length h d (j + 1)]
def hh (ns : List S92) (r : Int) (x : Int) : Bool := ev (gx x) ns ns.length r
theorem sTab_l (a : Int) (h0 : 0 ≤ a) (h6 : a ≤ 6) (ns : List S92) (hl : ns.length ≤ 64) (hok : okL a ns 0 = true) (r : Int) (hr0 : 0 ≤ r) (hr1 : r ≤ (ns.length : Int) + 1) (P : Nat) (hP : P = 2 ^ a.toNat) : ∀ (d j : Nat) (acc : List Bool) (k : Nat), j + d = P → acc.length ≤ j → 200 + d ≤ k → spec_l7Table.l1 k acc (j : Int) a ns r = some (acc ++ tabF (hh ns r) d j, true)
  | 0, j, acc, k, h1, h2, hk => by
    obtain ⟨k, rfl⟩ : ∃ m, k = m + 1 := ⟨k - 1, by omega⟩
    simp only [spec_l7Table.l1]
    rw [uw6 h0 h6, if_pos h0, shi h0 h6, if_neg (by omega)]
    simp [tabF]
  | d + 1, j, acc, k, h1, h2, hk => by
    obtain ⟨k, rfl⟩ : ∃ m, k = m + 1 := ⟨k - 1, by omega⟩
    have hp := p6 h0 h6
    obtain ⟨z, z1, z2, z3⟩ := model_val a (j : Int) h0 h6 k (by omega)
    simp only [spec_l7Table.l1]
    rw [uw6 h0 h6, if_pos h0, shi h0 h6, if_pos (by omega), z1]
    simp only [Option.bind_some]
    unfold spec_l7Eval.f
    rw [sEval_l a h6 ns hl hok r z z2 (gx (j : Int)) z3 ns.length r k hr0 hr1 hr1 (by omega)]
    simp only [Option.bind_some]
    rw [if_pos (by omega), next64 (by omega), sTab_l a h0 h6 ns hl hok r hr0 hr1 P hP d (j + 1) _ k (by omega) (by rw [List.length_append]; simp; omega) (by omega)]
    simp [tabF, hh]
theorem iTab_l (a : Int) (h6 : a ≤ 6) (ns : List S92) (hl : ns.length ≤ 64) (hok : okL a ns 0 = true) (r : Int) (hr0 : 0 ≤ r) (hr1 : r ≤ (ns.length : Int) + 1) (P : Nat) (hP : P ≤ 64) : ∀ (d j : Nat) (acc : List Bool) (k : Nat), j + d = P → acc.length ≤ j → 200 + d ≤ k → impl_Diagram_table.l0 k acc (P : Int) (j : Int) a ns r = some (acc ++ tabF (hh ns r) d j)
  | 0, j, acc, k, h1, h2, hk => by
    obtain ⟨k, rfl⟩ : ∃ m, k = m + 1 := ⟨k - 1, by omega⟩
    simp only [impl_Diagram_table.l0]
    rw [if_neg (by omega)]
    simp [tabF]
  | d + 1, j, acc, k, h1, h2, hk => by
    obtain ⟨k, rfl⟩ : ∃ m, k = m + 1 := ⟨k - 1, by omega⟩
    simp only [impl_Diagram_table.l0]
    unfold impl_Diagram_value.f
    rw [if_pos (by omega), iVal_l a h6 ns hl hok r (j : Int) ns.length r k hr0 hr1 hr1 (by omega)]
    simp only [Option.bind_some]
    rw [if_pos (by omega), next64 (by omega), iTab_l a h6 ns hl hok r hr0 hr1 P hP d (j + 1) _ k (by omega) (by rw [List.length_append]; simp; omega) (by omega)]
    simp [tabF, hh]
def eqR : List S92 → List S92 → Bool
  | x :: r, y :: s => if (!(x.f0 == y.f0) || (!(x.f1 == y.f1) || (!(x.f2 == y.f2)))) = true then false else eqR r s
  | _, _ => true
theorem sCmp (ns x : List S92) (he : x.length = ns.length) (hl : x.length ≤ 1048576) (a r : Int) : ∀ (d i k : Nat), i + d = x.length → d < k → spec_GoodDiagram.l0 k x (x.length : Int) (i : Int) a ns r = some (eqR (ns.drop i) (x.drop i))
  | 0, i, k, h1, hk => by
    obtain ⟨k, rfl⟩ : ∃ m, k = m + 1 := ⟨k - 1, by omega⟩
    simp only [spec_GoodDiagram.l0]
    rw [if_neg (by omega), List.drop_of_length_le (by omega), List.drop_of_length_le (by omega)]
    rfl
  | d + 1, i, k, h1, hk => by
    obtain ⟨k, rfl⟩ : ∃ m, k = m + 1 := ⟨k - 1, by omega⟩
    have hi : i < x.length := by omega
    have hj : i < ns.length := by omega
    simp only [spec_GoodDiagram.l0]
    rw [if_pos (by omega), if_pos (by omega), if_pos (by omega), if_pos (by omega), rd92_nat ns i hj, rd92_nat x i hi, next64 (by omega), List.drop_eq_getElem_cons hi, List.drop_eq_getElem_cons hj]
    simp only [eqR]
    rw [sCmp ns x he hl a r d (i + 1) k (by omega) (by omega)]
    split <;> rfl
theorem iCmp (ns x : List S92) (he : x.length = ns.length) (hl : x.length ≤ 1048576) : ∀ (d i k : Nat), i + d = x.length → d < k → impl_Node_73.l0 k x ns (x.length : Int) (i : Int) = some (eqR (ns.drop i) (x.drop i))
  | 0, i, k, h1, hk => by
    obtain ⟨k, rfl⟩ : ∃ m, k = m + 1 := ⟨k - 1, by omega⟩
    simp only [impl_Node_73.l0]
    rw [if_neg (by omega), List.drop_of_length_le (by omega), List.drop_of_length_le (by omega)]
    rfl
  | d + 1, i, k, h1, hk => by
    obtain ⟨k, rfl⟩ : ∃ m, k = m + 1 := ⟨k - 1, by omega⟩
    have hi : i < x.length := by omega
    have hj : i < ns.length := by omega
    simp only [impl_Node_73.l0]
    rw [if_pos (by omega), if_pos (by omega), if_pos (by omega), if_pos (by omega), rd92_nat ns i hj, rd92_nat x i hi, next64 (by omega), List.drop_eq_getElem_cons hi, List.drop_eq_getElem_cons hj]
    simp only [eqR]
    rw [iCmp ns x he hl d (i + 1) k (by omega) (by omega), Bool.beq_comm (a := x[i].f0), Bool.beq_comm (a := x[i].f1), Bool.beq_comm (a := x[i].f2)]
    split <;> rfl
def xD (a : Int) (ns : List S92) (r : Int) : Int × List S92 := bld a.toNat 1 [] (tabF (hh ns r) (2 ^ a.toNat) 0)
def endD (a : Int) (ns : List S92) (r : Int) : Bool := if (xD a ns r).1 = r then (if (xD a ns r).2.length = ns.length then eqR ns (xD a ns r).2 else false) else false
theorem xD_length (a : Int) (h0 : 0 ≤ a) (h6 : a ≤ 6) (ns : List S92) (r : Int) : (xD a ns r).2.length ≤ 64 := by
  have hp := p6 h0 h6
  have hl := bld_length a.toNat 1 [] (tabF (hh ns r) (2 ^ a.toNat) 0)
  rw [List.length_nil] at hl
  unfold xD
  omega
theorem sLoop (a : Int) (ns : List S92) (hl : ns.length ≤ 64) (r : Int) (m : Nat) : ∀ (d i : Nat), i + d = ns.length → spec_l7Table.l0 (m + 1 + 2 * d) ns (ns.length : Int) (i : Int) a ns r = if okL a (ns.drop i) i = true then spec_l7Table.l1 m [] 0 a ns r else some ([], false)
  | 0, i, h1 => by
    simp only [spec_l7Table.l0, Nat.mul_zero, Nat.add_zero]
    rw [if_neg (by omega), List.drop_of_length_le (by omega), okL, if_pos rfl]
  | d + 1, i, h1 => by
    have hi : i < ns.length := by omega
    rw [show m + 1 + 2 * (d + 1) = (m + 1 + 2 * d) + 1 + 1 by omega, List.drop_eq_getElem_cons hi]
    simp only [spec_l7Table.l0, spec_l7Table.j2, okL, okN, sIn, Option.bind_some]
    rw [if_pos (by omega), if_pos (by omega), if_pos (by omega), rd92_nat ns i hi, next64 (by omega), sLoop a ns hl r m d (i + 1) (by omega)]
    rcases Bool.eq_false_or_eq_true (inD ns[i].f0 1 a) with b1 | b1 <;> rcases Bool.eq_false_or_eq_true (inD ns[i].f1 0 ((i + 1 : Nat) : Int)) with b2 | b2 <;> rcases Bool.eq_false_or_eq_true (inD ns[i].f2 0 ((i + 1 : Nat) : Int)) with b3 | b3 <;> simp only [b1, b2, b3] <;> simp
theorem specGood (a : Int) (ns : List S92) (r : Int) (hn : ns.length ≤ 1048576) (k : Nat) (hk : 9000000 ≤ k) : spec_GoodDiagram.f k a ns r = some (if 0 ≤ a ∧ a ≤ 6 then (if ns.length ≤ 64 then (if 0 ≤ r ∧ r ≤ (ns.length : Int) + 1 then (if okL a ns 0 = true then endD a ns r else false) else false) else false) else false) := by
  obtain ⟨k, rfl⟩ : ∃ m, k = m + 1 := ⟨k - 1, by omega⟩
  unfold spec_GoodDiagram.f spec_l7Table.f
  simp only [sIn, Option.bind_some, spec_l7Table.j0]
  by_cases ha : 0 ≤ a ∧ a ≤ 6
  · rw [show inD a 0 6 = true from decide_eq_true ha, if_pos rfl, if_pos ha]
    by_cases hl : ns.length ≤ 64
    · rw [if_neg (by omega), if_pos hl, w64 (by omega) (by omega)]
      by_cases hr : 0 ≤ r ∧ r ≤ (ns.length : Int) + 1
      · rw [show inD r 0 ((ns.length : Int) + 1) = true from decide_eq_true hr, if_pos hr]
        simp only [Bool.not_true, if_neg Bool.false_ne_true]
        have hL := sLoop a ns hl r (k - 1 - 2 * ns.length) ns.length 0 (by omega)
        rw [show k - 1 - 2 * ns.length + 1 + 2 * ns.length = k by omega, List.drop_zero] at hL
        replace hL : spec_l7Table.l0 k ns (ns.length : Int) 0 a ns r = _ := hL
        rw [hL]
        by_cases ho : okL a ns 0 = true
        · rw [if_pos ho, if_pos ho]
          have hp := p6 ha.1 ha.2
          have hT := sTab_l a ha.1 ha.2 ns hl ho r hr.1 hr.2 (2 ^ a.toNat) rfl (2 ^ a.toNat) 0 [] (k - 1 - 2 * ns.length) (by omega) (by simp) (by omega)
          replace hT : spec_l7Table.l1 (k - 1 - 2 * ns.length) [] 0 a ns r = _ := hT
          rw [hT, List.nil_append]
          simp only [Option.bind_some, if_true]
          unfold spec_l7Of.f
          have hxl := xD_length a ha.1 ha.2 ns r
          rw [specBld a.toNat _ 1 [] _ (tabF_length _ _ _) (by rw [List.length_nil]; omega) (by omega)]
          simp only [Option.bind_some]
          change (if (xD a ns r).2.length < 17592186044 then some (a, (xD a ns r).2, (xD a ns r).1) else none).bind _ = some (endD a ns r)
          rw [if_pos (by omega)]
          simp only [Option.bind_some]
          unfold endD
          simp only [spec_GoodDiagram.j0]
          by_cases e : (xD a ns r).1 = r
          · rw [if_pos e, if_pos e]
            by_cases e2 : (xD a ns r).2.length = ns.length
            · rw [if_pos e2, e2, bne_self_eq_false, if_neg Bool.false_ne_true]
              have hc := sCmp ns (xD a ns r).2 e2 (by omega) a r (xD a ns r).2.length 0 k (by omega) (by omega)
              rw [List.drop_zero, List.drop_zero, e2] at hc
              exact hc
            · rw [if_neg e2, if_pos (bne_iff_ne.mpr (by omega))]
          · rw [if_neg e, if_neg e, if_pos trivial]
        · rw [if_neg ho, if_neg ho]
          simp
      · rw [show inD r 0 ((ns.length : Int) + 1) = false from decide_eq_false hr, if_neg hr]
        simp
    · rw [if_pos (by omega), if_neg hl]
      simp
  · rw [show inD a 0 6 = false from decide_eq_false ha, if_neg Bool.false_ne_true, if_neg ha]
    simp
theorem iLoop (a : Int) (ns : List S92) (hl : ns.length ≤ 64) (r : Int) (m : Nat) : ∀ (d i : Nat), i + d = ns.length → impl_GoodDiagram.l0 (m + 1 + 2 * d) ns (ns.length : Int) (i : Int) a ns r = if okL a (ns.drop i) i = true then ((impl_Diagram_table.f m a ns r).bind fun t => ((impl_diagram.f m a t).bind fun b => (if b.2.2 = r then ((impl_Node_73.f m b.2.1 ns).bind fun t => (some t)) else (some false)))) else some false
  | 0, i, h1 => by
    simp only [impl_GoodDiagram.l0, Nat.mul_zero, Nat.add_zero]
    rw [if_neg (by omega), List.drop_of_length_le (by omega), okL, if_pos rfl]
  | d + 1, i, h1 => by
    have hi : i < ns.length := by omega
    rw [show m + 1 + 2 * (d + 1) = (m + 1 + 2 * d) + 1 + 1 by omega, List.drop_eq_getElem_cons hi]
    simp only [impl_GoodDiagram.l0, impl_GoodDiagram.j2, okL, okN, iIn, Option.bind_some]
    rw [if_pos (by omega), if_pos (by omega), if_pos (by omega), rd92_nat ns i hi, next64 (by omega), iLoop a ns hl r m d (i + 1) (by omega)]
    rcases Bool.eq_false_or_eq_true (inD ns[i].f0 1 a) with b1 | b1 <;> rcases Bool.eq_false_or_eq_true (inD ns[i].f1 0 ((i + 1 : Nat) : Int)) with b2 | b2 <;> rcases Bool.eq_false_or_eq_true (inD ns[i].f2 0 ((i + 1 : Nat) : Int)) with b3 | b3 <;> simp only [b1, b2, b3] <;> simp
theorem implGood (a : Int) (ns : List S92) (r : Int) (hn : ns.length ≤ 1048576) (k : Nat) (hk : 9000000 ≤ k) : impl_GoodDiagram.f k a ns r = some (if 0 ≤ a ∧ a ≤ 6 then (if ns.length ≤ 64 then (if 0 ≤ r ∧ r ≤ (ns.length : Int) + 1 then (if okL a ns 0 = true then endD a ns r else false) else false) else false) else false) := by
  obtain ⟨k, rfl⟩ : ∃ m, k = m + 1 := ⟨k - 1, by omega⟩
  unfold impl_GoodDiagram.f
  simp only [iIn, Option.bind_some, impl_GoodDiagram.j0]
  by_cases ha : 0 ≤ a ∧ a ≤ 6
  · rw [show inD a 0 6 = true from decide_eq_true ha, if_pos rfl, if_pos ha]
    by_cases hl : ns.length ≤ 64
    · rw [if_neg (by omega), if_pos hl, w64 (by omega) (by omega)]
      by_cases hr : 0 ≤ r ∧ r ≤ (ns.length : Int) + 1
      · rw [show inD r 0 ((ns.length : Int) + 1) = true from decide_eq_true hr, if_pos hr]
        simp only [Bool.not_true, if_neg Bool.false_ne_true]
        have hL := iLoop a ns hl r (k - 1 - 2 * ns.length) ns.length 0 (by omega)
        rw [show k - 1 - 2 * ns.length + 1 + 2 * ns.length = k by omega, List.drop_zero] at hL
        replace hL : impl_GoodDiagram.l0 k ns (ns.length : Int) 0 a ns r = _ := hL
        rw [hL]
        by_cases ho : okL a ns 0 = true
        · rw [if_pos ho, if_pos ho]
          have hp := p6 ha.1 ha.2
          have hT := iTab_l a ha.2 ns hl ho r hr.1 hr.2 (2 ^ a.toNat) hp (2 ^ a.toNat) 0 [] (k - 1 - 2 * ns.length) (by omega) (by simp) (by omega)
          replace hT : impl_Diagram_table.l0 (k - 1 - 2 * ns.length) [] _ 0 a ns r = _ := hT
          unfold impl_Diagram_table.f
          rw [if_pos ha.1, shi ha.1 ha.2, hT, List.nil_append]
          simp only [Option.bind_some]
          unfold impl_diagram.f
          have hxl := xD_length a ha.1 ha.2 ns r
          rw [implBld a.toNat _ 1 [] _ (tabF_length _ _ _) (by rw [List.length_nil]; omega) (by omega)]
          simp only [Option.bind_some]
          change (if (xD a ns r).1 = r then ((impl_Node_73.f (k - 1 - 2 * ns.length) (xD a ns r).2 ns).bind fun t => (some t)) else (some false)) = some (endD a ns r)
          unfold endD
          by_cases e : (xD a ns r).1 = r
          · rw [if_pos e, if_pos e]
            unfold impl_Node_73.f
            by_cases e2 : (xD a ns r).2.length = ns.length
            · rw [if_pos e2, if_pos (by omega)]
              have hc := iCmp ns (xD a ns r).2 e2 (by omega) (xD a ns r).2.length 0 (k - 1 - 2 * ns.length) (by omega) (by omega)
              rw [List.drop_zero, List.drop_zero] at hc
              replace hc : impl_Node_73.l0 _ _ _ _ 0 = _ := hc
              rw [hc]
              rfl
            · rw [if_neg e2, if_neg (by omega)]
              rfl
          · rw [if_neg e, if_neg e]
        · rw [if_neg ho, if_neg ho]
      · rw [show inD r 0 ((ns.length : Int) + 1) = false from decide_eq_false hr, if_neg hr]
        simp
    · rw [if_pos (by omega), if_neg hl]
      simp
  · rw [show inD a 0 6 = false from decide_eq_false ha, if_neg Bool.false_ne_true, if_neg ha]
    simp

theorem FnExactGoodDiagram : laws_FnExactGoodDiagram.Pure := by
  rintro a l c _ ⟨h0, _⟩ _
  obtain ⟨k, hk⟩ : ∃ k : Nat, 9000000 ≤ k := ⟨_, Nat.le_refl _⟩
  refine ⟨k, ?_⟩
  unfold laws_FnExactGoodDiagram.f
  obtain ⟨t, ht, hte⟩ := szDiagram_val a c l (by unfold maxLen at h0; omega)
  rw [ht]
  simp only [Option.bind_some]
  by_cases hn : t < 0
  · rw [if_pos hn]
  · rw [if_neg hn]
    have hb := hte (by omega)
    have hll : (l.map cvN).length ≤ 1048576 := by rw [List.length_map]; exact hb
    rw [toDiagram_val a c l hb k (by omega)]
    simp only [Option.bind_some]
    rw [specGood a _ c hll k hk, implGood a _ c hll k hk]
    simp only [Option.bind_some, bne_self_eq_false]
    rw [if_neg Bool.false_ne_true, eqDiagram_val a c _ hll k (by omega)]
    simp

end Go.Proofs.Ytjopmdogdmdanaa.Pure
