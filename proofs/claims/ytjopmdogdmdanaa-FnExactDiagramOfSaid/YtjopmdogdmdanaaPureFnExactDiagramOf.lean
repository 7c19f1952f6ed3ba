/- The pure statement of the law FnExactDiagramOf: the printed functions of the program and of the reference give the same answers, at every input that the statement's guards let in. -/
import Derived.Test.YtjopmdogdmdanaaPFnExactDiagramOfx6
namespace Go.Proofs.Ytjopmdogdmdanaa.Pure
open Go.RowKit Go.Proofs.Ytjopmdogdmdanaa.PFnExactDiagramOf Go.Proofs.YtjopmdogdmdanaaW.PrintWords Go.Proofs.YtjopmdogdmdanaaW.PrintLast Go.Proofs.YtjopmdogdmdanaaW.PrintMore
set_option linter.unusedSimpArgs false
set_option linter.unusedVariables false
theorem w64 {x : Int} (h0 : -9223372036854775808 ≤ x) (h1 : x ≤ 9223372036854775807) : wrap64 x = x := by
  unfold wrap64
  omega
theorem next64 {i : Nat} (h : i ≤ 4611686018427387904) : wrap64 ((i : Int) + 1) = ((i + 1 : Nat) : Int) := by
  rw [w64 (by omega) (by omega)]
  omega

theorem rdB_nat (l : List Bool) (i : Nat) (h : i < l.length) : rdOf false l (i : Int) = l[i] := by
  unfold rdOf
  rw [List.getD_eq_getElem?_getD, show ((i : Int).toNat) = i by omega, List.getElem?_eq_getElem h]
  rfl

/-- Every second answer, from the first (or the second) on. -/
def everyB : List Bool → List Bool
  | [] => []
  | [a] => [a]
  | a :: _ :: r => a :: everyB r
theorem everyB_length : ∀ l : List Bool, (everyB l).length = (l.length + 1) / 2
  | [] => rfl
  | [a] => by simp [everyB]
  | a :: b :: r => by
    simp only [everyB, List.length_cons]
    rw [everyB_length r]
    omega
theorem everyB_drop (l : List Bool) (i : Nat) (h : i < l.length) : everyB (l.drop i) = l[i] :: everyB (l.drop (i + 2)) := by
  rw [List.drop_eq_getElem_cons h]
  by_cases h2 : i + 1 < l.length
  · rw [List.drop_eq_getElem_cons h2]
    rfl
  · rw [List.drop_of_length_le (by omega), List.drop_of_length_le (by omega)]
    rfl
theorem half_l (l : List Bool) (hl : l.length ≤ 1048576) : ∀ (d i k : Nat) (y : List Bool), l.length ≤ i + 2 * d → y.length ≤ i → i ≤ l.length + 2 → d < k → spec_l7Half.l0 k l y (i : Int) = some (y ++ everyB (l.drop i))
  | 0, i, k, y, h1, h2, h3, hk => by
    obtain ⟨k, rfl⟩ : ∃ m, k = m + 1 := ⟨k - 1, by omega⟩
    simp only [spec_l7Half.l0]
    rw [if_neg (by omega), List.drop_of_length_le (by omega)]
    simp [everyB]
  | d + 1, i, k, y, h1, h2, h3, hk => by
    obtain ⟨k, rfl⟩ : ∃ m, k = m + 1 := ⟨k - 1, by omega⟩
    simp only [spec_l7Half.l0]
    by_cases c : i < l.length
    · rw [if_pos (by omega), if_pos (by omega), if_pos (by omega), rdB_nat l i c, show wrap64 ((i : Int) + 2) = ((i + 2 : Nat) : Int) by rw [w64 (by omega) (by omega)]; omega, half_l l hl d (i + 2) k _ (by omega) (by rw [List.length_append]; simp; omega) (by omega) (by omega), everyB_drop l i c, List.append_assoc]
      rfl
    · rw [if_neg (by omega), List.drop_of_length_le (by omega)]
      simp [everyB]
theorem half_val (l : List Bool) (hl : l.length ≤ 1048576) (i : Nat) (hi : i ≤ 1) (k : Nat) (hk : l.length < k) : spec_l7Half.f k l (i : Int) = some (everyB (l.drop i)) := by
  unfold spec_l7Half.f
  have := half_l l hl l.length i k [] (by omega) (by simp) (by omega) hk
  simpa using this
theorem sameT_l (a b : List Bool) (he : a.length = b.length) (hl : a.length ≤ 1048576) : ∀ (d i k : Nat), i + d = a.length → d < k → spec_l7SameTable.l0 k a b (a.length : Int) (i : Int) = some (decide (a.drop i = b.drop i))
  | 0, i, k, h1, hk => by
    obtain ⟨k, rfl⟩ : ∃ m, k = m + 1 := ⟨k - 1, by omega⟩
    simp only [spec_l7SameTable.l0]
    rw [if_neg (by omega), List.drop_of_length_le (by omega), List.drop_of_length_le (by omega)]
    simp
  | d + 1, i, k, h1, hk => by
    obtain ⟨k, rfl⟩ : ∃ m, k = m + 1 := ⟨k - 1, by omega⟩
    have ha : i < a.length := by omega
    have hb : i < b.length := by omega
    simp only [spec_l7SameTable.l0]
    rw [if_pos (by omega), if_pos (by omega), if_pos (by omega), if_pos (by omega), rdB_nat a i ha, rdB_nat b i hb, next64 (by omega), sameT_l a b he hl d (i + 1) k (by omega) (by omega), List.drop_eq_getElem_cons ha, List.drop_eq_getElem_cons hb]
    by_cases c : a[i] = b[i]
    · rw [c, bne_self_eq_false, if_neg Bool.false_ne_true]
      simp only [List.cons.injEq, true_and]
    · rw [if_pos (by simpa using c), decide_eq_false (fun h => c (List.cons.inj h).1)]
theorem sameT_val (a b : List Bool) (he : a.length = b.length) (hl : a.length ≤ 1048576) (k : Nat) (hk : a.length < k) : spec_l7SameTable.f k a b = some (decide (a = b)) := by
  unfold spec_l7SameTable.f
  have := sameT_l a b he hl a.length 0 k (by omega) hk
  simpa using this
theorem eqBB_l (a b : List Bool) (he : a.length = b.length) (hl : a.length ≤ 1048576) : ∀ (d i k : Nat), i + d = a.length → d < k → slices_Equal_bool_bool.l0 k a b (a.length : Int) (i : Int) = some (decide (a.drop i = b.drop i))
  | 0, i, k, h1, hk => by
    obtain ⟨k, rfl⟩ : ∃ m, k = m + 1 := ⟨k - 1, by omega⟩
    simp only [slices_Equal_bool_bool.l0]
    rw [if_neg (by omega), List.drop_of_length_le (by omega), List.drop_of_length_le (by omega)]
    simp
  | d + 1, i, k, h1, hk => by
    obtain ⟨k, rfl⟩ : ∃ m, k = m + 1 := ⟨k - 1, by omega⟩
    have ha : i < a.length := by omega
    have hb : i < b.length := by omega
    simp only [slices_Equal_bool_bool.l0]
    rw [if_pos (by omega), if_pos (by omega), if_pos (by omega), if_pos (by omega), rdB_nat a i ha, rdB_nat b i hb, next64 (by omega), eqBB_l a b he hl d (i + 1) k (by omega) (by omega), List.drop_eq_getElem_cons ha, List.drop_eq_getElem_cons hb]
    by_cases c : a[i] = b[i]
    · rw [c, bne_self_eq_false, if_neg Bool.false_ne_true]
      simp only [List.cons.injEq, true_and]
    · rw [if_pos (by simpa using c), decide_eq_false (fun h => c (List.cons.inj h).1)]
theorem eqBB_val (a b : List Bool) (hl : a.length ≤ 1048576) (k : Nat) (hk : a.length < k) : slices_Equal_bool_bool.f k a b = some (decide (a = b)) := by
  unfold slices_Equal_bool_bool.f
  by_cases he : a.length = b.length
  · rw [if_pos (by omega)]
    have := eqBB_l a b he hl a.length 0 k (by omega) hk
    simpa using this
  · rw [if_neg (by omega), decide_eq_false (fun h => he (by rw [h]))]

theorem rd92_nat (l : List S92) (i : Nat) (h : i < l.length) : rd_T92 l (i : Int) = l[i] := by
  unfold rd_T92
  rw [List.getD_eq_getElem?_getD, show ((i : Int).toNat) = i by omega, List.getElem?_eq_getElem h]
  rfl
/-- Where a node stands, or -1. -/
def fnd (v q s : Int) : List S92 → Int → Int
  | [], _ => -1
  | y :: r, i => if (v == y.f0 && (q == y.f1 && s == y.f2)) = true then i else fnd v q s r (i + 1)
def put_ (v q s : Int) (l : List S92) : Int × List S92 := if fnd v q s l 0 < 0 then (wrap64 ((l.length : Int) + 2), l ++ [⟨v, q, s⟩]) else (wrap64 (fnd v q s l 0 + 2), l)
theorem put_length (v q s : Int) (l : List S92) : (put_ v q s l).2.length ≤ l.length + 1 := by
  unfold put_
  split
  · rw [List.length_append]
    simp
  · simp
/-- The reduced diagram of a table of n variables. -/
def bld : Nat → Int → List S92 → List Bool → Int × List S92
  | 0, _, ns, t => (if rdOf false t 0 = true then 1 else 0, ns)
  | n + 1, v, ns, t => if everyB t = everyB (t.drop 1) then bld n (wrap64 (v + 1)) ns (everyB t) else put_ v (bld n (wrap64 (v + 1)) ns (everyB t)).1 (bld n (wrap64 (v + 1)) (bld n (wrap64 (v + 1)) ns (everyB t)).2 (everyB (t.drop 1))).1 (bld n (wrap64 (v + 1)) (bld n (wrap64 (v + 1)) ns (everyB t)).2 (everyB (t.drop 1))).2
theorem bld_length : ∀ (n : Nat) (v : Int) (ns : List S92) (t : List Bool), (bld n v ns t).2.length + 1 ≤ ns.length + 2 ^ n
  | 0, v, ns, t => by simp [bld]
  | n + 1, v, ns, t => by
    have hp : 2 ^ (n + 1) = 2 ^ n * 2 := Nat.pow_succ ..
    have h1 : 1 ≤ 2 ^ n := Nat.one_le_two_pow
    unfold bld
    split
    · have := bld_length n (wrap64 (v + 1)) ns (everyB t)
      omega
    · have a := bld_length n (wrap64 (v + 1)) ns (everyB t)
      have b := bld_length n (wrap64 (v + 1)) (bld n (wrap64 (v + 1)) ns (everyB t)).2 (everyB (t.drop 1))
      have c := put_length v (bld n (wrap64 (v + 1)) ns (everyB t)).1 (bld n (wrap64 (v + 1)) (bld n (wrap64 (v + 1)) ns (everyB t)).2 (everyB (t.drop 1))).1 (bld n (wrap64 (v + 1)) (bld n (wrap64 (v + 1)) ns (everyB t)).2 (everyB (t.drop 1))).2
      omega
theorem tmod2 (i : Nat) : Int.tmod (i : Int) 2 = (i : Int) % 2 := Int.tmod_eq_emod_of_nonneg (by omega)
theorem split_l (t : List Bool) (hl : t.length ≤ 1048576) : ∀ (d i k : Nat) (x y : List Bool), t.length ≤ i + d → x.length ≤ i → y.length ≤ i → i ≤ t.length → d < k →
    impl_Diagram_build.l0 k t x y (i : Int) = some (if i % 2 = 0 then (x ++ everyB (t.drop i), y ++ everyB (t.drop (i + 1))) else (x ++ everyB (t.drop (i + 1)), y ++ everyB (t.drop i)))
  | 0, i, k, x, y, h1, h2, h3, h4, hk => by
    obtain ⟨k, rfl⟩ : ∃ m, k = m + 1 := ⟨k - 1, by omega⟩
    simp only [impl_Diagram_build.l0]
    rw [if_neg (by omega), List.drop_of_length_le (by omega), List.drop_of_length_le (by omega)]
    simp [everyB]
  | d + 1, i, k, x, y, h1, h2, h3, h4, hk => by
    obtain ⟨k, rfl⟩ : ∃ m, k = m + 1 := ⟨k - 1, by omega⟩
    simp only [impl_Diagram_build.l0]
    by_cases c : i < t.length
    · rw [if_pos (by omega), if_pos (by omega), rdB_nat t i c, next64 (by omega), tmod2]
      by_cases e : i % 2 = 0
      · rw [if_pos (by omega), if_pos (by omega), split_l t hl d (i + 1) k _ y (by omega) (by rw [List.length_append]; simp; omega) (by omega) (by omega) (by omega), if_neg (by omega), if_pos e, everyB_drop t i c]
        simp
      · rw [if_neg (by omega), if_pos (by omega), split_l t hl d (i + 1) k x _ (by omega) (by omega) (by rw [List.length_append]; simp; omega) (by omega) (by omega), if_pos (by omega), if_neg e, everyB_drop t i c]
        simp
    · rw [if_neg (by omega), List.drop_of_length_le (by omega), List.drop_of_length_le (by omega)]
      simp [everyB]
theorem split_val (t : List Bool) (hl : t.length ≤ 1048576) (k : Nat) (hk : t.length < k) : impl_Diagram_build.l0 k t [] [] 0 = some (everyB t, everyB (t.drop 1)) := by
  have := split_l t hl t.length 0 k [] [] (by omega) (by simp) (by simp) (by omega) hk
  simpa using this
theorem sfnd_l (l : List S92) (v q s : Int) (hl : l.length ≤ 1048576) : ∀ (d i k : Nat), i + d = l.length → d < k → spec_l7B_build.l1 k l v q s (i : Int) = some (fnd v q s (l.drop i) (i : Int))
  | 0, i, k, h1, hk => by
    obtain ⟨k, rfl⟩ : ∃ m, k = m + 1 := ⟨k - 1, by omega⟩
    simp only [spec_l7B_build.l1]
    rw [if_neg (by omega), List.drop_of_length_le (by omega)]
    rfl
  | d + 1, i, k, h1, hk => by
    obtain ⟨k, rfl⟩ : ∃ m, k = m + 1 := ⟨k - 1, by omega⟩
    have hi : i < l.length := by omega
    simp only [spec_l7B_build.l1]
    rw [if_pos (by omega), if_pos (by omega), rd92_nat l i hi, next64 (by omega), List.drop_eq_getElem_cons hi]
    simp only [fnd]
    rw [show (l[i].f0 == v && (l[i].f1 == q && l[i].f2 == s)) = (v == l[i].f0 && (q == l[i].f1 && s == l[i].f2)) by rw [Bool.beq_comm (a := l[i].f0), Bool.beq_comm (a := l[i].f1), Bool.beq_comm (a := l[i].f2)]]
    by_cases c : (v == l[i].f0 && (q == l[i].f1 && s == l[i].f2)) = true
    · rw [if_pos c, if_pos c]
    · rw [if_neg c, if_neg c, sfnd_l l v q s hl d (i + 1) k (by omega) (by omega)]
      rw [show ((i + 1 : Nat) : Int) = (i : Int) + 1 by omega]
theorem sfnd_val (l : List S92) (v q s : Int) (hl : l.length ≤ 1048576) (k : Nat) (hk : l.length < k) : spec_l7B_build.l1 k l v q s 0 = some (fnd v q s l 0) := by
  simpa using sfnd_l l v q s hl l.length 0 k (by omega) hk

theorem idx_l (l : List S92) (v q s : Int) (hl : l.length ≤ 1048576) : ∀ (d i k : Nat), i + d = l.length → d < k → impl_Node.l0 k l (l.length : Int) (i : Int) v q s = some (fnd v q s (l.drop i) (i : Int))
  | 0, i, k, h1, hk => by
    obtain ⟨k, rfl⟩ : ∃ m, k = m + 1 := ⟨k - 1, by omega⟩
    simp only [impl_Node.l0]
    rw [if_neg (by omega), List.drop_of_length_le (by omega)]
    rfl
  | d + 1, i, k, h1, hk => by
    obtain ⟨k, rfl⟩ : ∃ m, k = m + 1 := ⟨k - 1, by omega⟩
    have hi : i < l.length := by omega
    simp only [impl_Node.l0]
    rw [if_pos (by omega), if_pos (by omega), if_pos (by omega), rd92_nat l i hi, next64 (by omega), List.drop_eq_getElem_cons hi]
    simp only [fnd]
    by_cases c : (v == l[i].f0 && (q == l[i].f1 && s == l[i].f2)) = true
    · rw [if_pos c, if_pos c]
    · rw [if_neg c, if_neg c, idx_l l v q s hl d (i + 1) k (by omega) (by omega)]
      rw [show ((i + 1 : Nat) : Int) = (i : Int) + 1 by omega]
theorem idx_val (l : List S92) (v q s : Int) (hl : l.length ≤ 1048576) (k : Nat) (hk : l.length < k) : impl_Node.f k l v q s = some (fnd v q s l 0) := by
  unfold impl_Node.f
  simpa using idx_l l v q s hl l.length 0 k (by omega) hk

theorem implBld : ∀ (n k : Nat) (v : Int) (ns : List S92) (t : List Bool), t.length = 2 ^ n → ns.length + 2 ^ n ≤ 1000000 → 2000000 + n ≤ k → impl_Diagram_build.f k v ns t = some (bld n v ns t)
  | 0, k, v, ns, t, h1, h2, hk => by
    obtain ⟨k, rfl⟩ : ∃ m, k = m + 1 := ⟨k - 1, by omega⟩
    simp only [impl_Diagram_build.f, bld]
    rw [if_pos (by omega)]
    split <;> rfl
  | n + 1, k, v, ns, t, h1, h2, hk => by
    obtain ⟨k, rfl⟩ : ∃ m, k = m + 1 := ⟨k - 1, by omega⟩
    have hp : 2 ^ (n + 1) = 2 ^ n * 2 := Nat.pow_succ ..
    have h0 : 1 ≤ 2 ^ n := Nat.one_le_two_pow
    have ha : (everyB t).length = 2 ^ n := by rw [everyB_length]; omega
    have hb : (everyB (t.drop 1)).length = 2 ^ n := by rw [everyB_length, List.length_drop]; omega
    simp only [impl_Diagram_build.f]
    rw [if_neg (by omega), split_val t (by omega) k (by omega)]
    simp only [Option.bind_some]
    rw [eqBB_val _ _ (by omega) k (by omega)]
    simp only [Option.bind_some, bld]
    by_cases e : everyB t = everyB (t.drop 1)
    · rw [if_pos (by simpa using e), if_pos e, implBld n k _ ns _ ha (by omega) (by omega)]
    · rw [if_neg (by simpa using e), if_neg e, implBld n k _ ns _ ha (by omega) (by omega)]
      simp only [Option.bind_some]
      have l1 := bld_length n (wrap64 (v + 1)) ns (everyB t)
      rw [implBld n k _ _ _ hb (by omega) (by omega)]
      simp only [Option.bind_some]
      have l2 := bld_length n (wrap64 (v + 1)) (bld n (wrap64 (v + 1)) ns (everyB t)).2 (everyB (t.drop 1))
      rw [idx_val _ _ _ _ (by omega) k (by omega)]
      simp only [Option.bind_some, put_]
      by_cases c : fnd v (bld n (wrap64 (v + 1)) ns (everyB t)).1 (bld n (wrap64 (v + 1)) (bld n (wrap64 (v + 1)) ns (everyB t)).2 (everyB (t.drop 1))).1 (bld n (wrap64 (v + 1)) (bld n (wrap64 (v + 1)) ns (everyB t)).2 (everyB (t.drop 1))).2 0 < 0
      · rw [if_pos c, if_pos c, if_pos (by omega)]
      · rw [if_neg c, if_neg c]
theorem specBld : ∀ (n k : Nat) (v : Int) (ns : List S92) (t : List Bool), t.length = 2 ^ n → ns.length + 2 ^ n ≤ 1000000 → 2000000 + n ≤ k → spec_l7B_build.f k v ns t = some (bld n v ns t)
  | 0, k, v, ns, t, h1, h2, hk => by
    obtain ⟨k, rfl⟩ : ∃ m, k = m + 1 := ⟨k - 1, by omega⟩
    simp only [spec_l7B_build.f, bld]
    rw [if_pos (by omega)]
    split <;> rfl
  | n + 1, k, v, ns, t, h1, h2, hk => by
    obtain ⟨k, rfl⟩ : ∃ m, k = m + 1 := ⟨k - 1, by omega⟩
    have hp : 2 ^ (n + 1) = 2 ^ n * 2 := Nat.pow_succ ..
    have h0 : 1 ≤ 2 ^ n := Nat.one_le_two_pow
    have ha : (everyB t).length = 2 ^ n := by rw [everyB_length]; omega
    have hb : (everyB (t.drop 1)).length = 2 ^ n := by rw [everyB_length, List.length_drop]; omega
    have e0 : spec_l7Half.f k t 0 = some (everyB t) := by simpa using half_val t (by omega) 0 (by omega) k (by omega)
    have e1 : spec_l7Half.f k t 1 = some (everyB (t.drop 1)) := half_val t (by omega) 1 (by omega) k (by omega)
    simp only [spec_l7B_build.f]
    rw [if_neg (by omega), e0]
    simp only [Option.bind_some]
    rw [e1]
    simp only [Option.bind_some]
    rw [sameT_val _ _ (by omega) (by omega) k (by omega)]
    simp only [Option.bind_some, bld]
    by_cases e : everyB t = everyB (t.drop 1)
    · rw [if_pos (by simpa using e), if_pos e, specBld n k _ ns _ ha (by omega) (by omega)]
    · rw [if_neg (by simpa using e), if_neg e, specBld n k _ ns _ ha (by omega) (by omega)]
      simp only [Option.bind_some]
      have l1 := bld_length n (wrap64 (v + 1)) ns (everyB t)
      rw [specBld n k _ _ _ hb (by omega) (by omega)]
      simp only [Option.bind_some]
      have l2 := bld_length n (wrap64 (v + 1)) (bld n (wrap64 (v + 1)) ns (everyB t)).2 (everyB (t.drop 1))
      rw [sfnd_val _ _ _ _ (by omega) k (by omega)]
      simp only [Option.bind_some, put_]
      by_cases c : fnd v (bld n (wrap64 (v + 1)) ns (everyB t)).1 (bld n (wrap64 (v + 1)) (bld n (wrap64 (v + 1)) ns (everyB t)).2 (everyB (t.drop 1))).1 (bld n (wrap64 (v + 1)) (bld n (wrap64 (v + 1)) ns (everyB t)).2 (everyB (t.drop 1))).2 0 < 0
      · rw [if_pos c, if_pos c, if_pos (by omega)]
        congr 3
      · rw [if_neg c, if_neg c]

theorem eqNodeS_l (l : List S92) (hl : l.length ≤ 1048576) : ∀ (d i k : Nat), i + d = l.length → d < k → laws_eqNodeS.l0 k l l (i : Int) = some true
  | 0, i, k, h1, hk => by
    obtain ⟨k, rfl⟩ : ∃ m, k = m + 1 := ⟨k - 1, by omega⟩
    simp only [laws_eqNodeS.l0]
    rw [if_neg (by omega)]
  | d + 1, i, k, h1, hk => by
    obtain ⟨k, rfl⟩ : ∃ m, k = m + 1 := ⟨k - 1, by omega⟩
    simp only [laws_eqNodeS.l0, laws_eqNode.f, if_true, Option.bind_some]
    rw [if_pos (by omega), if_pos (by omega), if_pos (by omega), next64 (by omega)]
    exact eqNodeS_l l hl d (i + 1) k (by omega) (by omega)
theorem eqNodeS_val (l : List S92) (hl : l.length ≤ 1048576) (k : Nat) (hk : l.length < k) : laws_eqNodeS.f k l l = some true := by
  unfold laws_eqNodeS.f
  rw [if_pos rfl]
  exact eqNodeS_l l hl l.length 0 k (by omega) hk
theorem eqDiagram_val (a c : Int) (l : List S92) (hl : l.length ≤ 1048576) (k : Nat) (hk : l.length < k) : laws_eqDiagram.f k a l c a l c = some true := by
  unfold laws_eqDiagram.f
  rw [if_pos rfl, eqNodeS_val l hl k hk]
  simp only [Option.bind_some, if_true]

def mN (a : Int) (j : Nat) : S92 := ⟨a + 3 * (j : Int), a + 3 * (j : Int) + 1, a + 3 * (j : Int) + 2⟩
theorem setN_ (y : List S92) (i : Nat) (h : i < y.length) (v : S92) : rd_T92 (y.set i v) (i : Int) = v := by
  rw [rd92_nat _ i (by rw [List.length_set]; exact h), List.getElem_set_self]
theorem markNodeS_l (a : Int) (ha : 0 ≤ a) (ha2 : a ≤ 4398046511104) : ∀ (d i : Nat) (y : List S92) (k : Nat), i + d = y.length → y.length ≤ 1048576 → (∀ j (hj : j < y.length), j < i → y[j] = mN a j) → d < k →
    ∃ z : List S92, laws_markNodeS.l0 k y (a + 3 * (i : Int)) (i : Int) = some (a + 3 * (y.length : Int), z) ∧ z.length = y.length ∧ ∀ j (hj : j < z.length), z[j] = mN a j
  | 0, i, y, k, h1, h2, h3, hk => by
    obtain ⟨k, rfl⟩ : ∃ m, k = m + 1 := ⟨k - 1, by omega⟩
    simp only [laws_markNodeS.l0]
    rw [if_neg (by omega)]
    exact ⟨y, by rw [show (i : Int) = (y.length : Int) by omega], rfl, fun j hj => h3 j hj (by omega)⟩
  | d + 1, i, y, k, h1, h2, h3, hk => by
    obtain ⟨k, rfl⟩ : ∃ m, k = m + 1 := ⟨k - 1, by omega⟩
    have hi : i < y.length := by omega
    simp only [laws_markNodeS.l0, Option.bind_some]
    rw [if_pos (by omega), if_pos (by omega), next64 (by omega)]
    generalize hb : a + 3 * (i : Int) = b
    rw [w64 (x := b + 1) (by omega) (by omega), w64 (x := b + 1 + 1) (by omega) (by omega), w64 (x := b + 1 + 1 + 1) (by omega) (by omega)]
    simp only [show ((i : Int).toNat) = i by omega]
    have key : ∀ yy : List S92, yy = y.set i (mN a i) → ∃ z : List S92, laws_markNodeS.l0 k yy (b + 1 + 1 + 1) ((i + 1 : Nat) : Int) = some (a + 3 * (y.length : Int), z) ∧ z.length = y.length ∧ ∀ j (hj : j < z.length), z[j] = mN a j := by
      intro yy hy
      have hl : yy.length = y.length := by rw [hy, List.length_set]
      obtain ⟨z, hz, hzl, hze⟩ := markNodeS_l a ha ha2 d (i + 1) yy k (by omega) (by omega) (fun j hj hji => by
        simp only [hy, List.getElem_set]
        by_cases e : i = j
        · rw [if_pos e, e]
        · rw [if_neg e]
          exact h3 j (by omega) (by omega)) (by omega)
      rw [show b + 1 + 1 + 1 = a + 3 * ((i + 1 : Nat) : Int) by omega, hz, hl]
      exact ⟨z, rfl, by omega, hze⟩
    refine key _ ?_
    have hset : ∀ v : S92, rd_T92 (y.set i v) (i : Int) = v := fun v => setN_ y i hi v
    simp only [hset, List.set_set]
    unfold mN
    rw [hb]
    congr 2 <;> omega
theorem heldNodeS_l (a : Int) (ha : 0 ≤ a) (ha2 : a ≤ 4398046511104) (z : List S92) (hl : z.length ≤ 1048576) (hz : ∀ j (hj : j < z.length), z[j] = mN a j) : ∀ (d i k : Nat), i + d = z.length → d < k → laws_heldNodeS.l0 k z (a + 3 * (i : Int)) (i : Int) = some (a + 3 * (z.length : Int))
  | 0, i, k, h1, hk => by
    obtain ⟨k, rfl⟩ : ∃ m, k = m + 1 := ⟨k - 1, by omega⟩
    simp only [laws_heldNodeS.l0]
    rw [if_neg (by omega), show (i : Int) = (z.length : Int) by omega]
  | d + 1, i, k, h1, hk => by
    obtain ⟨k, rfl⟩ : ∃ m, k = m + 1 := ⟨k - 1, by omega⟩
    simp only [laws_heldNodeS.l0]
    rw [if_pos (by omega), if_pos (by omega), rd92_nat z i (by omega), hz i (by omega), next64 (by omega)]
    generalize hb : a + 3 * (i : Int) = b
    unfold mN
    rw [hb, w64 (x := b + 1) (by omega) (by omega), w64 (x := b + 1 + 1) (by omega) (by omega), w64 (x := b + 1 + 1 + 1) (by omega) (by omega)]
    dsimp only
    rw [if_pos rfl, if_pos rfl, if_pos (by omega), show b + 1 + 1 + 1 = a + 3 * ((i + 1 : Nat) : Int) by omega]
    exact heldNodeS_l a ha ha2 z hl hz d (i + 1) k (by omega) (by omega)
def markNN (a : Int) (n : Nat) : List S92 := (List.range n).map fun (j : Nat) => mN a j
theorem markNodeS_val (y : List S92) (a : Int) (ha : 0 ≤ a) (ha2 : a ≤ 4398046511104) (hl : y.length ≤ 1048576) (k : Nat) (hk : y.length < k) :
    laws_markNodeS.f k y a = some (a + 3 * (y.length : Int), markNN a y.length) := by
  obtain ⟨z, h1, h2, h3⟩ := markNodeS_l a ha ha2 y.length 0 y k (by omega) hl (fun j _ hj => absurd hj (by omega)) hk
  have hz : z = markNN a y.length := by
    apply List.ext_getElem (by rw [h2]; simp [markNN])
    intro j hj1 hj2
    rw [h3 j hj1]
    simp [markNN]
  rw [← hz]
  unfold laws_markNodeS.f
  simpa using h1
theorem heldNodeS_val (n : Nat) (a : Int) (ha : 0 ≤ a) (ha2 : a ≤ 4398046511104) (hn : n ≤ 1048576) (k : Nat) (hk : n < k) : laws_heldNodeS.f k (markNN a n) a = some (a + 3 * (n : Int)) := by
  have hl : (markNN a n).length = n := by simp [markNN]
  have := heldNodeS_l a ha ha2 (markNN a n) (by omega) (fun j hj => by simp [markNN]) n 0 k (by omega) hk
  rw [hl] at this
  unfold laws_heldNodeS.f
  simpa using this
theorem markDiagram_val (y : List S92) (c0 c2 : Int) (hl : y.length ≤ 1048576) (k : Nat) (hk : y.length < k) : laws_markDiagram.f k c0 y c2 1 = some (1 + 3 * (y.length : Int), markNN 1 y.length) := by
  unfold laws_markDiagram.f
  rw [markNodeS_val y 1 (by omega) (by omega) hl k hk]
  rfl
theorem heldDiagram_val (n : Nat) (c0 c2 : Int) (hn : n ≤ 1048576) (k : Nat) (hk : n < k) : laws_heldDiagram.f k c0 (markNN 1 n) c2 1 = some (1 + 3 * (n : Int)) := by
  unfold laws_heldDiagram.f
  rw [heldNodeS_val n 1 (by omega) (by omega) hn k hk]
  simp only [Option.bind_some]
  rw [if_neg (by omega)]

theorem toBoolS_l (l : List Bool) (hl : l.length ≤ 4611686018427387904) : ∀ (d i : Nat) (y : List Bool) (k : Nat), i + d = l.length → y.length = l.length → (∀ j, j < i → y[j]? = l[j]?) → d < k → laws_toBoolS.l0 k l y (i : Int) = some l
  | 0, i, y, k, h1, h2, h3, hk => by
    obtain ⟨k, rfl⟩ : ∃ m, k = m + 1 := ⟨k - 1, by omega⟩
    simp only [laws_toBoolS.l0]
    rw [if_neg (by omega)]
    congr 1
    apply List.ext_getElem?
    intro j
    by_cases hj : j < i
    · exact h3 j hj
    · rw [List.getElem?_eq_none (by omega), List.getElem?_eq_none (by omega)]
  | d + 1, i, y, k, h1, h2, h3, hk => by
    obtain ⟨k, rfl⟩ : ∃ m, k = m + 1 := ⟨k - 1, by omega⟩
    simp only [laws_toBoolS.l0]
    rw [if_pos (by omega), if_pos (by omega), if_pos (by omega), next64 (by omega), rdB_nat l i (by omega)]
    refine toBoolS_l l hl d (i + 1) _ k (by omega) (by rw [List.length_set]; exact h2) (fun j hj => ?_) (by omega)
    rw [show ((i : Int).toNat) = i by omega, List.getElem?_set]
    by_cases e : i = j
    · subst e
      rw [if_pos rfl, if_pos (by omega), List.getElem?_eq_getElem (by omega)]
    · rw [if_neg e]
      exact h3 j (by omega)
theorem toBoolS_val (l : List Bool) (hl : l.length ≤ 1048576) (k : Nat) (hk : l.length < k) : laws_toBoolS.f k l = some l := by
  unfold laws_toBoolS.f
  rw [if_pos (by omega), if_pos (by omega)]
  exact toBoolS_l l (by omega) l.length 0 _ k (by omega) (by rw [List.length_replicate]; omega) (fun j hj => absurd hj (by omega)) hk

theorem eqBoolS_l (l : List Bool) (hl : l.length ≤ 4611686018427387904) : ∀ (d i k : Nat), i + d = l.length → d < k → laws_eqBoolS.l0 k l l (i : Int) = some true
  | 0, i, k, h1, hk => by
    obtain ⟨k, rfl⟩ : ∃ m, k = m + 1 := ⟨k - 1, by omega⟩
    simp only [laws_eqBoolS.l0]
    rw [if_neg (by omega)]
  | d + 1, i, k, h1, hk => by
    obtain ⟨k, rfl⟩ : ∃ m, k = m + 1 := ⟨k - 1, by omega⟩
    simp only [laws_eqBoolS.l0]
    rw [if_pos (by omega), if_pos (by omega), if_pos (by omega), bne_self_eq_false, if_neg Bool.false_ne_true, next64 (by omega)]
    exact eqBoolS_l l hl d (i + 1) k (by omega) (by omega)
theorem eqBoolS_val (l : List Bool) (hl : l.length ≤ 4611686018427387904) (k : Nat) (hk : l.length < k) : laws_eqBoolS.f k l l = some true := by
  unfold laws_eqBoolS.f
  rw [if_pos rfl]
  exact eqBoolS_l l hl l.length 0 k (by omega) hk

def mB (a : Int) (j : Nat) : Bool := Int.tmod (a + (j : Int)) 3 == 0
def markB (a : Int) (n : Nat) : List Bool := (List.range n).map fun (j : Nat) => mB a j
theorem markB_length (a : Int) (n : Nat) : (markB a n).length = n := by simp [markB]
theorem markBoolS_l (a : Int) (ha : 0 ≤ a) (ha2 : a ≤ 4398046511104) : ∀ (d i : Nat) (y : List Bool) (k : Nat), i + d = y.length → y.length ≤ 4398046511104 → (∀ j (hj : j < y.length), j < i → y[j] = mB a j) → d < k →
    ∃ z : List Bool, laws_markBoolS.l0 k y (a + i) (i : Int) = some (a + y.length, z) ∧ z.length = y.length ∧ ∀ j (hj : j < z.length), z[j] = mB a j
  | 0, i, y, k, h1, h2, h3, hk => by
    obtain ⟨k, rfl⟩ : ∃ m, k = m + 1 := ⟨k - 1, by omega⟩
    simp only [laws_markBoolS.l0]
    rw [if_neg (by omega)]
    exact ⟨y, by rw [show (a + (i : Int)) = a + (y.length : Int) by omega], rfl, fun j hj => h3 j hj (by omega)⟩
  | d + 1, i, y, k, h1, h2, h3, hk => by
    obtain ⟨k, rfl⟩ : ∃ m, k = m + 1 := ⟨k - 1, by omega⟩
    simp only [laws_markBoolS.l0]
    rw [if_pos (by omega), if_pos (by omega), next64 (by omega), w64 (by omega) (by omega), show a + (i : Int) + 1 = a + ((i + 1 : Nat) : Int) by omega, show ((i : Int).toNat) = i by omega]
    obtain ⟨z, hz, hzl, hze⟩ := markBoolS_l a ha ha2 d (i + 1) (y.set i (Int.tmod (a + (i : Int)) 3 == 0)) k (by rw [List.length_set]; omega) (by rw [List.length_set]; omega) (fun j hj hji => by
      rw [List.getElem_set]
      by_cases e : i = j
      · rw [if_pos e, e]
        rfl
      · rw [if_neg e]
        exact h3 j (by rw [List.length_set] at hj; exact hj) (by omega)) (by omega)
    rw [List.length_set] at hz hzl
    exact ⟨z, hz, hzl, hze⟩
theorem markBoolS_val (y : List Bool) (a : Int) (ha : 0 ≤ a) (ha2 : a ≤ 4398046511104) (hl : y.length ≤ 4398046511104) (k : Nat) (hk : y.length < k) :
    laws_markBoolS.f k y a = some (a + y.length, markB a y.length) := by
  obtain ⟨z, h1, h2, h3⟩ := markBoolS_l a ha ha2 y.length 0 y k (by omega) hl (fun j _ hj => absurd hj (by omega)) hk
  have hz : z = markB a y.length := by
    apply List.ext_getElem (by rw [h2, markB_length])
    intro j hj1 hj2
    rw [h3 j hj1]
    simp [markB]
  rw [← hz]
  unfold laws_markBoolS.f
  simpa using h1

def dR (a : Int) (t : List Bool) : Int × List S92 × Int × Bool := if 0 ≤ a ∧ a ≤ 6 ∧ t.length = 2 ^ a.toNat then (a, (bld a.toNat 1 [] t).2, (bld a.toNat 1 [] t).1, true) else (0, [], 0, false)
theorem p6 {a : Int} (h0 : 0 ≤ a) (h6 : a ≤ 6) : 2 ^ a.toNat ≤ 64 := by
  have : a = 0 ∨ a = 1 ∨ a = 2 ∨ a = 3 ∨ a = 4 ∨ a = 5 ∨ a = 6 := by omega
  rcases this with rfl | rfl | rfl | rfl | rfl | rfl | rfl <;> decide
theorem shu {a : Int} (h0 : 0 ≤ a) (h6 : a ≤ 6) : shl .i64 1 (IntKind.u64.wrap a) = ((2 ^ a.toNat : Nat) : Int) ∧ 0 ≤ IntKind.u64.wrap a := by
  have : a = 0 ∨ a = 1 ∨ a = 2 ∨ a = 3 ∨ a = 4 ∨ a = 5 ∨ a = 6 := by omega
  rcases this with rfl | rfl | rfl | rfl | rfl | rfl | rfl <;> decide
theorem shi {a : Int} (h0 : 0 ≤ a) (h6 : a ≤ 6) : shl .i64 1 a = ((2 ^ a.toNat : Nat) : Int) := by
  have : a = 0 ∨ a = 1 ∨ a = 2 ∨ a = 3 ∨ a = 4 ∨ a = 5 ∨ a = 6 := by omega
  rcases this with rfl | rfl | rfl | rfl | rfl | rfl | rfl <;> decide
theorem nbne (x y : Nat) : (((x : Int) != (y : Int)) = true) ↔ x ≠ y := by
  rw [bne_iff_ne]
  omega
theorem specDia (a : Int) (t : List Bool) (k : Nat) (hk : 9000000 ≤ k) : spec_DiagramOf.f k a t = some (dR a t) := by
  obtain ⟨k, rfl⟩ : ∃ m, k = m + 1 := ⟨k - 1, by omega⟩
  unfold spec_DiagramOf.f spec_l1In.f dR
  simp only [spec_DiagramOf.j0]
  by_cases h0 : a ≥ 0
  · rw [if_pos h0]
    simp only [Option.bind_some]
    by_cases h6 : a ≤ 6
    · have hp := p6 h0 h6
      rw [decide_eq_true h6, if_pos rfl, if_pos (shu h0 h6).2, (shu h0 h6).1]
      by_cases e : t.length = 2 ^ a.toNat
      · rw [if_neg (fun h => (nbne _ _).1 h e), if_pos ⟨h0, h6, e⟩]
        have hl := bld_length a.toNat 1 [] t
        rw [List.length_nil] at hl
        unfold spec_l7Of.f
        rw [specBld a.toNat _ 1 [] t e (by rw [List.length_nil]; omega) (by omega)]
        simp only [Option.bind_some]
        rw [if_pos (by omega)]
        rfl
      · rw [if_pos ((nbne _ _).2 e), if_neg (fun h => e h.2.2)]
    · rw [decide_eq_false h6, if_neg Bool.false_ne_true, if_pos trivial, if_neg (fun h => h6 h.2.1)]
  · rw [if_neg h0]
    simp only [Option.bind_some]
    rw [if_neg Bool.false_ne_true, if_pos trivial, if_neg (fun h => h0 h.1)]
theorem implDia (a : Int) (t : List Bool) (k : Nat) (hk : 9000000 ≤ k) : impl_DiagramOf.f k a t = some (dR a t) := by
  obtain ⟨k, rfl⟩ : ∃ m, k = m + 1 := ⟨k - 1, by omega⟩
  unfold impl_DiagramOf.f impl_in.f dR
  simp only [impl_DiagramOf.j0]
  by_cases h0 : a ≥ 0
  · rw [if_pos h0]
    simp only [Option.bind_some]
    by_cases h6 : a ≤ 6
    · have hp := p6 h0 h6
      rw [decide_eq_true h6, if_pos rfl, if_pos (show 0 ≤ a from h0), shi h0 h6]
      by_cases e : t.length = 2 ^ a.toNat
      · rw [if_neg (fun h => (nbne _ _).1 h e), if_pos ⟨h0, h6, e⟩]
        unfold impl_diagram.f
        rw [implBld a.toNat _ 1 [] t e (by rw [List.length_nil]; omega) (by omega)]
        rfl
      · rw [if_pos ((nbne _ _).2 e), if_neg (fun h => e h.2.2)]
    · rw [decide_eq_false h6, if_neg Bool.false_ne_true, if_pos trivial, if_neg (fun h => h6 h.2.1)]
  · rw [if_neg h0]
    simp only [Option.bind_some]
    rw [if_neg Bool.false_ne_true, if_pos trivial, if_neg (fun h => h0 h.1)]
theorem dR_length (a : Int) (t : List Bool) : (dR a t).2.1.length ≤ 64 := by
  unfold dR
  split
  · rename_i h
    have hp := p6 h.1 h.2.1
    have hl := bld_length a.toNat 1 [] t
    rw [List.length_nil] at hl
    dsimp only
    omega
  · simp

theorem FnExactDiagramOf : laws_FnExactDiagramOf.Pure := by
  rintro a l _ ⟨h0, _⟩
  obtain ⟨k, hk⟩ : ∃ k : Nat, 9000000 ≤ k := ⟨_, Nat.le_refl _⟩
  refine ⟨k, ?_⟩
  unfold laws_FnExactDiagramOf.f
  by_cases hn : (l.length : Int) > 1048576
  · rw [if_pos hn]
  rw [if_neg hn]
  have hll : l.length ≤ 1048576 := by omega
  have hT : ∀ q, 9000000 ≤ q → laws_toBoolS.f q l = some l := fun q hq => toBoolS_val l hll q (by omega)
  have hE : ∀ q, 9000000 ≤ q → laws_eqBoolS.f q l l = some true := fun q hq => eqBoolS_val l (by omega) q (by omega)
  have hM : ∀ q, 9000000 ≤ q → laws_markBoolS.f q l 1 = some (1 + (l.length : Int), markB 1 l.length) := fun q hq => markBoolS_val l 1 (by omega) (by omega) (by omega) q (by omega)
  have hs : ∀ q, 9000000 ≤ q → spec_DiagramOf.f q a l = some (dR a l) := fun q hq => specDia a l q hq
  have him : ∀ q, 9000000 ≤ q → impl_DiagramOf.f q a l = some (dR a l) := fun q hq => implDia a l q hq
  have hbd := dR_length a l
  obtain ⟨r, hre⟩ : ∃ r, r = dR a l := ⟨_, rfl⟩
  rw [← hre] at hs him hbd
  obtain ⟨r1, r2, r3, r4⟩ := r
  replace hbd : r2.length ≤ 64 := hbd
  have hED : ∀ q, 9000000 ≤ q → laws_eqDiagram.f q r1 r2 r3 r1 r2 r3 = some true := fun q hq => eqDiagram_val r1 r3 r2 (by omega) q (by omega)
  have hMD : ∀ q, 9000000 ≤ q → laws_markDiagram.f q r1 r2 r3 1 = some (1 + 3 * (r2.length : Int), markNN 1 r2.length) := fun q hq => markDiagram_val r2 r1 r3 (by omega) q (by omega)
  have hHD : ∀ q, 9000000 ≤ q → laws_heldDiagram.f q r1 (markNN 1 r2.length) r3 1 = some (1 + 3 * (r2.length : Int)) := fun q hq => heldDiagram_val r2.length r1 r3 (by omega) q (by omega)
  have n1 : ¬ (1 + (l.length : Int) < 0) := by omega
  have n2 : ¬ (1 + 3 * (r2.length : Int) < 0) := by omega
  repeat (first
    | (rw [hT _ (by omega)]; simp only [Option.bind_some])
    | (rw [hs _ (by omega)]; simp only [Option.bind_some])
    | (rw [him _ (by omega)]; simp only [Option.bind_some])
    | (rw [hE _ (by omega)]; simp only [Option.bind_some])
    | (rw [hED _ (by omega)]; simp only [Option.bind_some])
    | (rw [hM _ (by omega)]; simp only [Option.bind_some])
    | (rw [hMD _ (by omega)]; simp only [Option.bind_some])
    | (rw [hHD _ (by omega)]; simp only [Option.bind_some])
    | rw [if_neg n1]
    | rw [if_neg n2]
    | rw [if_pos rfl]
    | rw [bne_self_eq_false]
    | rw [if_neg Bool.false_ne_true]
    | simp only [Option.bind_some])
  try simp

end Go.Proofs.Ytjopmdogdmdanaa.Pure
