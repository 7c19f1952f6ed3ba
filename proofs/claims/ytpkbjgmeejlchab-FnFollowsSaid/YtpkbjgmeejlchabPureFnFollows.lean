/- The pure statement of the law FnFollows: the printed functions of the program and of the reference give the same answers, at every input that the statement's guards let in. -/
import Derived.Test.YtpkbjgmeejlchabPFnFollowsx15
namespace Go.Proofs.Ytpkbjgmeejlchab.Pure
open Go.RowKit Go.Proofs.Ytpkbjgmeejlchab.PFnFollows Go.Proofs.YtpkbjgmeejlchabW.PrintWords Go.Proofs.YtpkbjgmeejlchabW.PrintLast Go.Proofs.YtpkbjgmeejlchabW.PrintMore
set_option linter.unusedSimpArgs false
set_option linter.unusedVariables false
theorem rdL_nat (l : List (List Int)) (i : Nat) (h : i < l.length) : rd_L2 l (i : Int) = l[i] := by
  unfold rd_L2
  rw [List.getD_eq_getElem?_getD, show ((i : Int).toNat) = i by omega, List.getElem?_eq_getElem h]
  rfl

theorem w64 {x : Int} (h0 : -9223372036854775808 ≤ x) (h1 : x ≤ 9223372036854775807) : wrap64 x = x := by
  unfold wrap64
  omega
theorem rd_nat (l : List Int) (i : Nat) (h : i < l.length) : rd l (i : Int) = l[i] := by
  unfold rd
  rw [List.getD_eq_getElem?_getD, show ((i : Int).toNat) = i by omega, List.getElem?_eq_getElem h]
  rfl
theorem next64 {i : Nat} (h : i ≤ 4611686018427387904) : wrap64 ((i : Int) + 1) = ((i + 1 : Nat) : Int) := by
  rw [w64 (by omega) (by omega)]
  omega

def U8 (c : List Int) : Prop := ∀ x ∈ c, 0 ≤ x ∧ x ≤ 255
theorem u8_of {c : List Int} (h : ∀ x ∈ c, (Lit.int .u8 x).wf = true) : U8 c := fun x hx => by
  have := h x hx
  simp [Lit.wf, IntKind.min, IntKind.max, IntKind.signed, IntKind.bits] at this
  omega
theorem u64_range (x : Int) : 0 ≤ IntKind.u64.wrap x ∧ IntKind.u64.wrap x < 18446744073709551616 := by
  rw [show IntKind.u64.wrap x = x % 18446744073709551616 by simp [IntKind.wrap, IntKind.bits, IntKind.signed]]
  omega
theorem and255 {x : Int} (h0 : 0 ≤ x) (h1 : x < 18446744073709551616) : 0 ≤ Go.bits .and .u64 x 255 ∧ Go.bits .and .u64 x 255 ≤ 255 := by
  obtain ⟨n, rfl⟩ : ∃ n : Nat, x = n := ⟨x.toNat, by omega⟩
  have e : Go.bits .and .u64 (n : Int) 255 = ((n &&& 255 : Nat) : Int) := bits_and_u64_nat n 255 (by omega) (by omega)
  have : n &&& 255 ≤ 255 := Nat.and_le_right
  rw [e]
  omega
theorem next_ok {c : List Int} (hc : U8 c) {p : Int} (s : Int) (h0 : 0 ≤ p) (h1 : p ≤ 1000000000000) : ∃ b s', spec_l1Cur_next.f c p s = some (b, p + 1, s') ∧ 0 ≤ b ∧ b ≤ 255 := by
  unfold spec_l1Cur_next.f
  rw [w64 (x := p + 1) (by omega) (by omega)]
  by_cases h : p < (c.length : Int)
  · have hb : 0 ≤ rd c p ∧ rd c p ≤ 255 := by
      obtain ⟨i, rfl⟩ : ∃ i : Nat, p = i := ⟨p.toNat, by omega⟩
      rw [rd_nat c i (by omega)]
      exact hc _ (List.getElem_mem _)
    rw [if_pos h, if_pos h0, if_pos (by omega), w64 (x := rd c p) (by omega) (by omega)]
    exact ⟨_, _, rfl, hb.1, hb.2⟩
  · rw [if_neg h, if_neg (by omega)]
    have hr := u64_range (IntKind.u64.wrap (IntKind.u64.wrap (s * 6364136223846793005) + 0) + 1442695040888963407)
    have hb := and255 (x := IntKind.u64.wrap (IntKind.u64.wrap (IntKind.u64.wrap (s * 6364136223846793005) + 0) + 1442695040888963407) / 1099511627776) (by omega) (by omega)
    rw [w64 (x := Go.bits .and .u64 _ 255) (by omega) (by omega)]
    exact ⟨_, _, rfl, hb.1, hb.2⟩
theorem pick_ok {c : List Int} (hc : U8 c) {p : Int} (s : Int) (n : Int) (h0 : 0 ≤ p) (h1 : p ≤ 999999999000) : ∃ r p' s', spec_l1Cur_pick.f c p s n = some (r, p', s') ∧ p ≤ p' ∧ p' ≤ p + 2 ∧ 0 ≤ r ∧ (1 ≤ n → r < n) ∧ (n ≤ 1 → r = 0) := by
  unfold spec_l1Cur_pick.f
  by_cases h : n ≤ 1
  · rw [if_pos h]
    exact ⟨0, p, s, rfl, by omega, by omega, by omega, by omega, by omega⟩
  · rw [if_neg h]
    obtain ⟨b, s1, e1, b0, b1⟩ := next_ok hc s h0 (by omega)
    rw [e1]
    simp only [Option.bind_some]
    have ht : ∀ x : Int, 0 ≤ x → 0 ≤ Int.tmod x n ∧ Int.tmod x n < n := fun x hx => by
      rw [Int.tmod_eq_emod_of_nonneg hx]
      exact ⟨Int.emod_nonneg _ (by omega), Int.emod_lt_of_pos _ (by omega)⟩
    by_cases h2 : n > 200
    · rw [if_pos h2]
      obtain ⟨d, s2, e2, d0, d1⟩ := next_ok hc s1 (p := p + 1) (by omega) (by omega)
      rw [e2]
      simp only [Option.bind_some]
      rw [if_neg (by omega), w64 (x := b * 256) (by omega) (by omega), w64 (by omega) (by omega)]
      obtain ⟨a1, a2⟩ := ht (b * 256 + d) (by omega)
      exact ⟨_, _, _, rfl, by omega, by omega, a1, fun _ => a2, by omega⟩
    · rw [if_neg h2, if_neg (by omega)]
      obtain ⟨a1, a2⟩ := ht b b0
      exact ⟨_, _, _, rfl, by omega, by omega, a1, fun _ => a2, by omega⟩
theorem among_ok {c : List Int} (hc : U8 c) {p : Int} (s : Int) (l : List Int) (hl : 0 < l.length) (h0 : 0 ≤ p) (h1 : p ≤ 999999999000) : ∃ r p' s', spec_l1Cur_among.f c p s l = some (r, p', s') ∧ p ≤ p' ∧ p' ≤ p + 2 ∧ r ∈ l := by
  unfold spec_l1Cur_among.f
  obtain ⟨r, p', s', e, a, b, r0, r1, _⟩ := pick_ok hc s (l.length : Int) h0 h1
  have hr := r1 (by omega)
  rw [e]
  simp only [Option.bind_some]
  rw [if_pos r0, if_pos hr]
  obtain ⟨i, rfl⟩ : ∃ i : Nat, r = i := ⟨r.toNat, by omega⟩
  rw [rd_nat l i (by omega)]
  exact ⟨_, _, _, rfl, a, b, List.getElem_mem _⟩
theorem one_ok {c : List Int} (hc : U8 c) {p : Int} (s : Int) (n : Int) (h0 : 0 ≤ p) (h1 : p ≤ 999999999000) : ∃ r p' s', spec_l1Cur_one.f c p s n = some (r, p', s') ∧ p ≤ p' ∧ p' ≤ p + 2 := by
  unfold spec_l1Cur_one.f
  obtain ⟨r, p', s', e, a, b, _, _, _⟩ := pick_ok hc s n h0 h1
  rw [e]
  exact ⟨_, _, _, rfl, a, b⟩

theorem drop_at (l : List Int) (i : Nat) (h : i < l.length) : l.drop i = l[i] :: l.drop (i + 1) := List.drop_eq_getElem_cons h
theorem has_l (l : List Int) (x : Int) (hl : l.length ≤ 1099511627776) : ∀ (d i k : Nat), i + d = l.length → d < k → spec_l1Has.l0 k x l (l.length : Int) (i : Int) = some ((l.drop i).any (· == x))
  | 0, i, k, h1, hk => by
    obtain ⟨k, rfl⟩ : ∃ m, k = m + 1 := ⟨k - 1, by omega⟩
    simp only [spec_l1Has.l0]
    rw [if_neg (by omega), List.drop_of_length_le (by omega)]
    rfl
  | d + 1, i, k, h1, hk => by
    obtain ⟨k, rfl⟩ : ∃ m, k = m + 1 := ⟨k - 1, by omega⟩
    simp only [spec_l1Has.l0]
    rw [if_pos (by omega), if_pos (by omega), if_pos (by omega), rd_nat l i (by omega), next64 (by omega), drop_at l i (by omega)]
    by_cases e : l[i] = x
    · rw [if_pos e]
      rw [List.any_cons, show (l[i] == x) = true by simpa using e, Bool.true_or]
    · rw [if_neg e, has_l l x hl d (i + 1) k (by omega) (by omega), List.any_cons, show (l[i] == x) = false by simpa using e, Bool.false_or]
theorem has_val (l : List Int) (x : Int) (hl : l.length ≤ 1099511627776) (k : Nat) (hk : l.length < k) : spec_l1Has.f k l x = some (l.any (· == x)) := by
  unfold spec_l1Has.f
  have := has_l l x hl l.length 0 k (by omega) hk
  simpa using this

theorem specIn_val (n a b : Int) : spec_l1In.f n a b = some (decide (a ≤ n) && decide (n ≤ b)) := by
  unfold spec_l1In.f
  by_cases h : n ≥ a
  · rw [if_pos h]
    simp [h]
  · rw [if_neg h]
    simp [h]
theorem neg64 {n : Int} (h0 : -4611686018427387904 ≤ n) (h1 : n ≤ 4611686018427387904) : wrap64 (-n) = -n := w64 (by omega) (by omega)
theorem vab_small {n : Int} (h0 : -12 ≤ n) (h1 : n ≤ 12) : vab n = if n < -n then -n else n := by
  unfold vab
  rw [neg64 (by omega) (by omega)]
theorem vab_eq {n m : Int} (h0 : -12 ≤ n) (h1 : n ≤ 12) (h2 : -12 ≤ m) (h3 : m ≤ 12) : (vab n == vab m) = ((n == m) || (n == -m)) := by
  rw [vab_small h0 h1, vab_small h2 h3, Bool.eq_iff_iff]
  simp only [beq_iff_eq, Bool.or_eq_true]
  split <;> split <;> omega
theorem litB_small {n v : Int} (h0 : 0 ≤ v) (h1 : v ≤ 12) (h : litB n v = true) : n ≠ 0 ∧ -v ≤ n ∧ n ≤ v := by
  unfold litB at h
  rw [neg64 (by omega) (by omega)] at h
  simpa [Bool.and_eq_true] using h
theorem any_vab (l : List Int) (m : Int) (h2 : -12 ≤ m) (h3 : m ≤ 12) (hl : ∀ x ∈ l, -12 ≤ x ∧ x ≤ 12) : (l.any fun k => vab k == vab m) = (l.any (· == m) || l.any (· == -m)) := by
  induction l with
  | nil => rfl
  | cons a l ih =>
    have ha := hl a List.mem_cons_self
    rw [List.any_cons, List.any_cons, List.any_cons, ih (fun x hx => hl x (List.mem_cons_of_mem _ hx)), vab_eq ha.1 ha.2 h2 h3]
    cases (a == m) <;> cases (a == -m) <;> cases l.any (· == m) <;> simp

theorem any_flip (l : List Int) (a : Int) : (l.any fun y => a == y) = l.any (· == a) := by
  congr 1
  funext y
  rw [Bool.eq_iff_iff]
  simp only [beq_iff_eq]
  exact eq_comm

def cleanS : List Int → List Int → List Int × Bool
  | acc, [] => (acc, true)
  | acc, n :: r => if (!litB n 12 || acc.any (· == wrap64 (-n))) = true then ([], false) else if acc.any (· == n) = true then cleanS acc r else cleanS (acc ++ [n]) r
theorem specClean_l (l : List Int) (hl : l.length ≤ 1000) : ∀ (d i k : Nat) (acc : List Int), i + d = l.length → acc.length ≤ i → 2 * d + 2000 ≤ k → spec_CleanClause.l0 k acc l (l.length : Int) (i : Int) = some (cleanS acc (l.drop i))
  | 0, i, k, acc, h1, h2, hk => by
    obtain ⟨k, rfl⟩ : ∃ m, k = m + 1 := ⟨k - 1, by omega⟩
    simp only [spec_CleanClause.l0]
    rw [if_neg (by omega), List.drop_of_length_le (by omega)]
    rfl
  | d + 1, i, k, acc, h1, h2, hk => by
    obtain ⟨k, rfl⟩ : ∃ m, k = m + 2 := ⟨k - 2, by omega⟩
    have hil : i < l.length := by omega
    simp only [spec_CleanClause.l0, spec_CleanClause.j1]
    rw [if_pos (by omega), if_pos (by omega), if_pos (by omega), rd_nat l i hil, next64 (by omega), drop_at l i hil]
    have hw : litB l[i] 12 = (decide (l[i] ≠ 0) && (decide (-12 ≤ l[i]) && decide (l[i] ≤ 12))) := by
      unfold litB
      rw [neg64 (n := 12) (by omega) (by omega)]
    unfold cleanS
    by_cases e0 : l[i] = 0
    · rw [if_pos e0, hw]
      simp [e0]
    · rw [if_neg e0, specIn_val]
      simp only [Option.bind_some]
      have hb : litB l[i] 12 = (decide (-12 ≤ l[i]) && decide (l[i] ≤ 12)) := by rw [hw]; simp [e0]
      rw [← hb]
      cases litB l[i] 12 with
      | false => simp
      | true =>
        first | rw [if_pos rfl] | rw [if_true]
        rw [has_val acc _ (by omega) _ (by omega)]
        simp only [Option.bind_some, Bool.not_true, Bool.false_or]
        cases acc.any (· == wrap64 (-l[i])) with
        | true => simp
        | false =>
          rw [if_neg Bool.false_ne_true, if_neg Bool.false_ne_true, has_val acc _ (by omega) _ (by omega)]
          simp only [Option.bind_some]
          cases acc.any (· == l[i]) with
          | true =>
            simp only [if_true]
            exact specClean_l l hl d (i + 1) k acc (by omega) (by omega) (by omega)
          | false =>
            rw [if_neg Bool.false_ne_true, if_neg Bool.false_ne_true, if_pos (by omega)]
            exact specClean_l l hl d (i + 1) k _ (by omega) (by simp; omega) (by omega)
theorem cleanClause_spec (l : List Int) (k : Nat) (hk : 3000000 ≤ k) : spec_CleanClause.f k l = some (if (l.length : Int) > 40 then ([], false) else cleanS [] l) := by
  unfold spec_CleanClause.f
  by_cases h : (l.length : Int) > 40
  · rw [if_pos h, if_pos h]
  · rw [if_neg h, if_neg h]
    have := specClean_l l (by omega) l.length 0 k [] (by omega) (by simp) (by omega)
    simpa using this

theorem cleanS_length : ∀ (l acc : List Int), (cleanS acc l).1.length ≤ acc.length + l.length
  | [], acc => by simp [cleanS]
  | n :: r, acc => by
    unfold cleanS
    split
    · simp
    · split
      · have := cleanS_length r acc
        simp
        omega
      · have := cleanS_length r (acc ++ [n])
        simp at this
        simp
        omega
theorem drawClean_gen (l : List Int) (k : Nat) (hk : 3000000 ≤ k) : ∃ r b, spec_CleanClause.f k l = some (r, b) ∧ r.length ≤ l.length := by
  rw [cleanClause_spec l k hk]
  by_cases h : (l.length : Int) > 40
  · rw [if_pos h]
    exact ⟨_, _, rfl, by simp⟩
  · rw [if_neg h]
    have := cleanS_length l []
    exact ⟨_, _, rfl, by simpa using this⟩
theorem drawClean_ok (l : List Int) (_hl : l.length ≤ 40) (k : Nat) (hk : 3000000 ≤ k) : ∃ r b, spec_CleanClause.f k l = some (r, b) ∧ r.length ≤ l.length := drawClean_gen l k hk
theorem lit_ok {c : List Int} (hc : U8 c) {p : Int} (s n : Int) (h0 : 0 ≤ p) (h1 : p ≤ 999999998000) : ∃ r p' s', spec_l1Cur_lit.f c p s n = some (r, p', s') ∧ p ≤ p' ∧ p' ≤ p + 4 := by
  unfold spec_l1Cur_lit.f
  obtain ⟨r1, p1, s1, e1, a1, b1, c1, _, _⟩ := pick_ok hc s n h0 (by omega)
  obtain ⟨b, p2, s2, e2, a2, b2⟩ := one_ok hc s1 2 (p := p1) (by omega) (by omega)
  rw [e1]
  simp only [Option.bind_some]
  rw [e2]
  simp only [Option.bind_some]
  cases b with
  | true =>
    rw [if_pos rfl]
    exact ⟨_, _, _, rfl, by omega, by omega⟩
  | false =>
    rw [if_neg Bool.false_ne_true]
    exact ⟨_, _, _, rfl, by omega, by omega⟩
/-- What the drawing of clauses leaves. -/
def ClOk (l : List (List Int)) (n m : Nat) : Prop := l.length ≤ n ∧ ∀ x ∈ l, x.length ≤ m
theorem clauses_l0 {c : List Int} (hc : U8 c) (v : Int) : ∀ (n : Nat) (l : List (List Int)) (k : Nat) (p s : Int), l.length + n ≤ 14 → (∀ x ∈ l, x.length ≤ 50) → 0 ≤ p → p + 20 * n ≤ 999999990000 → 3000100 + 10 * n ≤ k →
    ∃ l' p' s', spec_l1Cur_clauses.l0 k v l n c p s = some (v, l', p', s') ∧ p ≤ p' ∧ p' ≤ p + 20 * n + 10 ∧ ClOk l' 14 60
  | 0, l, k, p, s, hl, hr, h0, h1, hk => by
    obtain ⟨k, rfl⟩ : ∃ q, k = q + 1 := ⟨k - 1, by omega⟩
    simp only [spec_l1Cur_clauses.l0]
    rw [if_neg (by omega)]
    have hok : ClOk l 14 60 := ⟨by omega, fun x hx => by have := hr x hx; omega⟩
    by_cases h : (l.length : Int) > 0
    · rw [if_pos h]
      obtain ⟨b, p1, s1, e, a1, b1⟩ := one_ok hc s 30 h0 (by omega)
      rw [e]
      simp only [Option.bind_some]
      cases b with
      | false =>
        rw [if_neg Bool.false_ne_true]
        exact ⟨_, _, _, rfl, by omega, by omega, hok⟩
      | true =>
        rw [if_pos rfl, if_pos h]
        obtain ⟨r, p2, s2, e2, a2, b2, _⟩ := among_ok hc s1 [0, 13, 1] (p := p1) (by simp) (by omega) (by omega)
        rw [e2]
        simp only [Option.bind_some]
        have hx : (rd_L2 l 0).length ≤ 50 := by
          have hpos : 0 < l.length := by omega
          have : rd_L2 l 0 = l[0] := by
            unfold rd_L2
            rw [List.getD_eq_getElem?_getD, show ((0 : Int).toNat) = 0 from rfl, List.getElem?_eq_getElem hpos]
            rfl
          rw [this]
          exact hr _ (List.getElem_mem _)
        rw [if_pos (by omega)]
        refine ⟨_, _, _, rfl, by omega, by omega, by rw [List.length_set]; omega, fun x hx' => ?_⟩
        rcases List.mem_or_eq_of_mem_set hx' with hx' | hx'
        · have := hr x hx'
          omega
        · rw [hx', List.length_append, List.length_singleton]
          omega
    · rw [if_neg h]
      exact ⟨_, _, _, rfl, by omega, by omega, hok⟩
  | n + 1, l, k, p, s, hl, hr, h0, h1, hk => by
    have inner : ∀ (m : Nat) (acc : List Int) (k : Nat) (p s : Int), acc.length + m ≤ 3 → 0 ≤ p → p + 4 * m + 20 * n ≤ 999999990000 → 3000102 + 10 * n + m ≤ k →
        ∃ l' p' s', spec_l1Cur_clauses.l1 k v l ((n + 1 : Nat) : Int) acc m c p s = some (v, l', p', s') ∧ p ≤ p' ∧ p' ≤ p + 4 * m + 20 * n + 10 ∧ ClOk l' 14 60 := by
      intro m
      induction m with
      | zero =>
        intro acc k p s ha h0 h1 hk
        obtain ⟨k, rfl⟩ : ∃ q, k = q + 1 := ⟨k - 1, by omega⟩
        simp only [spec_l1Cur_clauses.l1]
        rw [if_neg (by omega)]
        obtain ⟨r, b, e, hrl⟩ := drawClean_ok acc (by omega) k (by omega)
        rw [e]
        simp only [Option.bind_some]
        rw [show wrap64 (((n + 1 : Nat) : Int) - 1) = (n : Int) by rw [w64 (by omega) (by omega)]; omega]
        cases b with
        | true =>
          rw [if_pos rfl, if_pos (by omega)]
          obtain ⟨l', p', s', e', a', b', c'⟩ := clauses_l0 hc v n (l ++ [r]) k p s (by simp; omega) (fun x hx => by
            rcases List.mem_append.1 hx with hx | hx
            · exact hr x hx
            · have : x = r := by simpa using hx
              subst this
              omega) h0 (by omega) (by omega)
          exact ⟨l', p', s', e', by omega, by omega, c'⟩
        | false =>
          rw [if_neg Bool.false_ne_true]
          obtain ⟨l', p', s', e', a', b', c'⟩ := clauses_l0 hc v n l k p s (by omega) hr h0 (by omega) (by omega)
          exact ⟨l', p', s', e', by omega, by omega, c'⟩
      | succ m ih =>
        intro acc k p s ha h0 h1 hk
        obtain ⟨k, rfl⟩ : ∃ q, k = q + 1 := ⟨k - 1, by omega⟩
        simp only [spec_l1Cur_clauses.l1]
        rw [if_pos (by omega)]
        obtain ⟨r, p1, s1, e, a1, b1⟩ := lit_ok hc s v h0 (by omega)
        rw [e]
        simp only [Option.bind_some]
        rw [if_pos (by omega), show wrap64 (((m + 1 : Nat) : Int) - 1) = (m : Int) by rw [w64 (by omega) (by omega)]; omega]
        obtain ⟨l', p', s', e', a', b', c'⟩ := ih (acc ++ [r]) k p1 s1 (by simp; omega) (by omega) (by omega) (by omega)
        exact ⟨l', p', s', e', by omega, by omega, c'⟩
    obtain ⟨k, rfl⟩ : ∃ q, k = q + 1 := ⟨k - 1, by omega⟩
    simp only [spec_l1Cur_clauses.l0]
    rw [if_pos (by omega)]
    obtain ⟨r, p1, s1, e, a1, b1, r0, r1, _⟩ := pick_ok hc s 3 h0 (by omega)
    replace r1 := r1 (by omega)
    rw [e]
    simp only [Option.bind_some]
    obtain ⟨m, hm⟩ : ∃ m : Nat, 1 + r = m := ⟨(1 + r).toNat, by omega⟩
    rw [w64 (x := 1 + r) (by omega) (by omega), hm]
    obtain ⟨l', p', s', e', a', b', c'⟩ := inner m [] k p1 s1 (by simp; omega) (by omega) (by omega) (by omega)
    exact ⟨l', p', s', e', by omega, by omega, c'⟩
theorem clauses_ok {c : List Int} (hc : U8 c) {p : Int} (s : Int) (h0 : 0 ≤ p) (h1 : p ≤ 999999980000) (k : Nat) (hk : 3000300 ≤ k) : ∃ v l p' s', spec_l1Cur_clauses.f k c p s = some (v, l, p', s') ∧ p ≤ p' ∧ p' ≤ p + 400 ∧ ClOk l 14 60 ∧ 0 ≤ v ∧ v ≤ 13 := by
  have hj : ∀ (v p s : Int), 0 ≤ v → v ≤ 13 → 0 ≤ p → p ≤ 999999980500 → ∃ l p' s', spec_l1Cur_clauses.j0 k v c p s = some (v, l, p', s') ∧ p ≤ p' ∧ p' ≤ p + 300 ∧ ClOk l 14 60 := by
    intro v p s hv0 hv1 h0 h1
    obtain ⟨k, rfl⟩ : ∃ q, k = q + 2 := ⟨k - 2, by omega⟩
    simp only [spec_l1Cur_clauses.j0]
    obtain ⟨r, p1, s1, e, a1, b1, r0, r1, _⟩ := pick_ok hc s 14 h0 (by omega)
    replace r1 := r1 (by omega)
    rw [e]
    simp only [Option.bind_some, spec_l1Cur_clauses.j1]
    by_cases hv : v = 0
    · rw [if_pos hv]
      obtain ⟨l', p', s', e', a', b', c'⟩ := clauses_l0 hc v 0 [] k p1 s1 (by simp) (by simp) (by omega) (by omega) (by omega)
      exact ⟨l', p', s', e', by omega, by omega, c'⟩
    · rw [if_neg hv]
      obtain ⟨n, rfl⟩ : ∃ n : Nat, r = n := ⟨r.toNat, by omega⟩
      obtain ⟨l', p', s', e', a', b', c'⟩ := clauses_l0 hc v n [] k p1 s1 (by simp; omega) (by simp) (by omega) (by omega) (by omega)
      exact ⟨l', p', s', e', by omega, by omega, c'⟩
  unfold spec_l1Cur_clauses.f
  obtain ⟨r, p1, s1, e, a1, b1, r0, r1, _⟩ := pick_ok hc s 6 h0 (by omega)
  replace r1 := r1 (by omega)
  obtain ⟨b, p2, s2, e2, a2, b2⟩ := one_ok hc s1 30 (p := p1) (by omega) (by omega)
  rw [e]
  simp only [Option.bind_some]
  rw [e2]
  simp only [Option.bind_some]
  cases b with
  | true =>
    rw [if_pos rfl]
    obtain ⟨v, p3, s3, e3, a3, b3, hm⟩ := among_ok hc s2 [0, 10, 13] (p := p2) (by simp) (by omega) (by omega)
    rw [e3]
    simp only [Option.bind_some]
    have hv : 0 ≤ v ∧ v ≤ 13 := by
      simp only [List.mem_cons, List.not_mem_nil, or_false] at hm
      omega
    obtain ⟨l, p', s', e', a', b', c'⟩ := hj v p3 s3 hv.1 hv.2 (by omega) (by omega)
    exact ⟨v, l, p', s', e', by omega, by omega, c', hv.1, hv.2⟩
  | false =>
    rw [if_neg Bool.false_ne_true, w64 (x := 1 + r) (by omega) (by omega)]
    obtain ⟨l, p', s', e', a', b', c'⟩ := hj (1 + r) p2 s2 (by omega) (by omega) (by omega) (by omega)
    exact ⟨1 + r, l, p', s', e', by omega, by omega, c', by omega, by omega⟩
theorem clOk_bounds {l : List (List Int)} {n m : Nat} (h : ClOk l n m) (hn : n ≤ 1048576) (hm : m ≤ 1048576) : l.length ≤ 1048576 ∧ ∀ x ∈ l, x.length ≤ 1048576 := ⟨Nat.le_trans h.1 hn, fun x hx => Nat.le_trans (h.2 x hx) hm⟩

theorem given_j1 {c : List Int} (hc : U8 c) (g : List Int) (hg : g.length ≤ 10) {p : Int} (s : Int) (h0 : 0 ≤ p) (h1 : p ≤ 999999980000) (k : Nat) (hk : 3000100 ≤ k) : ∃ g' p' s', spec_l1Cur_given.j1 k g c p s = some (g', p', s') ∧ g'.length ≤ 10 ∧ p ≤ p' ∧ p' ≤ p + 10 := by
  obtain ⟨k, rfl⟩ : ∃ m, k = m + 1 := ⟨k - 1, by omega⟩
  simp only [spec_l1Cur_given.j1]
  obtain ⟨r, b, e, hr⟩ := drawClean_ok g (by omega) k (by omega)
  rw [e]
  simp only [Option.bind_some]
  cases b with
  | false =>
    rw [if_neg Bool.false_ne_true]
    exact ⟨_, _, _, rfl, hg, by omega, by omega⟩
  | true =>
    rw [if_pos rfl]
    obtain ⟨b, p2, s2, e2, a2, b2⟩ := one_ok hc s 20 h0 (by omega)
    rw [e2]
    simp only [Option.bind_some]
    cases b with
    | true =>
      rw [if_pos rfl]
      exact ⟨_, _, _, rfl, hg, by omega, by omega⟩
    | false =>
      rw [if_neg Bool.false_ne_true]
      exact ⟨_, _, _, rfl, by omega, by omega, by omega⟩
theorem given_l0 {c : List Int} (hc : U8 c) (v : Int) : ∀ (n : Nat) (g : List Int) (k : Nat) (p s : Int), g.length + n ≤ 10 → 0 ≤ p → p + 4 * n ≤ 999999970000 → 3000200 + n ≤ k → ∃ g' p' s', spec_l1Cur_given.l0 k v g n c p s = some (g', p', s') ∧ g'.length ≤ 10 ∧ p ≤ p' ∧ p' ≤ p + 4 * n + 10
  | 0, g, k, p, s, hg, h0, h1, hk => by
    obtain ⟨k, rfl⟩ : ∃ m, k = m + 1 := ⟨k - 1, by omega⟩
    simp only [spec_l1Cur_given.l0]
    rw [if_neg (by omega)]
    obtain ⟨g', p', s', e, a, b, d⟩ := given_j1 hc g (by omega) s h0 (by omega) k (by omega)
    exact ⟨g', p', s', e, a, b, by omega⟩
  | n + 1, g, k, p, s, hg, h0, h1, hk => by
    obtain ⟨k, rfl⟩ : ∃ m, k = m + 1 := ⟨k - 1, by omega⟩
    simp only [spec_l1Cur_given.l0]
    rw [if_pos (by omega)]
    by_cases hv : v > 0
    · rw [if_pos hv]
      obtain ⟨r, p1, s1, e, a1, b1⟩ := lit_ok hc s v h0 (by omega)
      rw [e]
      simp only [Option.bind_some]
      rw [if_pos (by omega), show wrap64 (((n + 1 : Nat) : Int) - 1) = (n : Int) by rw [w64 (by omega) (by omega)]; omega]
      obtain ⟨g', p', s', e', a', b', d'⟩ := given_l0 hc v n (g ++ [r]) k p1 s1 (by simp; omega) (by omega) (by omega) (by omega)
      exact ⟨g', p', s', e', a', by omega, by omega⟩
    · rw [if_neg hv]
      obtain ⟨g', p', s', e, a, b, d⟩ := given_j1 hc g (by omega) s h0 (by omega) k (by omega)
      exact ⟨g', p', s', e, a, b, by omega⟩
theorem given_ok {c : List Int} (hc : U8 c) (v : Int) {p : Int} (s : Int) (h0 : 0 ≤ p) (h1 : p ≤ 999999960000) (k : Nat) (hk : 3000300 ≤ k) : ∃ g' p' s', spec_l1Cur_given.f k c p s v = some (g', p', s') ∧ g'.length ≤ 10 ∧ p ≤ p' ∧ p' ≤ p + 100 := by
  unfold spec_l1Cur_given.f
  obtain ⟨r, p1, s1, e, a1, b1, r0, r1, _⟩ := pick_ok hc s 3 h0 (by omega)
  replace r1 := r1 (by omega)
  obtain ⟨n, rfl⟩ : ∃ n : Nat, r = n := ⟨r.toNat, by omega⟩
  rw [e]
  simp only [Option.bind_some]
  obtain ⟨g', p', s', e', a', b', d'⟩ := given_l0 hc v n [] k p1 s1 (by simp; omega) (by omega) (by omega) (by omega)
  exact ⟨g', p', s', e', a', by omega, by omega⟩
theorem drawPropagate_ok {c : List Int} (hc : U8 c) (k : Nat) (hk : 3000400 ≤ k) : ∃ v l g, spec_DrawPropagate.f k c = some (v, l, g) ∧ ClOk l 14 60 ∧ g.length ≤ 10 ∧ 0 ≤ v ∧ v ≤ 13 := by
  unfold spec_DrawPropagate.f
  obtain ⟨v, l, p1, s1, e, a1, b1, hl, v0, v1⟩ := clauses_ok hc 0 (p := 0) (by omega) (by omega) k (by omega)
  obtain ⟨g, p2, s2, e2, hg, _, _⟩ := given_ok hc v s1 (p := p1) (by omega) (by omega) k (by omega)
  rw [e]
  simp only [Option.bind_some]
  rw [e2]
  exact ⟨v, l, g, rfl, hl, hg, v0, v1⟩

theorem clause_l (v : Int) (hv0 : 0 ≤ v) (hv1 : v ≤ 12) (l : List Int) (hl : l.length ≤ 1099511627776) : ∀ (d i k : Nat), i + d = l.length → (∀ x ∈ l.take i, -12 ≤ x ∧ x ≤ 12) → d + l.length + 1 < k →
    spec_l4Clause.l0 k v l l (l.length : Int) (i : Int) = some (clauseFrom v (l.take i) (l.drop i) && decide (l.length ≤ 12))
  | 0, i, k, h1, hs, hk => by
    obtain ⟨k, rfl⟩ : ∃ m, k = m + 1 := ⟨k - 1, by omega⟩
    simp only [spec_l4Clause.l0]
    rw [if_neg (by omega), List.drop_of_length_le (by omega)]
    simp only [clauseFrom, Bool.true_and]
    congr 2
    exact propext (by omega)
  | d + 1, i, k, h1, hs, hk => by
    obtain ⟨k, rfl⟩ : ∃ m, k = m + 1 := ⟨k - 1, by omega⟩
    have hil : i < l.length := by omega
    have ht : (l.take i).length = i := by rw [List.length_take]; omega
    simp only [spec_l4Clause.l0]
    rw [if_pos (by omega), if_pos (by omega), if_pos (by omega), rd_nat l i hil, next64 (by omega), drop_at l i hil, show ((i : Int).toNat) = i by omega, if_pos (show (i : Int) ≤ (l.length : Int) by omega)]
    simp only [clauseFrom]
    by_cases e0 : l[i] = 0
    · rw [if_pos e0]
      have : litB l[i] v = false := by unfold litB; simp [e0]
      rw [this]
      rfl
    · rw [if_neg e0, specIn_val]
      simp only [Option.bind_some]
      have hlit : litB l[i] v = (decide (wrap64 (-v) ≤ l[i]) && decide (l[i] ≤ v)) := by unfold litB; simp [e0]
      rw [← hlit]
      cases hb : litB l[i] v with
      | false => rfl
      | true =>
        obtain ⟨_, h4, h5⟩ := litB_small hv0 hv1 hb
        rw [if_pos rfl, has_val _ _ (by omega) _ (by omega), neg64 (by omega) (by omega), has_val _ _ (by omega) _ (by omega), any_vab _ _ (by omega) (by omega) hs]
        simp only [Option.bind_some]
        cases (l.take i).any (· == l[i]) with
        | true => rfl
        | false =>
          cases (l.take i).any (· == -l[i]) with
          | true => rfl
          | false =>
            have hst : l.take (i + 1) = l.take i ++ [l[i]] := List.take_succ_eq_append_getElem hil
            have := clause_l v hv0 hv1 l hl d (i + 1) k (by omega) (fun x hx => by
              rw [hst] at hx
              rcases List.mem_append.1 hx with hx | hx
              · exact hs x hx
              · rw [List.mem_singleton.1 hx]
                omega) (by omega)
            rw [hst] at this
            simp only [Bool.false_eq_true, if_false, Bool.or_false, Bool.not_false, Bool.true_and]
            exact this
theorem clause_val (v : Int) (hv0 : 0 ≤ v) (hv1 : v ≤ 12) (l : List Int) (hl : l.length ≤ 1048576) (k : Nat) (hk : 3000000 ≤ k) : spec_l4Clause.f k v l = some (isClauseB l v) := by
  unfold spec_l4Clause.f isClauseB
  have := clause_l v hv0 hv1 l (by omega) l.length 0 k (by omega) (by simp) (by omega)
  simpa using this

theorem clause_lits (v : Int) : ∀ (l seen : List Int), clauseFrom v seen l = true → ∀ n ∈ l, litB n v = true
  | [], _, _, n, hn => by simp at hn
  | a :: r, seen, h, n, hn => by
    unfold clauseFrom at h
    simp only [Bool.and_eq_true] at h
    rcases List.mem_cons.1 hn with rfl | hn
    · exact h.1
    · exact clause_lits v r _ h.2.2 n hn
theorem isClause_facts {v : Int} {c : List Int} (h : isClauseB c v = true) : c.length ≤ 12 ∧ ∀ n ∈ c, litB n v = true := by
  unfold isClauseB at h
  simp only [Bool.and_eq_true, decide_eq_true_eq] at h
  exact ⟨h.2, clause_lits v c [] h.1⟩

theorem specResolve_1 (v : Int) (l : List Int) (hl : l.length ≤ 1000) : ∀ (d i k : Nat) (acc : List Int), i + d = l.length → acc.length + d ≤ 2000 → d + 3000001 ≤ k →
    spec_l4Resolve.l1 k v acc l (l.length : Int) (i : Int) = (let y := acc ++ (l.drop i).filter fun x => !(x == wrap64 (-v)); if (y.length : Int) > 40 then some ([], false) else some (cleanS [] y)) := by
  intro d
  induction d with
  | zero =>
    intro i k acc h1 h2 hk
    obtain ⟨k, rfl⟩ : ∃ m, k = m + 1 := ⟨k - 1, by omega⟩
    rw [spec_l4Resolve.l1, if_neg (by omega), List.drop_of_length_le (by omega), cleanClause_spec acc k (by omega)]
    simp only [List.filter_nil, List.append_nil]
    split <;> simp
  | succ d ih =>
    intro i k acc h1 h2 hk
    obtain ⟨k, rfl⟩ : ∃ m, k = m + 1 := ⟨k - 1, by omega⟩
    have hi : i < l.length := by omega
    rw [spec_l4Resolve.l1, if_pos (by omega), if_pos (by omega), if_pos (by omega), rd_nat l i hi, next64 (by omega), if_pos (show acc.length < 17592186044416 by omega), drop_at l i hi]
    rw [ih (i + 1) k acc (by omega) (by omega) (by omega), ih (i + 1) k (acc ++ [l[i]]) (by omega) (by simp; omega) (by omega)]
    by_cases e : l[i] = wrap64 (-v)
    · rw [if_pos e, List.filter_cons_of_neg (by simp [e])]
    · rw [if_neg e, List.filter_cons_of_pos (by simp [e])]
      simp only [List.append_assoc, List.singleton_append]
theorem specResolve_0 (v : Int) (l m : List Int) (hl : l.length ≤ 1000) (hm : m.length ≤ 1000) : ∀ (d i k : Nat) (acc : List Int), i + d = l.length → acc.length + d ≤ 1000 → d + 3002001 ≤ k →
    spec_l4Resolve.l0 k m v acc l (l.length : Int) (i : Int) = (let y := acc ++ (l.drop i).filter (fun x => !(x == v)) ++ m.filter fun x => !(x == wrap64 (-v)); if (y.length : Int) > 40 then some ([], false) else some (cleanS [] y)) := by
  intro d
  induction d with
  | zero =>
    intro i k acc h1 h2 hk
    obtain ⟨k, rfl⟩ : ∃ m, k = m + 1 := ⟨k - 1, by omega⟩
    rw [spec_l4Resolve.l0, if_neg (by omega), List.drop_of_length_le (by omega)]
    have := specResolve_1 v m hm m.length 0 k acc (by omega) (by omega) (by omega)
    simp only [List.filter_nil, List.append_nil]
    simpa using this
  | succ d ih =>
    intro i k acc h1 h2 hk
    obtain ⟨k, rfl⟩ : ∃ m, k = m + 1 := ⟨k - 1, by omega⟩
    have hi : i < l.length := by omega
    rw [spec_l4Resolve.l0, if_pos (by omega), if_pos (by omega), if_pos (by omega), rd_nat l i hi, next64 (by omega), if_pos (show acc.length < 17592186044416 by omega), drop_at l i hi]
    rw [ih (i + 1) k acc (by omega) (by omega) (by omega), ih (i + 1) k (acc ++ [l[i]]) (by omega) (by simp; omega) (by omega)]
    by_cases e : l[i] = v
    · rw [if_pos e, List.filter_cons_of_neg (by simp [e])]
    · rw [if_neg e, List.filter_cons_of_pos (by simp [e])]
      simp only [List.append_assoc, List.cons_append, List.nil_append]
theorem specResolve_some (l m : List Int) (v : Int) (hl : l.length ≤ 1048576) (hm : m.length ≤ 1048576) (k : Nat) (hk : 5000000 ≤ k) : ∃ r : List Int × Bool, spec_Resolve.f k l m v = some r ∧ r.1.length ≤ 1048576 := by
  unfold spec_Resolve.f
  rw [clause_val 12 (by omega) (by omega) l hl k (by omega), clause_val 12 (by omega) (by omega) m hm k (by omega)]
  simp only [Option.bind_some]
  cases h0 : isClauseB l 12 with
  | false => exact ⟨_, rfl, by simp⟩
  | true =>
    cases h1 : isClauseB m 12 with
    | false => exact ⟨_, rfl, by simp⟩
    | true =>
      obtain ⟨hl12, _⟩ := isClause_facts h0
      obtain ⟨hm12, _⟩ := isClause_facts h1
      simp only [if_true]
      rw [specIn_val]
      simp only [Option.bind_some]
      cases (decide (1 ≤ v) && decide (v ≤ 12)) with
      | false => exact ⟨_, rfl, by simp⟩
      | true =>
        simp only [if_true]
        rw [has_val l v (by omega) k (by omega)]
        simp only [Option.bind_some]
        cases l.any (· == v) with
        | false => exact ⟨_, rfl, by simp⟩
        | true =>
          simp only [if_true]
          rw [has_val m _ (by omega) k (by omega)]
          simp only [Option.bind_some]
          cases m.any (· == wrap64 (-v)) with
          | false => exact ⟨_, rfl, by simp⟩
          | true =>
            simp only [if_true]
            have h := specResolve_0 v l m (by omega) (by omega) l.length 0 k [] (by omega) (by simp; omega) (by omega)
            rw [show ((0 : Nat) : Int) = 0 from rfl] at h
            unfold spec_l4Resolve.f
            rw [h]
            have e1 := List.length_filter_le (fun z => !(z == v)) l
            have e2 := List.length_filter_le (fun z => !(z == wrap64 (-v))) m
            simp only [List.drop_zero, List.nil_append]
            split
            · exact ⟨_, rfl, by simp⟩
            · have := cleanS_length ((l.filter fun z => !(z == v)) ++ (m.filter fun z => !(z == wrap64 (-v)))) []
              rw [List.length_append, List.length_nil] at this
              exact ⟨_, rfl, by simp only; omega⟩

theorem resolveLen (a b : List Int) (v : Int) (ha : a.length ≤ 1048576) (hb : b.length ≤ 1048576) (k : Nat) (hk : 5000000 ≤ k) : ∃ r ok, spec_Resolve.f k a b v = some (r, ok) ∧ r.length ≤ 1048576 := by
  obtain ⟨⟨r, ok⟩, h, h1⟩ := specResolve_some a b v ha hb k hk
  exact ⟨r, ok, h, h1⟩
theorem absVal (x : Int) : ∃ y, spec_l4Abs.f x = some y := by
  unfold spec_l4Abs.f
  split <;> exact ⟨_, rfl⟩
theorem followsFrom_l0 (n : Int) (l : List (List Int)) (hl : 1 < l.length) (hli : ∀ x ∈ l, x.length ≤ 100) (g : List Int) (hg : g.length ≤ 100) : ∀ (d i k : Nat), i + d = g.length → 6000000 + d ≤ k → ∃ c, spec_DrawFollowsFrom.l0 k n l g (g.length : Int) (i : Int) = some (n, l, c) ∧ c.length ≤ 1048576
  | 0, i, k, h1, hk => by
    obtain ⟨k, rfl⟩ : ∃ m, k = m + 1 := ⟨k - 1, by omega⟩
    simp only [spec_DrawFollowsFrom.l0]
    rw [if_neg (by omega), if_pos (by omega)]
    refine ⟨_, rfl, ?_⟩
    have := rdL_nat l 0 (by omega)
    rw [show ((0 : Nat) : Int) = 0 from rfl] at this
    rw [this]
    have := hli _ (List.getElem_mem (show 0 < l.length by omega))
    omega
  | d + 1, i, k, h1, hk => by
    obtain ⟨k, rfl⟩ : ∃ m, k = m + 1 := ⟨k - 1, by omega⟩
    have e0 := rdL_nat l 0 (by omega)
    have e1 := rdL_nat l 1 (by omega)
    rw [show ((0 : Nat) : Int) = 0 from rfl] at e0
    rw [show ((1 : Nat) : Int) = 1 from rfl] at e1
    have b0 := hli _ (List.getElem_mem (show 0 < l.length by omega))
    have b1 := hli _ (List.getElem_mem (show 1 < l.length by omega))
    simp only [spec_DrawFollowsFrom.l0]
    rw [if_pos (by omega), if_pos (by omega), if_pos (by omega), if_pos (by omega), if_pos (by omega), e0, e1, next64 (by omega)]
    obtain ⟨y, hy⟩ := absVal (rd g (i : Int))
    obtain ⟨r, ok, hr, hrl⟩ := resolveLen l[0] l[1] y (by omega) (by omega) k (by omega)
    rw [hy]
    simp only [Option.bind_some]
    rw [hr]
    simp only [Option.bind_some]
    cases ok with
    | true =>
      rw [if_pos rfl]
      exact ⟨r, rfl, hrl⟩
    | false =>
      rw [if_neg Bool.false_ne_true]
      exact followsFrom_l0 n l hl hli g hg d (i + 1) k (by omega) (by omega)
theorem drawFollows_ok {c : List Int} (hc : U8 c) (k : Nat) (hk : 9000000 ≤ k) : ∃ v l g, spec_DrawFollowsFrom.f k c = some (v, l, g) ∧ ClOk l 14 60 ∧ g.length ≤ 1048576 := by
  obtain ⟨k, rfl⟩ : ∃ m, k = m + 1 := ⟨k - 1, by omega⟩
  obtain ⟨v, l, g, e, hl, hg, v0, v1⟩ := drawPropagate_ok hc (k + 1) (by omega)
  unfold spec_DrawFollowsFrom.f
  rw [e]
  simp only [Option.bind_some]
  have hj : ∀ b : Bool, (b = true → 1 < l.length) → ∃ g', spec_DrawFollowsFrom.j0 (k + 1) v l g b = some (v, l, g') ∧ g'.length ≤ 1048576 := by
    intro b hb
    simp only [spec_DrawFollowsFrom.j0]
    cases b with
    | false =>
      rw [if_neg Bool.false_ne_true]
      exact ⟨g, rfl, by omega⟩
    | true =>
      have h1 := hb rfl
      have e0 := rdL_nat l 0 (by omega)
      rw [show ((0 : Nat) : Int) = 0 from rfl] at e0
      have b0 := hl.2 _ (List.getElem_mem (show 0 < l.length by omega))
      rw [if_pos rfl, if_pos (by omega), e0]
      exact followsFrom_l0 v l h1 (fun x hx => by have := hl.2 x hx; omega) l[0] (by omega) l[0].length 0 k (by omega) (by omega)
  by_cases h1 : (l.length : Int) > 1
  · rw [if_pos h1]
    obtain ⟨b, p2, s2, e2, a2, b2⟩ := one_ok hc 0 2 (p := 0) (by omega) (by omega)
    rw [e2]
    simp only [Option.bind_some]
    obtain ⟨g', e', hg'⟩ := hj b (fun _ => by omega)
    exact ⟨v, l, g', e', hl, hg'⟩
  · rw [if_neg h1]
    obtain ⟨g', e', hg'⟩ := hj false (fun h => by cases h)
    exact ⟨v, l, g', e', hl, hg'⟩


def hasB (l : List Int) (n : Int) : Bool := l.any (· == n)

theorem meets_cons (x : Int) (r out : List Int) : meetsB (x :: r) out = (hasB out x || meetsB r out) := by
  unfold meetsB hasB
  rw [List.any_cons, any_flip]
theorem without_cons (x : Int) (r out : List Int) : withoutL (x :: r) out = if hasB out (wrap64 (-x)) = true then withoutL r out else x :: withoutL r out := by
  unfold withoutL hasB
  rw [List.filter_cons, any_flip]
  cases out.any (· == wrap64 (-x)) <;> simp

def goodB (v : Int) (l : List (List Int)) : Bool := (decide (0 ≤ v) && decide (v ≤ 12)) && (decide (l.length ≤ 60) && l.all fun x => isClauseB x v)
theorem good_l (v : Int) (hv0 : 0 ≤ v) (hv1 : v ≤ 12) (l : List (List Int)) (hl : l.length ≤ 1048576) (hi : ∀ x ∈ l, x.length ≤ 1048576) : ∀ (d i k : Nat), i + d = l.length → d + 3000001 ≤ k → spec_l4Good.l0 k v l (l.length : Int) (i : Int) = some ((l.drop i).all fun x => isClauseB x v)
  | 0, i, k, h1, hk => by
    obtain ⟨k, rfl⟩ : ∃ m, k = m + 1 := ⟨k - 1, by omega⟩
    simp only [spec_l4Good.l0]
    rw [if_neg (by omega), List.drop_of_length_le (by omega)]
    rfl
  | d + 1, i, k, h1, hk => by
    obtain ⟨k, rfl⟩ : ∃ m, k = m + 1 := ⟨k - 1, by omega⟩
    have hil : i < l.length := by omega
    simp only [spec_l4Good.l0]
    rw [if_pos (by omega), if_pos (by omega), if_pos (by omega), rdL_nat l i hil, next64 (by omega), clause_val v hv0 hv1 l[i] (hi _ (List.getElem_mem _)) k (by omega), List.drop_eq_getElem_cons hil, List.all_cons]
    simp only [Option.bind_some]
    cases isClauseB l[i] v with
    | false => rfl
    | true =>
      first | rw [if_pos rfl] | rw [if_true]
      rw [good_l v hv0 hv1 l hl hi d (i + 1) k (by omega) (by omega)]
      rfl
theorem specGood_val (v : Int) (l : List (List Int)) (hl : l.length ≤ 1048576) (hi : ∀ x ∈ l, x.length ≤ 1048576) (k : Nat) (hk : 5000000 ≤ k) : spec_GoodClauses.f k v l = some (goodB v l) := by
  obtain ⟨k, rfl⟩ : ∃ m, k = m + 1 := ⟨k - 1, by omega⟩
  unfold spec_GoodClauses.f spec_l4Good.f goodB
  rw [specIn_val]
  simp only [Option.bind_some, spec_l4Good.j0]
  by_cases hv : 0 ≤ v ∧ v ≤ 12
  · rw [show (decide (0 ≤ v) && decide (v ≤ 12)) = true by simp [hv.1, hv.2], if_pos rfl]
    by_cases h60 : l.length ≤ 60
    · have : decide ((l.length : Int) > 60) = false := decide_eq_false (by omega)
      rw [this, if_neg Bool.false_ne_true]
      have h := good_l v hv.1 hv.2 l hl hi l.length 0 k (by omega) (by omega)
      simp only [List.drop_zero] at h
      rw [show ((0 : Nat) : Int) = 0 from rfl] at h
      rw [h]
      simp [h60]
    · have : decide ((l.length : Int) > 60) = true := decide_eq_true (by omega)
      rw [this]
      first | rw [if_pos rfl] | rw [if_true]
      simp [h60]
  · have hd : (decide (0 ≤ v) && decide (v ≤ 12)) = false := by
      rw [Bool.and_eq_false_iff]
      rcases Int.lt_or_le v 0 with h | h
      · exact .inl (decide_eq_false (by omega))
      · exact .inr (decide_eq_false (by omega))
    rw [hd, if_neg Bool.false_ne_true]
    first | rw [if_pos rfl] | rw [if_true]
    rfl
theorem implIn_val (n a b : Int) : impl_in.f n a b = some (decide (a ≤ n) && decide (n ≤ b)) := by
  unfold impl_in.f
  by_cases h : n ≥ a
  · rw [if_pos h]
    simp [h]
  · rw [if_neg h]
    simp [h]
theorem implGood_val (v : Int) (l : List (List Int)) : impl_GoodClauses.f v l = some (goodB v l) := by
  unfold impl_GoodClauses.f impl_areClauses.f goodB
  rw [implIn_val]
  simp only [Option.bind_some]
  cases (decide (0 ≤ v) && decide (v ≤ 12)) with
  | false => rfl
  | true =>
    first | rw [if_pos rfl] | rw [if_true]
    by_cases h60 : l.length ≤ 60
    · rw [if_pos (by omega)]
      simp [h60, List.all_eq_not_any_not]
    · rw [if_neg (by omega)]
      simp [h60]
theorem goodB_facts {v : Int} {l : List (List Int)} (h : goodB v l = true) : 0 ≤ v ∧ v ≤ 12 ∧ l.length ≤ 60 ∧ ∀ x ∈ l, isClauseB x v = true := by
  unfold goodB at h
  simp only [Bool.and_eq_true, decide_eq_true_eq, List.all_eq_true] at h
  exact ⟨h.1.1, h.1.2, h.2.1, h.2.2⟩

theorem goodB_lits {v : Int} {l : List (List Int)} (h : goodB v l = true) : ∀ c ∈ l, c.length ≤ 12 ∧ ∀ n ∈ c, n ≠ 0 ∧ -v ≤ n ∧ n ≤ v := by
  obtain ⟨h0, h1, _, h2⟩ := goodB_facts h
  intro c hc
  obtain ⟨a, b⟩ := isClause_facts (h2 c hc)
  exact ⟨a, fun n hn => litB_small h0 h1 (b n hn)⟩

theorem filter_lt {α : Type} (p q : α → Bool) : ∀ (l : List α), (∀ a, q a = true → p a = true) → (∃ a ∈ l, p a = true ∧ q a = false) → (l.filter q).length < (l.filter p).length
  | [], _, ⟨a, ha, _⟩ => by simp at ha
  | b :: l, h, ⟨a, ha, hp, hq⟩ => by
    have hle : ∀ l : List α, (l.filter q).length ≤ (l.filter p).length := by
      intro l
      induction l with
      | nil => simp
      | cons c l ih =>
        cases hqc : q c with
        | true =>
          rw [List.filter_cons_of_pos hqc, List.filter_cons_of_pos (h c hqc)]
          simpa using ih
        | false =>
          rw [List.filter_cons_of_neg (by simp [hqc])]
          cases hpc : p c with
          | true =>
            rw [List.filter_cons_of_pos hpc]
            simp
            omega
          | false =>
            rw [List.filter_cons_of_neg (by simp [hpc])]
            exact ih
    rcases List.mem_cons.1 ha with rfl | ha
    · rw [List.filter_cons_of_neg (by simp [hq]), List.filter_cons_of_pos hp]
      have := hle l
      simp
      omega
    · have ih := filter_lt p q l h ⟨a, ha, hp, hq⟩
      cases hqb : q b with
      | true =>
        rw [List.filter_cons_of_pos hqb, List.filter_cons_of_pos (h b hqb)]
        simpa using ih
      | false =>
        rw [List.filter_cons_of_neg (by simp [hqb])]
        cases hpb : p b with
        | true =>
          rw [List.filter_cons_of_pos hpb]
          simp
          omega
        | false =>
          rw [List.filter_cons_of_neg (by simp [hpb])]
          exact ih
theorem hasB_app (l : List Int) (x n : Int) : hasB (l ++ [x]) n = (hasB l n || x == n) := by simp [hasB]
/-- The variables (less 1) of which no literal is there. -/
def freeV (out : List Int) : Nat := ((List.range 12).filter fun (i : Nat) => !(hasB out ((i : Int) + 1) || hasB out (-((i : Int) + 1)))).length
theorem freeV_lt (out : List Int) (x : Int) (h0 : x ≠ 0) (h1 : -12 ≤ x) (h2 : x ≤ 12) (h3 : hasB out x = false) (h4 : hasB out (-x) = false) : freeV (out ++ [x]) < freeV out := by
  unfold freeV
  refine filter_lt _ _ _ (fun i hi => ?_) ⟨x.natAbs - 1, by rw [List.mem_range]; omega, ?_, ?_⟩
  · simp only [hasB_app] at hi
    cases ha : hasB out ((i : Int) + 1) <;> cases hb : hasB out (-((i : Int) + 1)) <;> simp_all
  · rcases Int.lt_or_le x 0 with h | h
    · have e : ((x.natAbs - 1 : Nat) : Int) + 1 = -x := by omega
      rw [e, h4, Int.neg_neg, h3]
      rfl
    · have e : ((x.natAbs - 1 : Nat) : Int) + 1 = x := by omega
      rw [e, h3, h4]
      rfl
  · simp only [hasB_app]
    rcases Int.lt_or_le x 0 with h | h
    · have e : ((x.natAbs - 1 : Nat) : Int) + 1 = -x := by omega
      rw [e, Int.neg_neg]
      simp
    · have e : ((x.natAbs - 1 : Nat) : Int) + 1 = x := by omega
      rw [e]
      simp
theorem freeV_le (out : List Int) : freeV out ≤ 12 := by
  unfold freeV
  exact Nat.le_trans (List.length_filter_le _ _) (by simp)

def unitS (out : List Int) : Int → Int → List Int → Int × Bool
  | left, many, [] => if many = 0 then (0, true) else if many = 1 then (left, false) else (0, false)
  | left, many, x :: r => if hasB out x = true then (0, false) else if hasB out (wrap64 (-x)) = true then unitS out left many r else unitS out x (many + 1) r
def unitP (out c : List Int) : Int × Bool := if meetsB c out = true then (0, false) else match withoutL c out with | [] => (0, true) | [x] => (x, false) | _ => (0, false)
theorem unitS_val (out : List Int) : ∀ (r : List Int) (left many : Int), 0 ≤ many → unitS out left many r = if meetsB r out = true then (0, false) else
    if many + ((withoutL r out).length : Int) = 0 then (0, true) else if many + ((withoutL r out).length : Int) = 1 then ((withoutL r out).getLast?.getD left, false) else (0, false)
  | [], left, many, h => by
    unfold unitS
    simp [meetsB, withoutL]
  | x :: r, left, many, h => by
    unfold unitS
    rw [meets_cons, without_cons]
    cases hasB out x with
    | true => simp
    | false =>
      rw [if_neg Bool.false_ne_true, Bool.false_or]
      cases hasB out (wrap64 (-x)) with
      | true =>
        simp only [if_true]
        exact unitS_val out r left many h
      | false =>
        rw [if_neg Bool.false_ne_true, if_neg Bool.false_ne_true, unitS_val out r x (many + 1) (by omega)]
        have e1 : ((x :: withoutL r out).length : Int) = ((withoutL r out).length : Int) + 1 := by simp
        rw [e1, show many + 1 + ((withoutL r out).length : Int) = many + (((withoutL r out).length : Int) + 1) by omega]
        cases hL : withoutL r out with
        | nil => simp
        | cons y t => simp [List.getLast?_cons]
theorem unitS_P (out c : List Int) : unitS out 0 0 c = unitP out c := by
  rw [unitS_val out c 0 0 (by omega)]
  unfold unitP
  cases meetsB c out with
  | true => rfl
  | false =>
    rw [if_neg Bool.false_ne_true, if_neg Bool.false_ne_true]
    match h : withoutL c out with
    | [] => simp
    | [x] => simp
    | x :: y :: t =>
      rw [if_neg (by simp; omega), if_neg (by simp; omega)]
theorem specUnit_l (out c : List Int) (ho : out.length ≤ 100000) (hc : c.length ≤ 1000) : ∀ (d j k : Nat) (left : Int) (many : Nat), j + d = c.length → many ≤ j → d + 200000 ≤ k → spec_l4Unit.l0 k out left (many : Int) c (c.length : Int) (j : Int) = some (unitS out left (many : Int) (c.drop j))
  | 0, j, k, left, many, h1, h2, hk => by
    obtain ⟨k, rfl⟩ : ∃ m, k = m + 1 := ⟨k - 1, by omega⟩
    simp only [spec_l4Unit.l0]
    rw [if_neg (by omega), List.drop_of_length_le (by omega)]
    unfold unitS
    split
    · rfl
    · split
      · rfl
      · rfl
  | d + 1, j, k, left, many, h1, h2, hk => by
    obtain ⟨k, rfl⟩ : ∃ m, k = m + 1 := ⟨k - 1, by omega⟩
    have hj : j < c.length := by omega
    simp only [spec_l4Unit.l0]
    rw [if_pos (by omega), if_pos (by omega), if_pos (by omega), rd_nat c j hj, next64 (by omega), has_val out _ (by omega) k (by omega), has_val out _ (by omega) k (by omega), drop_at c j hj]
    unfold unitS hasB
    simp only [Option.bind_some]
    cases out.any (· == c[j]) with
    | true => rfl
    | false =>
      rw [if_neg Bool.false_ne_true, if_neg Bool.false_ne_true]
      cases out.any (· == wrap64 (-c[j])) with
      | true =>
        simp only [if_true]
        exact specUnit_l out c ho hc d (j + 1) k left many (by omega) (by omega) (by omega)
      | false =>
        rw [if_neg Bool.false_ne_true, if_neg Bool.false_ne_true, next64 (by omega)]
        exact specUnit_l out c ho hc d (j + 1) k c[j] (many + 1) (by omega) (by omega) (by omega)
theorem specUnit_val (out c : List Int) (ho : out.length ≤ 100000) (hc : c.length ≤ 1000) (k : Nat) (hk : 300000 ≤ k) : spec_l4Unit.f k c out = some (unitP out c) := by
  unfold spec_l4Unit.f
  have := specUnit_l out c ho hc c.length 0 k 0 0 (by omega) (by omega) (by omega)
  rw [show ((0 : Nat) : Int) = 0 from rfl, List.drop_zero, unitS_P] at this
  exact this
/-- What one run through the clauses finds: nothing, a clause that is falsified, a literal. -/
def scanC (out : List Int) : List (List Int) → Option (Option Int)
  | [] => none
  | c :: r => if (unitP out c).2 = true then some none else if (unitP out c).1 = 0 then scanC out r else some (some (unitP out c).1)
def propL (l : List (List Int)) : Nat → List Int → List Int × Bool
  | 0, out => (out, false)
  | f + 1, out => match scanC out l with | none => (out, false) | some none => (out, true) | some (some x) => propL l f (out ++ [x])
def LitsOk (l : List (List Int)) : Prop := ∀ c ∈ l, c.length ≤ 1000 ∧ ∀ n ∈ c, n ≠ 0 ∧ -12 ≤ n ∧ n ≤ 12
theorem unitP_lit (out c : List Int) (hc : ∀ n ∈ c, n ≠ 0 ∧ -12 ≤ n ∧ n ≤ 12) (h : (unitP out c).1 ≠ 0) : (unitP out c).2 = false ∧ (unitP out c).1 ∈ c ∧ hasB out (unitP out c).1 = false ∧ hasB out (-(unitP out c).1) = false := by
  unfold unitP at h ⊢
  cases hm : meetsB c out with
  | true => rw [hm] at h; simp at h
  | false =>
    rw [hm] at h
    rw [if_neg Bool.false_ne_true] at h ⊢
    match hw : withoutL c out with
    | [] => rw [hw] at h; simp at h
    | x :: y :: t => rw [hw] at h; simp at h
    | [x] =>
      have hx : x ∈ withoutL c out := by rw [hw]; simp
      unfold withoutL at hx
      rw [List.mem_filter, any_flip] at hx
      obtain ⟨h1, h2⟩ := hx
      obtain ⟨_, b1, b2⟩ := hc x h1
      rw [neg64 (by omega) (by omega)] at h2
      refine ⟨rfl, h1, ?_, by simpa [hasB] using h2⟩
      unfold meetsB at hm
      have := List.any_eq_false.1 hm x h1
      rw [any_flip] at this
      exact Bool.eq_false_iff.mpr this
theorem scan_lit (out : List Int) : ∀ (l : List (List Int)) (x : Int), LitsOk l → scanC out l = some (some x) → x ≠ 0 ∧ -12 ≤ x ∧ x ≤ 12 ∧ hasB out x = false ∧ hasB out (-x) = false
  | [], x, _, h => by simp [scanC] at h
  | c :: r, x, hl, h => by
    unfold scanC at h
    have hc := (hl c List.mem_cons_self).2
    split at h
    · simp at h
    · split at h
      · exact scan_lit out r x (fun c' h' => hl c' (List.mem_cons_of_mem _ h')) h
      · rename_i h2
        injection h with h
        injection h with h
        subst h
        obtain ⟨_, hm, h3, h4⟩ := unitP_lit out c hc h2
        obtain ⟨a, b, d⟩ := hc _ hm
        exact ⟨a, b, d, h3, h4⟩
theorem specProp_scan (l : List (List Int)) (hl : LitsOk l) (hn : l.length ≤ 1048576) (out : List Int) (ho : out.length ≤ 100000) : ∀ (d i k : Nat), i + d = l.length → 300001 + d ≤ k →
    ∃ j, k - d - 1 ≤ j ∧ j < k ∧ spec_l4Propagate.l1 k l out false l (l.length : Int) (i : Int) = match scanC out (l.drop i) with | none => spec_l4Propagate.l0 j l out false | some none => some (out, true) | some (some x) => spec_l4Propagate.l0 j l (out ++ [x]) true
  | 0, i, k, h1, hk => by
    obtain ⟨k, rfl⟩ : ∃ m, k = m + 1 := ⟨k - 1, by omega⟩
    simp only [spec_l4Propagate.l1]
    rw [if_neg (by omega), List.drop_of_length_le (by omega)]
    exact ⟨k, by omega, by omega, rfl⟩
  | d + 1, i, k, h1, hk => by
    obtain ⟨k, rfl⟩ : ∃ m, k = m + 1 := ⟨k - 1, by omega⟩
    have hil : i < l.length := by omega
    obtain ⟨c1, c2⟩ := hl l[i] (List.getElem_mem _)
    simp only [spec_l4Propagate.l1]
    rw [if_pos (by omega), if_pos (by omega), if_pos (by omega), rdL_nat l i hil, next64 (by omega), specUnit_val out l[i] ho c1 k (by omega), List.drop_eq_getElem_cons hil]
    unfold scanC
    simp only [Option.bind_some]
    by_cases hb : (unitP out l[i]).2 = true
    · rw [if_pos hb, if_pos hb]
      exact ⟨k, by omega, by omega, rfl⟩
    · rw [if_neg hb, if_neg hb]
      by_cases h0 : (unitP out l[i]).1 = 0
      · rw [if_pos h0, if_pos h0]
        obtain ⟨j, hj1, hj2, hj⟩ := specProp_scan l hl hn out ho d (i + 1) k (by omega) (by omega)
        exact ⟨j, by omega, by omega, hj⟩
      · rw [if_neg h0, if_neg h0, if_pos (by omega)]
        exact ⟨k, by omega, by omega, rfl⟩
theorem specProp_l (l : List (List Int)) (hl : LitsOk l) (hn : l.length ≤ 1048576) : ∀ (f : Nat) (out : List Int) (k : Nat), freeV out < f → out.length + f ≤ 100000 → f * (l.length + 3) + 300010 ≤ k → spec_l4Propagate.l0 k l out true = some (propL l f out)
  | 0, _, _, h, _, _ => by omega
  | f + 1, out, k, h, ho, hk => by
    obtain ⟨k, rfl⟩ : ∃ m, k = m + 1 := ⟨k - 1, by omega⟩
    have hm : (f + 1) * (l.length + 3) = f * (l.length + 3) + (l.length + 3) := Nat.succ_mul _ _
    simp only [spec_l4Propagate.l0, if_true]
    obtain ⟨j, hj1, hj2, hj⟩ := specProp_scan l hl hn out (by omega) l.length 0 k (by omega) (by omega)
    rw [show ((0 : Nat) : Int) = 0 from rfl, List.drop_zero] at hj
    rw [hj]
    unfold propL
    match hs : scanC out l with
    | none =>
      obtain ⟨j', rfl⟩ : ∃ m, j = m + 1 := ⟨j - 1, by omega⟩
      simp [spec_l4Propagate.l0]
    | some none => rfl
    | some (some x) =>
      obtain ⟨a, b, c, d, e⟩ := scan_lit out l x hl hs
      have := freeV_lt out x a b c d e
      exact specProp_l l hl hn f (out ++ [x]) j (by omega) (by simp; omega) (by omega)
theorem implProp_scan (l : List (List Int)) (hl : LitsOk l) (hn : l.length ≤ 1048576) (out : List Int) (ho : out.length ≤ 100000) : ∀ (d i k : Nat), i + d = l.length → 1 + d ≤ k →
    ∃ j, k - d - 1 ≤ j ∧ j < k ∧ impl_propagate.l1 k l out false l (l.length : Int) (i : Int) = match scanC out (l.drop i) with | none => some (out, false) | some none => some (out, true) | some (some x) => impl_propagate.l0 j l (out ++ [x])
  | 0, i, k, h1, hk => by
    obtain ⟨k, rfl⟩ : ∃ m, k = m + 1 := ⟨k - 1, by omega⟩
    simp only [impl_propagate.l1]
    rw [if_neg (by omega), List.drop_of_length_le (by omega), if_neg Bool.false_ne_true]
    exact ⟨k, by omega, by omega, rfl⟩
  | d + 1, i, k, h1, hk => by
    obtain ⟨k, rfl⟩ : ∃ m, k = m + 1 := ⟨k - 1, by omega⟩
    have hil : i < l.length := by omega
    obtain ⟨c1, c2⟩ := hl l[i] (List.getElem_mem _)
    obtain ⟨j, hj1, hj2, hj⟩ := implProp_scan l hl hn out ho d (i + 1) k (by omega) (by omega)
    simp only [impl_propagate.l1, impl_meets.f, impl_without.f]
    rw [if_pos (by omega), if_pos (by omega), if_pos (by omega), rdL_nat l i hil, next64 (by omega), if_pos (by omega), List.drop_eq_getElem_cons hil]
    unfold scanC
    simp only [Option.bind_some]
    cases hm : meetsB l[i] out with
    | true =>
      have hu : unitP out l[i] = (0, false) := by unfold unitP; rw [hm]; rfl
      rw [hu]
      simp only [if_true]
      exact ⟨j, by omega, by omega, by simpa using hj⟩
    | false =>
      rw [if_neg Bool.false_ne_true]
      match hw : withoutL l[i] out with
      | [] =>
        have hu : unitP out l[i] = (0, true) := by unfold unitP; rw [hm, hw]; rfl
        rw [hu]
        exact ⟨k, by omega, by omega, by simp⟩
      | [x] =>
        have hu : unitP out l[i] = (x, false) := by unfold unitP; rw [hm, hw]; rfl
        have hx : x ∈ l[i] := by
          have : x ∈ withoutL l[i] out := by rw [hw]; simp
          unfold withoutL at this
          exact (List.mem_filter.1 this).1
        have h0 := (c2 x hx).1
        rw [hu]
        refine ⟨k, by omega, by omega, ?_⟩
        simp only [List.length_singleton]
        rw [if_neg (by decide), if_pos (by decide), if_pos (by decide), if_pos (by omega), if_neg Bool.false_ne_true, if_neg h0]
        rfl
      | x :: y :: t =>
        have hu : unitP out l[i] = (0, false) := by unfold unitP; rw [hm, hw]; rfl
        rw [hu]
        refine ⟨j, by omega, by omega, ?_⟩
        rw [if_neg (by simp; omega), if_neg (by simp; omega)]
        simpa using hj
theorem implProp_l (l : List (List Int)) (hl : LitsOk l) (hn : l.length ≤ 1048576) : ∀ (f : Nat) (out : List Int) (k : Nat), freeV out < f → out.length + f ≤ 100000 → f * (l.length + 3) + 10 ≤ k → impl_propagate.l0 k l out = some (propL l f out)
  | 0, _, _, h, _, _ => by omega
  | f + 1, out, k, h, ho, hk => by
    obtain ⟨k, rfl⟩ : ∃ m, k = m + 1 := ⟨k - 1, by omega⟩
    have hm : (f + 1) * (l.length + 3) = f * (l.length + 3) + (l.length + 3) := Nat.succ_mul _ _
    simp only [impl_propagate.l0]
    obtain ⟨j, hj1, hj2, hj⟩ := implProp_scan l hl hn out (by omega) l.length 0 k (by omega) (by omega)
    rw [show ((0 : Nat) : Int) = 0 from rfl, List.drop_zero] at hj
    rw [hj]
    unfold propL
    match hs : scanC out l with
    | none => rfl
    | some none => rfl
    | some (some x) =>
      obtain ⟨a, b, c, d, e⟩ := scan_lit out l x hl hs
      have := freeV_lt out x a b c d e
      exact implProp_l l hl hn f (out ++ [x]) j (by omega) (by simp; omega) (by omega)
/-- Unit propagation. -/
def propP (l : List (List Int)) (given : List Int) : List Int × Bool := propL l 13 given
theorem specProp_val (l : List (List Int)) (hl : LitsOk l) (hn : l.length ≤ 10000) (g : List Int) (hg : g.length ≤ 10000) (k : Nat) (hk : 3000000 ≤ k) : spec_l4Propagate.f k l g = some (propP l g) := by
  unfold spec_l4Propagate.f propP
  simp only [Option.bind_some, List.nil_append, List.length_nil]
  rw [if_pos (by omega)]
  exact specProp_l l hl (by omega) 13 g k (by have := freeV_le g; omega) (by omega) (by omega)
theorem implProp_val (l : List (List Int)) (hl : LitsOk l) (hn : l.length ≤ 10000) (g : List Int) (hg : g.length ≤ 10000) (k : Nat) (hk : 3000000 ≤ k) : impl_propagate.f k l g = some (propP l g) := by
  unfold impl_propagate.f slices_Clone_int_int.f propP
  rw [if_pos (by omega)]
  simp only [Option.bind_some]
  exact implProp_l l hl (by omega) 13 g k (by have := freeV_le g; omega) (by omega) (by omega)
theorem good_litsOk {v : Int} {l : List (List Int)} (h : goodB v l = true) : LitsOk l := by
  obtain ⟨h0, h1, _, _⟩ := goodB_facts h
  intro c hc
  obtain ⟨a, b⟩ := goodB_lits h c hc
  exact ⟨by omega, fun n hn => by have := b n hn; omega⟩

theorem negate_l (l : List Int) (hl : l.length ≤ 1048576) : ∀ (d i k : Nat) (y : List Int), i + d = l.length → y.length = i → d < k → spec_l5Negate.l0 k y l (l.length : Int) (i : Int) = some (y ++ (l.drop i).map fun x => wrap64 (-x))
  | 0, i, k, y, h1, h2, hk => by
    obtain ⟨k, rfl⟩ : ∃ m, k = m + 1 := ⟨k - 1, by omega⟩
    simp only [spec_l5Negate.l0]
    rw [if_neg (by omega), List.drop_of_length_le (by omega)]
    simp
  | d + 1, i, k, y, h1, h2, hk => by
    obtain ⟨k, rfl⟩ : ∃ m, k = m + 1 := ⟨k - 1, by omega⟩
    simp only [spec_l5Negate.l0]
    rw [if_pos (by omega), if_pos (by omega), if_pos (by omega), if_pos (by omega), rd_nat l i (by omega), next64 (by omega), negate_l l hl d (i + 1) k _ (by omega) (by simp [h2]) (by omega), drop_at l i (by omega), List.map_cons, List.append_assoc]
    rfl
theorem negate_val (l : List Int) (hl : l.length ≤ 1048576) (k : Nat) (hk : l.length < k) : spec_l5Negate.f k l = some (l.map fun x => wrap64 (-x)) := by
  unfold spec_l5Negate.f
  have := negate_l l hl l.length 0 k [] (by omega) rfl hk
  simpa using this

theorem learn_same : ∀ (k : Nat) (a b : List Int) (c d : Int), impl_learn.l0 k a b c d = spec_l5Negate.l0 k a b c d
  | 0, _, _, _, _ => rfl
  | k + 1, a, b, c, d => by
    simp only [impl_learn.l0, spec_l5Negate.l0, learn_same k]
theorem learn_val (l : List Int) (hl : l.length ≤ 1048576) (k : Nat) (hk : l.length < k) : impl_learn.f k l = some (l.map fun x => wrap64 (-x)) :=
  (learn_same ..).trans (negate_val l hl k hk)

def negL (l : List Int) : List Int := l.map fun x => wrap64 (-x)

def atOnceB (l : List (List Int)) (c : List Int) : Bool := (propP l (negL c)).2
/-- The place of the first clause that does not follow, of those that are not dropped. -/
def checkD : List (List Int) → List Bool → List (List Int) → Int → Option Int
  | [], _, _, _ => none
  | c :: r, ds, all, i => match ds.headD false with
    | true => checkD r ds.tail all (i + 1)
    | false => match atOnceB all c with
      | true => checkD r ds.tail (all ++ [c]) (i + 1)
      | false => some i
def lastEmpty (p : List (List Int)) : Bool := match p.getLast? with | some c => c.length == 0 | none => false
def checkR (l p : List (List Int)) (ds : List Bool) : Bool × Int := match checkD p ds l 0 with | some i => (false, i) | none => (lastEmpty p, (p.length : Int))
theorem propL_length (l : List (List Int)) : ∀ (f : Nat) (out : List Int), (propL l f out).1.length ≤ out.length + f
  | 0, out => by simp [propL]
  | f + 1, out => by
    unfold propL
    match scanC out l with
    | none => simp
    | some none => simp
    | some (some x) =>
      have := propL_length l f (out ++ [x])
      simp at this
      simp
      omega
/-- The first variable from x on of which literals tell neither way; 0 if none. -/
def firstV (out : List Int) : Nat → Int → Int
  | 0, _ => 0
  | d + 1, x => if hasB out x = true then firstV out d (x + 1) else if hasB out (-x) = true then firstV out d (x + 1) else x
theorem specFirst_l (v : Int) (out : List Int) (ho : out.length ≤ 100000) (hv : v ≤ 12) : ∀ (d : Nat) (x : Int) (k : Nat), x + d = v + 1 → 1 ≤ x → d + 200000 ≤ k → spec_l5First.l0 k v out x = some (firstV out d x)
  | 0, x, k, h1, h2, hk => by
    obtain ⟨k, rfl⟩ : ∃ m, k = m + 1 := ⟨k - 1, by omega⟩
    simp only [spec_l5First.l0]
    rw [if_neg (by omega)]
    rfl
  | d + 1, x, k, h1, h2, hk => by
    obtain ⟨k, rfl⟩ : ∃ m, k = m + 1 := ⟨k - 1, by omega⟩
    simp only [spec_l5First.l0]
    rw [if_pos (by omega), has_val out x (by omega) k (by omega), neg64 (by omega) (by omega), has_val out (-x) (by omega) k (by omega), w64 (by omega) (by omega)]
    unfold firstV hasB
    simp only [Option.bind_some]
    have ih := specFirst_l v out ho hv d (x + 1) k (by omega) (by omega) (by omega)
    cases out.any (· == x) with
    | true => simpa using ih
    | false =>
      rw [if_neg Bool.false_ne_true, if_neg Bool.false_ne_true]
      cases out.any (· == -x) with
      | true => simpa using ih
      | false => simp
theorem implDecide_l (v : Int) (out : List Int) (hv : v ≤ 12) : ∀ (d : Nat) (x : Int) (k : Nat), x + d = v + 1 → 1 ≤ x → d < k → impl_decide.l0 k v out x = some (firstV out d x, decide (firstV out d x ≠ 0))
  | 0, x, k, h1, h2, hk => by
    obtain ⟨k, rfl⟩ : ∃ m, k = m + 1 := ⟨k - 1, by omega⟩
    simp only [impl_decide.l0]
    rw [if_neg (by omega)]
    rfl
  | d + 1, x, k, h1, h2, hk => by
    obtain ⟨k, rfl⟩ : ∃ m, k = m + 1 := ⟨k - 1, by omega⟩
    simp only [impl_decide.l0, slices_Contains_int_int.f, any_flip, Option.bind_some]
    rw [if_pos (by omega), neg64 (by omega) (by omega), w64 (by omega) (by omega)]
    unfold firstV hasB
    have ih := implDecide_l v out hv d (x + 1) k (by omega) (by omega) (by omega)
    cases out.any (· == x) with
    | true => simpa using ih
    | false =>
      rw [if_neg Bool.false_ne_true, if_neg Bool.false_ne_true]
      cases out.any (· == -x) with
      | true => simpa using ih
      | false =>
        have : x ≠ 0 := by omega
        simp [this]
theorem specFirst_val (v : Int) (out : List Int) (ho : out.length ≤ 100000) (h0 : 0 ≤ v) (hv : v ≤ 12) (k : Nat) (hk : 3000000 ≤ k) : spec_l5First.f k v out = some (firstV out v.toNat 1) := by
  unfold spec_l5First.f
  exact specFirst_l v out ho hv v.toNat 1 k (by omega) (by omega) (by omega)
theorem implDecide_val (v : Int) (out : List Int) (h0 : 0 ≤ v) (hv : v ≤ 12) (k : Nat) (hk : 3000000 ≤ k) : impl_decide.f k v out = some (firstV out v.toNat 1, decide (firstV out v.toNat 1 ≠ 0)) := by
  unfold impl_decide.f
  exact implDecide_l v out hv v.toNat 1 k (by omega) (by omega) (by omega)

theorem hasB_mem {l : List Int} {n : Int} : hasB l n = true ↔ n ∈ l := by
  unfold hasB
  rw [List.any_eq_true]
  exact ⟨fun ⟨x, hx, he⟩ => by have : x = n := by simpa using he
                               exact this ▸ hx, fun h => ⟨n, h, by simp⟩⟩
theorem hasB_no {l : List Int} {n : Int} : hasB l n = false ↔ n ∉ l := by
  rw [← hasB_mem]
  simp

theorem scan_mem (out : List Int) : ∀ (l : List (List Int)) (x : Int), LitsOk l → scanC out l = some (some x) → ∃ c ∈ l, x ∈ c
  | [], x, _, h => by simp [scanC] at h
  | c :: r, x, hl, h => by
    unfold scanC at h
    have hc := (hl c List.mem_cons_self).2
    split at h
    · simp at h
    · split at h
      · obtain ⟨c', h1, h2⟩ := scan_mem out r x (fun c' h' => hl c' (List.mem_cons_of_mem _ h')) h
        exact ⟨c', List.mem_cons_of_mem _ h1, h2⟩
      · rename_i h2
        injection h with h
        injection h with h
        subst h
        exact ⟨c, List.mem_cons_self, (unitP_lit out c hc h2).2.1⟩
theorem propL_pre (l : List (List Int)) : ∀ (f : Nat) (out : List Int), ∃ t, (propL l f out).1 = out ++ t
  | 0, out => ⟨[], by simp [propL]⟩
  | f + 1, out => by
    unfold propL
    match scanC out l with
    | none => exact ⟨[], by simp⟩
    | some none => exact ⟨[], by simp⟩
    | some (some x) =>
      obtain ⟨t, ht⟩ := propL_pre l f (out ++ [x])
      exact ⟨x :: t, by simp only [ht]; simp⟩
/-- Whatever the given literals and those of the clauses are, the derived ones are. -/
theorem propL_all (P : Int → Prop) (l : List (List Int)) (hl : LitsOk l) (hP : ∀ c ∈ l, ∀ n ∈ c, P n) : ∀ (f : Nat) (out : List Int), (∀ n ∈ out, P n) → ∀ n ∈ (propL l f out).1, P n
  | 0, out, h => by simpa [propL] using h
  | f + 1, out, h => by
    unfold propL
    match hs : scanC out l with
    | none => exact h
    | some none => exact h
    | some (some x) =>
      obtain ⟨c, h1, h2⟩ := scan_mem out l x hl hs
      exact propL_all P l hl hP f (out ++ [x]) (fun n hn => by
        rcases List.mem_append.1 hn with hn | hn
        · exact h n hn
        · have : n = x := by simpa using hn
          exact this ▸ hP c h1 x h2)
/-- No variable both ways. -/
def Cons (out : List Int) : Prop := ∀ n ∈ out, hasB out (-n) = false
theorem cons_snoc {out : List Int} (h : Cons out) (x : Int) (h0 : x ≠ 0) (h1 : hasB out (-x) = false) : Cons (out ++ [x]) := by
  intro n hn
  rw [hasB_app]
  rcases List.mem_append.1 hn with hn | hn
  · rw [h n hn, Bool.false_or]
    cases e : x == -n with
    | false => rfl
    | true =>
      have : x = -n := by simpa using e
      have h2 : n = -x := by omega
      rw [h2] at hn
      rw [hasB_mem.2 hn] at h1
      cases h1
  · have : n = x := by simpa using hn
    subst this
    rw [h1, Bool.false_or]
    simp
    omega
theorem propL_cons (l : List (List Int)) (hl : LitsOk l) : ∀ (f : Nat) (out : List Int), Cons out → Cons (propL l f out).1
  | 0, out, h => by simpa [propL] using h
  | f + 1, out, h => by
    unfold propL
    match hs : scanC out l with
    | none => exact h
    | some none => exact h
    | some (some x) =>
      obtain ⟨a, b, c, d, e⟩ := scan_lit out l x hl hs
      exact propL_cons l hl f (out ++ [x]) (cons_snoc h x a e)

def modelZ (v : Nat) (out : List Int) : List Bool := (List.range v).map fun (i : Nat) => hasB out ((i : Int) + 1)
/-- The decisions are new variables, each. -/
def DecOk (v : Int) (d : List Int) : Prop := ∀ (i : Nat) (x : Int), d[i]? = some x → 1 ≤ x ∧ x ≤ v ∧ hasB (d.take i) x = false ∧ hasB (d.take i) (-x) = false
theorem decOk_nil (v : Int) : DecOk v [] := fun i x h => by simp at h
theorem decOk_take {v : Int} {d : List Int} (h : DecOk v d) (j : Nat) : DecOk v (d.take j) := by
  intro i x hx
  rw [List.getElem?_take] at hx
  split at hx
  · rename_i hij
    obtain ⟨a, b, c, e⟩ := h i x hx
    rw [List.take_take, Nat.min_eq_left (by omega)]
    exact ⟨a, b, c, e⟩
  · cases hx
theorem decOk_drop {v : Int} {d : List Int} (h : DecOk v d) : DecOk v d.dropLast := by
  rw [List.dropLast_eq_take]
  exact decOk_take h _
theorem decOk_snoc {v : Int} {d : List Int} (h : DecOk v d) (x : Int) (h1 : 1 ≤ x) (h2 : x ≤ v) (h3 : hasB d x = false) (h4 : hasB d (-x) = false) : DecOk v (d ++ [x]) := by
  intro i y hy
  rcases Nat.lt_trichotomy i d.length with hi | hi | hi
  · rw [List.getElem?_append_left hi] at hy
    rw [List.take_append_of_le_length (by omega)]
    exact h i y hy
  · subst hi
    rw [List.getElem?_append_right (Nat.le_refl _)] at hy
    simp at hy
    subst hy
    rw [List.take_left']
    exact ⟨h1, h2, h3, h4⟩
    rfl
  · rw [List.getElem?_eq_none (by simp; omega)] at hy
    cases hy
theorem decOk_mem {v : Int} {d : List Int} (h : DecOk v d) : ∀ x ∈ d, 1 ≤ x ∧ x ≤ v := by
  intro x hx
  obtain ⟨i, hi, rfl⟩ := List.mem_iff_getElem.1 hx
  obtain ⟨a, b, _, _⟩ := h i d[i] (List.getElem?_eq_getElem hi)
  exact ⟨a, b⟩
theorem decOk_len {v : Int} {d : List Int} (hv : v ≤ 12) (h : DecOk v d) : ∀ i : Nat, i ≤ d.length → freeV (d.take i) + i ≤ 12
  | 0, _ => by
    have := freeV_le (d.take 0)
    omega
  | i + 1, hi => by
    have ih := decOk_len hv h i (by omega)
    have hil : i < d.length := by omega
    obtain ⟨a, b, c, e⟩ := h i d[i] (List.getElem?_eq_getElem hil)
    rw [List.take_succ_eq_append_getElem hil]
    have := freeV_lt (d.take i) d[i] (by omega) (by omega) (by omega) c e
    omega
theorem decOk_le {v : Int} {d : List Int} (hv : v ≤ 12) (h : DecOk v d) : d.length ≤ 12 := by
  have := decOk_len hv h d.length (Nat.le_refl _)
  omega
theorem firstV_some (out : List Int) : ∀ (d : Nat) (a : Int), 1 ≤ a → firstV out d a ≠ 0 → a ≤ firstV out d a ∧ firstV out d a < a + d ∧ hasB out (firstV out d a) = false ∧ hasB out (-firstV out d a) = false
  | 0, a, h1, h => by simp [firstV] at h
  | d + 1, a, h1, h => by
    unfold firstV at h ⊢
    cases ha : hasB out a with
    | true =>
      rw [ha] at h
      simp only [if_true] at h ⊢
      have := firstV_some out d (a + 1) (by omega) h
      exact ⟨by omega, by omega, this.2.2⟩
    | false =>
      rw [ha] at h
      rw [if_neg Bool.false_ne_true] at h ⊢
      cases hb : hasB out (-a) with
      | true =>
        rw [hb] at h
        simp only [if_true] at h ⊢
        have := firstV_some out d (a + 1) (by omega) h
        exact ⟨by omega, by omega, this.2.2⟩
      | false =>
        rw [hb] at h
        rw [if_neg Bool.false_ne_true] at h ⊢
        exact ⟨by omega, by omega, ha, hb⟩
theorem firstV_none (out : List Int) : ∀ (d : Nat) (a : Int), 1 ≤ a → firstV out d a = 0 → ∀ y, a ≤ y → y < a + d → hasB out y = true ∨ hasB out (-y) = true
  | 0, a, h1, h, y, h2, h3 => by omega
  | d + 1, a, h1, h, y, h2, h3 => by
    unfold firstV at h
    cases ha : hasB out a with
    | true =>
      rw [ha] at h
      simp only [if_true] at h
      rcases Int.lt_or_eq_of_le h2 with hy | hy
      · exact firstV_none out d (a + 1) (by omega) h y (by omega) (by omega)
      · exact .inl (hy ▸ ha)
    | false =>
      rw [ha] at h
      rw [if_neg Bool.false_ne_true] at h
      cases hb : hasB out (-a) with
      | true =>
        rw [hb] at h
        simp only [if_true] at h
        rcases Int.lt_or_eq_of_le h2 with hy | hy
        · exact firstV_none out d (a + 1) (by omega) h y (by omega) (by omega)
        · exact .inr (hy ▸ hb)
      | false =>
        rw [hb] at h
        rw [if_neg Bool.false_ne_true] at h
        omega
/-- The search for a model. -/
def solveL (v : Int) (l : List (List Int)) : Nat → List (List Int) → List Int → Bool × List Bool × List (List Int) × Bool
  | 0, _, _ => (false, [], [], false)
  | f + 1, learned, decided =>
    if (propP (l ++ learned) decided).2 = true then
      (if learned.length = 300 then (false, [], [], false)
      else if decided = [] then (false, [], learned ++ [negL decided], true)
      else solveL v l f (learned ++ [negL decided]) decided.dropLast)
    else if firstV (propP (l ++ learned) decided).1 v.toNat 1 = 0 then (true, modelZ v.toNat (propP (l ++ learned) decided).1, learned, true)
    else solveL v l f learned (decided ++ [firstV (propP (l ++ learned) decided).1 v.toNat 1])
def LitsV (v : Int) (l : List (List Int)) : Prop := ∀ c ∈ l, c.length ≤ 1000 ∧ ∀ n ∈ c, n ≠ 0 ∧ -v ≤ n ∧ n ≤ v
theorem LitsV.ok {v : Int} {l : List (List Int)} (h : LitsV v l) (hv : v ≤ 12) : LitsOk l := fun c hc => ⟨(h c hc).1, fun n hn => by have := (h c hc).2 n hn; omega⟩
theorem LitsV.app {v : Int} {l m : List (List Int)} (h : LitsV v l) (k : LitsV v m) : LitsV v (l ++ m) := fun c hc => (List.mem_append.1 hc).elim (h c) (k c)
theorem good_litsV {v : Int} {l : List (List Int)} (h : goodB v l = true) : LitsV v l := by
  intro c hc
  obtain ⟨a, b⟩ := goodB_lits h c hc
  exact ⟨by omega, b⟩
theorem litsV_learn {v : Int} (hv : v ≤ 12) {d : List Int} (h : DecOk v d) : LitsV v [negL d] := by
  intro c hc
  have : c = negL d := by simpa using hc
  subst this
  have hl := decOk_le hv h
  refine ⟨by unfold negL; rw [List.length_map]; omega, fun n hn => ?_⟩
  unfold negL at hn
  obtain ⟨x, hx, rfl⟩ := List.mem_map.1 hn
  obtain ⟨a, b⟩ := decOk_mem h x hx
  rw [neg64 (by omega) (by omega)]
  omega
theorem dec_cons {v : Int} {d : List Int} (h : DecOk v d) : Cons d := by
  intro n hn
  obtain ⟨a, _⟩ := decOk_mem h n hn
  rw [hasB_no]
  intro h'
  obtain ⟨b, _⟩ := decOk_mem h _ h'
  omega
/-- What a round of the search needs of its state, and what it leaves. -/
structure SolveOk (v : Int) (l learned : List (List Int)) (decided : List Int) : Prop where
  v0 : 0 ≤ v
  v1 : v ≤ 12
  ll : l.length ≤ 1000
  lv : LitsV v l
  nv : LitsV v learned
  nl : learned.length ≤ 300
  ni : ∀ c ∈ learned, c.length ≤ 12
  dd : DecOk v decided
theorem SolveOk.all {v : Int} {l n : List (List Int)} {d : List Int} (h : SolveOk v l n d) : LitsOk (l ++ n) := (h.lv.app h.nv).ok h.v1
theorem SolveOk.learn {v : Int} {l n : List (List Int)} {d : List Int} (h : SolveOk v l n d) (hn : n.length < 300) : SolveOk v l (n ++ [negL d]) d.dropLast where
  v0 := h.v0
  v1 := h.v1
  ll := h.ll
  lv := h.lv
  nv := h.nv.app (litsV_learn h.v1 h.dd)
  nl := by simp; omega
  ni := fun c hc => (List.mem_append.1 hc).elim (h.ni c) fun hc => by
    have : c = negL d := by simpa using hc
    subst this
    unfold negL
    rw [List.length_map]
    exact decOk_le h.v1 h.dd
  dd := decOk_drop h.dd
theorem SolveOk.decide {v : Int} {l n : List (List Int)} {d : List Int} (h : SolveOk v l n d) (h0 : firstV (propP (l ++ n) d).1 v.toNat 1 ≠ 0) : SolveOk v l n (d ++ [firstV (propP (l ++ n) d).1 v.toNat 1]) where
  v0 := h.v0
  v1 := h.v1
  ll := h.ll
  lv := h.lv
  nv := h.nv
  nl := h.nl
  ni := h.ni
  dd := by
    obtain ⟨a, b, c, e⟩ := firstV_some (propP (l ++ n) d).1 v.toNat 1 (by omega) h0
    have := h.v0
    obtain ⟨t, ht⟩ := propL_pre (l ++ n) 13 d
    have hsub : ∀ y, hasB (propP (l ++ n) d).1 y = false → hasB d y = false := fun y hy => by
      rw [hasB_no] at hy ⊢
      intro h'
      exact hy (by unfold propP; rw [ht]; exact List.mem_append_left _ h')
    exact decOk_snoc h.dd _ a (by omega) (hsub _ c) (hsub _ e)
def solveM (n : List (List Int)) (d : List Int) : Nat := 2 * (301 - n.length) + (13 - d.length)
theorem solveM_learn {v : Int} {l n : List (List Int)} {d : List Int} (h : SolveOk v l n d) (hd : d ≠ []) : solveM (n ++ [negL d]) d.dropLast < solveM n d := by
  have h1 := decOk_le h.v1 h.dd
  have h2 := h.nl
  have h3 : 0 < d.length := List.length_pos_iff.2 hd
  unfold solveM
  rw [List.length_append, List.length_dropLast, List.length_singleton]
  omega
theorem solveM_decide {v : Int} {l n : List (List Int)} {d : List Int} (h : SolveOk v l n d) (x : Int) : solveM n (d ++ [x]) < solveM n d := by
  have h1 := decOk_le h.v1 h.dd
  unfold solveM
  rw [List.length_append, List.length_singleton]
  omega

theorem copy_l (l : List (List Int)) (hl : l.length ≤ 1048576) (hi : ∀ x ∈ l, x.length ≤ 1048576) : ∀ (d i k : Nat) (y : List (List Int)), i + d = l.length → y.length = i → d < k → spec_l5Copy.l0 k y l (l.length : Int) (i : Int) = some (y ++ l.drop i)
  | 0, i, k, y, h1, h2, hk => by
    obtain ⟨k, rfl⟩ : ∃ m, k = m + 1 := ⟨k - 1, by omega⟩
    simp only [spec_l5Copy.l0]
    rw [if_neg (by omega), List.drop_of_length_le (by omega), List.append_nil]
  | d + 1, i, k, y, h1, h2, hk => by
    obtain ⟨k, rfl⟩ : ∃ m, k = m + 1 := ⟨k - 1, by omega⟩
    have hil : i < l.length := by omega
    have hx := hi l[i] (List.getElem_mem _)
    simp only [spec_l5Copy.l0, Option.bind_some, List.nil_append, List.length_nil]
    rw [if_pos (by omega), if_pos (by omega), if_pos (by omega), rdL_nat l i hil, next64 (by omega), if_pos (by omega), if_pos (by omega)]
    rw [copy_l l hl hi d (i + 1) k (y ++ [l[i]]) (by omega) (by simp [h2]) (by omega), List.drop_eq_getElem_cons hil, List.append_assoc]
    rfl
theorem copy_val (l : List (List Int)) (hl : l.length ≤ 1048576) (hi : ∀ x ∈ l, x.length ≤ 1048576) (k : Nat) (hk : 1048577 ≤ k) : spec_l5Copy.f k l = some l := by
  unfold spec_l5Copy.f
  have := copy_l l hl hi l.length 0 k [] (by omega) rfl (by omega)
  simpa using this

theorem vab_abs {n : Int} (h0 : -12 ≤ n) (h1 : n ≤ 12) : vab n = if 0 ≤ n then n else -n := by
  rw [vab_small h0 h1]
  by_cases h : 0 ≤ n
  · rw [if_pos h, if_neg (by omega)]
  · rw [if_neg h, if_pos (by omega)]

theorem modelZ_length (v : Nat) (out : List Int) : (modelZ v out).length = v := by simp [modelZ]
theorem modelZ_at (v : Nat) (out : List Int) (j : Nat) (h : j < v) : (modelZ v out)[j]? = some (hasB out ((j : Int) + 1)) := by
  unfold modelZ
  rw [List.getElem?_map, List.getElem?_range h]
  rfl
/-- The model of the literals out: what the part up to i has set, and what it has not. -/
theorem implModelZ_l (v : Nat) (hv : v ≤ 12) (out : List Int) (hl : out.length ≤ 100000) (hr : ∀ n ∈ out, n ≠ 0 ∧ -(v : Int) ≤ n ∧ n ≤ (v : Int)) (hc : Cons out) : ∀ (d i k : Nat) (m : List Bool), i + d = out.length → m.length = v → (∀ j, j < v → m[j]? = some (hasB (out.take i) ((j : Int) + 1))) → d < k →
    impl_solve.l1 k out m (i : Int) = some (modelZ v out)
  | 0, i, k, m, h1, h2, h3, hk => by
    obtain ⟨k, rfl⟩ : ∃ m, k = m + 1 := ⟨k - 1, by omega⟩
    simp only [impl_solve.l1]
    rw [if_neg (by omega)]
    congr 1
    apply List.ext_getElem?
    intro j
    by_cases hj : j < v
    · rw [h3 j hj, modelZ_at v out j hj, List.take_of_length_le (by omega)]
    · rw [List.getElem?_eq_none (by omega), List.getElem?_eq_none (by rw [modelZ_length]; omega)]
  | d + 1, i, k, m, h1, h2, h3, hk => by
    obtain ⟨k, rfl⟩ : ∃ m, k = m + 1 := ⟨k - 1, by omega⟩
    have hil : i < out.length := by omega
    have hmem := List.getElem_mem hil
    obtain ⟨b0, b1, b2⟩ := hr out[i] hmem
    have hca := hc out[i] hmem
    obtain ⟨n, hn⟩ : ∃ n, out[i] = n := ⟨_, rfl⟩
    rw [hn] at b0 b1 b2 hca
    obtain ⟨q, hq⟩ : ∃ q : Nat, q < v ∧ (((q : Int) + 1 = n ∧ 0 < n) ∨ ((q : Int) + 1 = -n ∧ n < 0)) := by
      rcases Int.lt_or_gt_of_ne b0 with h | h
      · exact ⟨(-n).toNat - 1, by omega, .inr ⟨by omega, h⟩⟩
      · exact ⟨n.toNat - 1, by omega, .inl ⟨by omega, h⟩⟩
    obtain ⟨hqv, hq⟩ := hq
    have hvab : vab n = (q : Int) + 1 := by
      rw [vab_abs (by omega) (by omega)]
      split <;> omega
    simp only [impl_solve.l1]
    rw [if_pos (by omega), if_pos (by omega), rd_nat out i hil, next64 (by omega), hn, hvab, if_pos ⟨by omega, by omega⟩, show ((q : Int) + 1 - 1).toNat = q by omega]
    refine implModelZ_l v hv out hl hr hc d (i + 1) k _ (by omega) (by rw [List.length_set]; exact h2) (fun j hj => ?_) (by omega)
    rw [List.take_succ_eq_append_getElem hil, hasB_app, List.getElem?_set, hn]
    by_cases e : q = j
    · subst e
      rw [if_pos rfl, if_pos (by omega)]
      congr 1
      rcases hq with ⟨h1', h2'⟩ | ⟨h1', h2'⟩
      · rw [h1', decide_eq_true h2']
        simp
      · have hno : hasB (out.take i) ((q : Int) + 1) = false := by
          rw [h1']
          rw [hasB_no] at hca ⊢
          intro h
          exact hca (List.mem_of_mem_take h)
        rw [hno, decide_eq_false (by omega), show (n == (q : Int) + 1) = false by rw [beq_eq_false_iff_ne]; omega]
        rfl
    · rw [if_neg e, h3 j hj]
      congr 1
      have hne : (n == (j : Int) + 1) = false := by
        rw [beq_eq_false_iff_ne]
        omega
      rw [hne, Bool.or_false]
theorem specModelZ_l (v : Nat) (hv : v ≤ 12) (out : List Int) (hl : out.length ≤ 100000) (hr : ∀ n ∈ out, n ≠ 0 ∧ -(v : Int) ≤ n ∧ n ≤ (v : Int)) : ∀ (d i k : Nat) (m : List Bool), i + d = out.length → m.length = v → (∀ j, j < v → m[j]? = some (hasB (out.take i) ((j : Int) + 1))) → d < k →
    spec_l5Solve.l1 k out m (i : Int) = some (modelZ v out)
  | 0, i, k, m, h1, h2, h3, hk => by
    obtain ⟨k, rfl⟩ : ∃ m, k = m + 1 := ⟨k - 1, by omega⟩
    simp only [spec_l5Solve.l1]
    rw [if_neg (by omega)]
    congr 1
    apply List.ext_getElem?
    intro j
    by_cases hj : j < v
    · rw [h3 j hj, modelZ_at v out j hj, List.take_of_length_le (by omega)]
    · rw [List.getElem?_eq_none (by omega), List.getElem?_eq_none (by rw [modelZ_length]; omega)]
  | d + 1, i, k, m, h1, h2, h3, hk => by
    obtain ⟨k, rfl⟩ : ∃ m, k = m + 1 := ⟨k - 1, by omega⟩
    have hil : i < out.length := by omega
    obtain ⟨b0, b1, b2⟩ := hr out[i] (List.getElem_mem hil)
    simp only [spec_l5Solve.l1]
    rw [if_pos (by omega), if_pos (by omega), rd_nat out i hil, next64 (by omega)]
    by_cases hp : 0 < out[i]
    · rw [if_pos hp, if_pos (by omega)]
      refine specModelZ_l v hv out hl hr d (i + 1) k _ (by omega) (by rw [List.length_set]; exact h2) (fun j hj => ?_) (by omega)
      rw [List.take_succ_eq_append_getElem hil, hasB_app, List.getElem?_set]
      by_cases e : out[i].toNat - 1 = j
      · rw [if_pos e, if_pos (by omega), show (out[i] == (j : Int) + 1) = true by simp; omega, Bool.or_true]
      · rw [if_neg e, h3 j hj, show (out[i] == (j : Int) + 1) = false by simp; omega, Bool.or_false]
    · rw [if_neg hp]
      refine specModelZ_l v hv out hl hr d (i + 1) k m (by omega) h2 (fun j hj => ?_) (by omega)
      rw [List.take_succ_eq_append_getElem hil, hasB_app, h3 j hj, show (out[i] == (j : Int) + 1) = false by simp; omega, Bool.or_false]

theorem litsV_all {v : Int} {l n : List (List Int)} {d : List Int} (h : SolveOk v l n d) : ∀ x ∈ (propP (l ++ n) d).1, x ≠ 0 ∧ -v ≤ x ∧ x ≤ v :=
  propL_all (fun x => x ≠ 0 ∧ -v ≤ x ∧ x ≤ v) (l ++ n) h.all (fun c hc => ((h.lv.app h.nv) c hc).2) 13 d (fun x hx => by
    obtain ⟨a, b⟩ := decOk_mem h.dd x hx
    have := h.v0
    omega)
theorem prop_len {v : Int} {l n : List (List Int)} {d : List Int} (h : SolveOk v l n d) : (propP (l ++ n) d).1.length ≤ 100 := by
  have h1 := propL_length (l ++ n) 13 d
  have h2 := decOk_le h.v1 h.dd
  unfold propP
  omega
theorem take_dropLast {α : Type} (l : List α) : l.take (l.length - 1) = l.dropLast := (List.dropLast_eq_take).symm
theorem implSolve_l (v : Int) (l : List (List Int)) : ∀ (f k : Nat) (n : List (List Int)) (d : List Int), SolveOk v l n d → solveM n d < f → f + 4000000 ≤ k → impl_solve.l0 k v l n d = some (solveL v l f n d)
  | 0, k, n, d, h, hm, hk => by omega
  | f + 1, k, n, d, h, hm, hk => by
    obtain ⟨k, rfl⟩ : ∃ m, k = m + 1 := ⟨k - 1, by omega⟩
    have hll := h.ll
    have hnl := h.nl
    have hd12 := decOk_le h.v1 h.dd
    have hpl := prop_len h
    have hv0 := h.v0
    have hv1 := h.v1
    simp only [impl_solve.l0]
    rw [if_pos (by omega), implProp_val (l ++ n) h.all (by rw [List.length_append]; omega) d (by omega) k (by omega), solveL]
    simp only [Option.bind_some]
    cases hb : (propP (l ++ n) d).2 with
    | true =>
      rw [if_pos rfl, if_pos rfl, learn_val d (by omega) k (by omega)]
      simp only [Option.bind_some]
      rw [show (d.map fun x => wrap64 (-x)) = negL d from rfl]
      by_cases h3 : n.length = 300
      · rw [if_pos (by simp; omega), if_pos h3]
      · rw [if_neg (by simp; omega), if_neg h3]
        by_cases h0 : d = []
        · rw [if_pos (by rw [h0]; rfl), if_pos h0]
        · have h0' : ¬ d.length = 0 := fun e => h0 (List.eq_nil_of_length_eq_zero e)
          rw [if_neg h0', if_neg h0, take_dropLast]
          exact implSolve_l v l f k _ _ (h.learn (by omega)) (by have := solveM_learn h h0; omega) (by omega)
    | false =>
      rw [if_neg Bool.false_ne_true, if_neg Bool.false_ne_true, implDecide_val v _ hv0 hv1 k (by omega)]
      simp only [Option.bind_some]
      by_cases hx : firstV (propP (l ++ n) d).1 v.toNat 1 = 0
      · rw [decide_eq_false (by simpa using hx), if_neg Bool.false_ne_true, if_pos ⟨hv0, by omega⟩, if_pos hx]
        have := implModelZ_l v.toNat (by omega) (propP (l ++ n) d).1 (by omega) (fun x hx => by have := litsV_all h x hx; omega) (propL_cons _ h.all 13 d (dec_cons h.dd)) (propP (l ++ n) d).1.length 0 k (List.replicate v.toNat false) (by omega) (by simp) (fun j hj => by rw [List.getElem?_replicate, if_pos hj]; simp [hasB]) (by omega)
        rw [show ((0 : Nat) : Int) = 0 from rfl] at this
        rw [this]
        rfl
      · rw [decide_eq_true hx, if_pos rfl, if_pos (by omega), if_neg hx]
        exact implSolve_l v l f k _ _ (h.decide hx) (by have := solveM_decide h (firstV (propP (l ++ n) d).1 v.toNat 1); omega) (by omega)
theorem learned_bounds {n : List (List Int)} (h : ∀ c ∈ n, c.length ≤ 12) : ∀ c ∈ n, c.length ≤ 1048576 := fun c hc => by have := h c hc; omega
theorem specSolve_l (v : Int) (l : List (List Int)) : ∀ (f k : Nat) (n : List (List Int)) (d : List Int), SolveOk v l n d → solveM n d < f → f + 4000000 ≤ k → spec_l5Solve.l0 k v (l ++ n) n d = some (solveL v l f n d)
  | 0, k, n, d, h, hm, hk => by omega
  | f + 1, k, n, d, h, hm, hk => by
    obtain ⟨k, rfl⟩ : ∃ m, k = m + 1 := ⟨k - 1, by omega⟩
    have hll := h.ll
    have hnl := h.nl
    have hd12 := decOk_le h.v1 h.dd
    have hpl := prop_len h
    have hv0 := h.v0
    have hv1 := h.v1
    simp only [spec_l5Solve.l0]
    rw [specProp_val (l ++ n) h.all (by rw [List.length_append]; omega) d (by omega) k (by omega), solveL]
    simp only [Option.bind_some]
    rw [specFirst_val v _ (by omega) hv0 hv1 k (by omega)]
    simp only [Option.bind_some]
    cases hb : (propP (l ++ n) d).2 with
    | true =>
      rw [if_pos rfl, if_pos rfl]
      by_cases h3 : n.length = 300
      · rw [if_pos h3, if_pos h3]
      · rw [if_neg h3, if_neg h3, negate_val d (by omega) k (by omega)]
        simp only [Option.bind_some]
        rw [show (d.map fun x => wrap64 (-x)) = negL d from rfl, if_pos ⟨by omega, by rw [List.length_append]; omega⟩]
        by_cases h0 : d = []
        · rw [if_pos (by rw [h0]; rfl), if_pos h0, copy_val _ (by simp; omega) (fun c hc => by
            rcases List.mem_append.1 hc with hc | hc
            · exact learned_bounds h.ni c hc
            · have : c = negL d := by simpa using hc
              subst this
              unfold negL
              rw [List.length_map]
              omega) k (by omega)]
          rfl
        · have h0' : ¬ d.length = 0 := fun e => h0 (List.eq_nil_of_length_eq_zero e)
          rw [if_neg h0', if_neg h0, take_dropLast, List.append_assoc]
          exact specSolve_l v l f k _ _ (h.learn (by omega)) (by have := solveM_learn h h0; omega) (by omega)
    | false =>
      rw [if_neg Bool.false_ne_true, if_neg Bool.false_ne_true]
      by_cases hx : firstV (propP (l ++ n) d).1 v.toNat 1 = 0
      · rw [hx, if_neg (by omega), if_pos ⟨hv0, by omega⟩, if_pos rfl]
        have := specModelZ_l v.toNat (by omega) (propP (l ++ n) d).1 (by omega) (fun x hx => by have := litsV_all h x hx; omega) (propP (l ++ n) d).1.length 0 k (List.replicate v.toNat false) (by omega) (by simp) (fun j hj => by rw [List.getElem?_replicate, if_pos hj]; simp [hasB]) (by omega)
        rw [show ((0 : Nat) : Int) = 0 from rfl] at this
        rw [this]
        simp only [Option.bind_some]
        rw [copy_val n (by omega) (learned_bounds h.ni) k (by omega)]
        rfl
      · obtain ⟨a, _, _, _⟩ := firstV_some (propP (l ++ n) d).1 v.toNat 1 (by omega) hx
        rw [if_pos (by omega), if_pos (by omega), if_neg hx]
        exact specSolve_l v l f k _ _ (h.decide hx) (by have := solveM_decide h (firstV (propP (l ++ n) d).1 v.toNat 1); omega) (by omega)
/-- The search. -/
def solveP (v : Int) (l : List (List Int)) : Bool × List Bool × List (List Int) × Bool := solveL v l 700 [] []
theorem solveOk_nil {v : Int} {l : List (List Int)} (h0 : 0 ≤ v) (h1 : v ≤ 12) (hl : LitsV v l) (hn : l.length ≤ 1000) : SolveOk v l [] [] where
  v0 := h0
  v1 := h1
  ll := hn
  lv := hl
  nv := fun c hc => by simp at hc
  nl := by simp
  ni := fun c hc => by simp at hc
  dd := decOk_nil v
theorem implSolve_val (v : Int) (l : List (List Int)) (h0 : 0 ≤ v) (h1 : v ≤ 12) (hl : LitsV v l) (hn : l.length ≤ 1000) (k : Nat) (hk : 5000000 ≤ k) : impl_solve.f k v l = some (solveP v l) := by
  unfold impl_solve.f solveP
  exact implSolve_l v l 700 k [] [] (solveOk_nil h0 h1 hl hn) (by unfold solveM; simp) (by omega)
theorem specSolve_val (v : Int) (l : List (List Int)) (h0 : 0 ≤ v) (h1 : v ≤ 12) (hl : LitsV v l) (hn : l.length ≤ 1000) (k : Nat) (hk : 5000000 ≤ k) : spec_l5Solve.f k v l = some (solveP v l) := by
  unfold spec_l5Solve.f solveP
  rw [copy_val l (by omega) (fun c hc => by have := (hl c hc).1; omega) k (by omega)]
  simp only [Option.bind_some]
  have := specSolve_l v l 700 k [] [] (solveOk_nil h0 h1 hl hn) (by unfold solveM; simp) (by omega)
  rw [List.append_nil] at this
  exact this
/-- A truth for each literal, the two of a variable told apart. -/
def Asg (a : Int → Bool) : Prop := ∀ n : Int, n ≠ 0 → -12 ≤ n → n ≤ 12 → a (-n) = !(a n)
def LitsC (c : List Int) : Prop := ∀ n ∈ c, n ≠ 0 ∧ -12 ≤ n ∧ n ≤ 12
theorem asg_lit (m : List Bool) : Asg (litAt m) := by
  intro n h0 h1 h2
  have e1 : vab (-n) = vab n := by
    rw [vab_abs (by omega) (by omega), vab_abs h1 h2]
    split <;> split <;> omega
  unfold litAt
  rw [e1]
  rcases Int.lt_or_gt_of_ne h0 with h | h
  · rw [decide_eq_true (show 0 < -n by omega), decide_eq_false (show ¬ 0 < n by omega)]
    cases rdOf false m (vab n - 1) <;> rfl
  · rw [decide_eq_false (show ¬ 0 < -n by omega), decide_eq_true (show 0 < n by omega)]
    cases rdOf false m (vab n - 1) <;> rfl
theorem holds_iff {l : List (List Int)} {m : List Bool} : holdsB l m = true ↔ ∀ c ∈ l, c.any (litAt m) = true := by
  unfold holdsB
  rw [List.all_eq_true]

theorem meets_iff {c out : List Int} : meetsB c out = true ↔ ∃ n, n ∈ c ∧ n ∈ out := by
  unfold meetsB
  rw [List.any_eq_true]
  constructor
  · rintro ⟨n, hn, h⟩
    rw [any_flip] at h
    exact ⟨n, hn, hasB_mem.1 h⟩
  · rintro ⟨n, hn, h⟩
    exact ⟨n, hn, by rw [any_flip]; exact hasB_mem.2 h⟩
theorem without_mem {c out : List Int} {n : Int} (h : -12 ≤ n ∧ n ≤ 12) : n ∈ withoutL c out ↔ n ∈ c ∧ -n ∉ out := by
  unfold withoutL
  rw [List.mem_filter, any_flip, neg64 (by omega) (by omega)]
  refine and_congr_right fun _ => ?_
  rw [← hasB_mem]
  unfold hasB
  cases out.any (· == -n) <;> simp
theorem unit_sound {a : Int → Bool} (ha : Asg a) {out c : List Int} (hc : LitsC c) (ho : ∀ x ∈ out, a x = true) (hs : c.any a = true) : (unitP out c).2 = false ∧ ((unitP out c).1 ≠ 0 → a (unitP out c).1 = true) := by
  obtain ⟨n, hn, han⟩ := List.any_eq_true.1 hs
  obtain ⟨n0, n1, n2⟩ := hc n hn
  have hw : n ∈ withoutL c out := (without_mem ⟨n1, n2⟩).2 ⟨hn, fun h => by
    have := ho _ h
    rw [ha n n0 n1 n2, han] at this
    cases this⟩
  cases hm : meetsB c out with
  | true =>
    have hu : unitP out c = (0, false) := by unfold unitP; rw [hm]; rfl
    rw [hu]
    exact ⟨rfl, fun h => absurd rfl h⟩
  | false =>
    match hw2 : withoutL c out with
    | [] => rw [hw2] at hw; cases hw
    | [x] =>
      have hu : unitP out c = (x, false) := by unfold unitP; rw [hm, hw2]; rfl
      rw [hw2] at hw
      have : n = x := by simpa using hw
      subst this
      rw [hu]
      exact ⟨rfl, fun _ => han⟩
    | x :: y :: t =>
      have hu : unitP out c = (0, false) := by unfold unitP; rw [hm, hw2]; rfl
      rw [hu]
      exact ⟨rfl, fun h => absurd rfl h⟩
theorem scan_sound {a : Int → Bool} (ha : Asg a) {out : List Int} (ho : ∀ x ∈ out, a x = true) : ∀ (l : List (List Int)), (∀ c ∈ l, LitsC c) → (∀ c ∈ l, c.any a = true) → scanC out l ≠ some none ∧ ∀ x, scanC out l = some (some x) → a x = true
  | [], _, _ => by simp [scanC]
  | c :: r, hl, hs => by
    obtain ⟨h1, h2⟩ := unit_sound ha (hl c List.mem_cons_self) ho (hs c List.mem_cons_self)
    unfold scanC
    rw [h1, if_neg Bool.false_ne_true]
    by_cases h0 : (unitP out c).1 = 0
    · rw [if_pos h0]
      exact scan_sound ha ho r (fun c' h' => hl c' (List.mem_cons_of_mem _ h')) (fun c' h' => hs c' (List.mem_cons_of_mem _ h'))
    · rw [if_neg h0]
      refine ⟨by simp, fun x hx => ?_⟩
      injection hx with hx
      injection hx with hx
      subst hx
      exact h2 h0
theorem prop_sound {a : Int → Bool} (ha : Asg a) {l : List (List Int)} (hl : ∀ c ∈ l, LitsC c) (hs : ∀ c ∈ l, c.any a = true) : ∀ (f : Nat) (out : List Int), (∀ x ∈ out, a x = true) → (propL l f out).2 = false ∧ ∀ x ∈ (propL l f out).1, a x = true
  | 0, out, ho => ⟨rfl, ho⟩
  | f + 1, out, ho => by
    obtain ⟨h1, h2⟩ := scan_sound ha ho l hl hs
    unfold propL
    match hsc : scanC out l with
    | none => exact ⟨rfl, ho⟩
    | some none => exact absurd hsc h1
    | some (some x) =>
      exact prop_sound ha hl hs f (out ++ [x]) (fun y hy => by
        rcases List.mem_append.1 hy with hy | hy
        · exact ho y hy
        · have : y = x := by simpa using hy
          exact this ▸ h2 x hsc)
/-- The propagation ends where nothing is left to find. -/
theorem prop_fix {l : List (List Int)} (hl : LitsOk l) : ∀ (f : Nat) (out : List Int), freeV out < f → (propL l f out).2 = false → scanC (propL l f out).1 l = none
  | 0, _, h, _ => by omega
  | f + 1, out, h, h2 => by
    unfold propL at h2 ⊢
    match hs : scanC out l with
    | none => exact hs
    | some none => rw [hs] at h2; cases h2
    | some (some x) =>
      rw [hs] at h2
      obtain ⟨a, b, c, d, e⟩ := scan_lit out l x hl hs
      have := freeV_lt out x a b c d e
      exact prop_fix hl f (out ++ [x]) (by omega) h2
theorem scan_none {out : List Int} : ∀ {l : List (List Int)}, scanC out l = none → ∀ c ∈ l, unitP out c = (0, false)
  | [], _ => by simp
  | c :: r, h => by
    unfold scanC at h
    split at h
    · cases h
    · rename_i h1
      split at h
      · rename_i h2
        intro c' hc'
        rcases List.mem_cons.1 hc' with rfl | hc'
        · exact Prod.ext h2 (by simpa using h1)
        · exact scan_none h c' hc'
      · cases h
theorem unit_full {out c : List Int} (hc : LitsC c) (hall : ∀ n ∈ c, n ∈ out ∨ -n ∈ out) (hu : unitP out c = (0, false)) : ∃ n ∈ c, n ∈ out := by
  cases hm : meetsB c out with
  | true => exact meets_iff.1 hm
  | false =>
    have hw : withoutL c out = [] := by
      rw [List.eq_nil_iff_forall_not_mem]
      intro n hn
      have hnc : n ∈ c := by
        unfold withoutL at hn
        exact (List.mem_filter.1 hn).1
      obtain ⟨_, h1, h2⟩ := hc n hnc
      obtain ⟨_, h3⟩ := (without_mem ⟨h1, h2⟩).1 hn
      rcases hall n hnc with h | h
      · have : meetsB c out = true := meets_iff.2 ⟨n, hnc, h⟩
        rw [hm] at this
        cases this
      · exact h3 h
    unfold unitP at hu
    rw [hm, hw] at hu
    simp at hu

theorem negL_mem {c : List Int} (hc : LitsC c) {x : Int} : x ∈ negL c ↔ -x ∈ c := by
  unfold negL
  rw [List.mem_map]
  constructor
  · rintro ⟨n, hn, rfl⟩
    obtain ⟨_, h1, h2⟩ := hc n hn
    rw [neg64 (by omega) (by omega), Int.neg_neg]
    exact hn
  · intro h
    obtain ⟨_, h1, h2⟩ := hc _ h
    exact ⟨-x, h, by rw [neg64 (by omega) (by omega), Int.neg_neg]⟩
theorem negL_neg {c : List Int} (hc : LitsC c) : negL (negL c) = c := by
  unfold negL
  rw [List.map_map]
  conv => rhs; rw [← List.map_id c]
  refine List.map_congr_left fun n hn => ?_
  obtain ⟨_, h1, h2⟩ := hc n hn
  simp only [Function.comp_apply, id_eq]
  rw [neg64 (n := n) (by omega) (by omega), neg64 (by omega) (by omega), Int.neg_neg]
theorem any_neg {a : Int → Bool} (ha : Asg a) {c : List Int} (hc : LitsC c) (h : c.any a = false) : ∀ x ∈ negL c, a x = true := by
  intro x hx
  have hx' := (negL_mem hc).1 hx
  obtain ⟨h0, h1, h2⟩ := hc _ hx'
  have := List.any_eq_false.1 h _ hx'
  have e := ha (-x) h0 h1 h2
  rw [Int.neg_neg] at e
  rw [e]
  simpa using this
theorem atOnce_sound {a : Int → Bool} (ha : Asg a) {l : List (List Int)} (hl : ∀ c ∈ l, LitsC c) (hs : ∀ c ∈ l, c.any a = true) {c : List Int} (hc : LitsC c) (h : atOnceB l c = true) : c.any a = true := by
  cases hca : c.any a with
  | true => rfl
  | false =>
    have := (prop_sound ha hl hs 13 (negL c) (any_neg ha hc hca)).1
    unfold atOnceB propP at h
    rw [this] at h
    cases h
theorem check_sound {a : Int → Bool} (ha : Asg a) : ∀ (p : List (List Int)) (all : List (List Int)) (i : Int), (∀ c ∈ p, LitsC c) → (∀ c ∈ all, LitsC c) → (∀ c ∈ all, c.any a = true) → checkD p [] all i = none → ∀ c ∈ p, c.any a = true
  | [], _, _, _, _, _, _ => by simp
  | c :: r, all, i, hp, hl, hs, h => by
    have hc := hp c List.mem_cons_self
    rw [checkD] at h
    simp only [List.headD_nil, List.tail_nil] at h
    cases hat : atOnceB all c with
    | false => rw [hat] at h; cases h
    | true =>
      rw [hat] at h
      have hca := atOnce_sound ha hl hs hc hat
      intro c' hc'
      rcases List.mem_cons.1 hc' with rfl | hc'
      · exact hca
      · exact check_sound ha r (all ++ [c]) (i + 1) (fun x hx => hp x (List.mem_cons_of_mem _ hx)) (fun x hx => (List.mem_append.1 hx).elim (hl x) fun hx => by
          have : x = c := by simpa using hx
          exact this ▸ hc) (fun x hx => (List.mem_append.1 hx).elim (hs x) fun hx => by
          have : x = c := by simpa using hx
          exact this ▸ hca) h c' hc'
theorem lastEmpty_mem {p : List (List Int)} (h : lastEmpty p = true) : [] ∈ p := by
  unfold lastEmpty at h
  match hl : p.getLast? with
  | none => rw [hl] at h; cases h
  | some c =>
    rw [hl] at h
    have : c = [] := by simpa using h
    subst this
    exact List.mem_of_getLast? hl
/-- An accepted proof: no truth of the literals makes all clauses hold. -/
theorem refuted {a : Int → Bool} (ha : Asg a) {l p : List (List Int)} (hl : ∀ c ∈ l, LitsC c) (hp : ∀ c ∈ p, LitsC c) (h : (checkR l p []).1 = true) : ¬ ∀ c ∈ l, c.any a = true := by
  intro hs
  unfold checkR at h
  match hd : checkD p [] l 0 with
  | some i => rw [hd] at h; cases h
  | none =>
    rw [hd] at h
    have := check_sound ha p l 0 hp hl hs hd _ (lastEmpty_mem h)
    simp at this
theorem checkD_snoc : ∀ (p : List (List Int)) (c : List Int) (all : List (List Int)) (i : Int), checkD p [] all i = none → atOnceB (all ++ p) c = true → checkD (p ++ [c]) [] all i = none
  | [], c, all, i, _, h => by
    rw [List.nil_append, checkD]
    simp only [List.headD_nil]
    rw [List.append_nil] at h
    rw [h]
    rfl
  | x :: r, c, all, i, h, ha => by
    rw [List.cons_append, checkD]
    rw [checkD] at h
    simp only [List.headD_nil, List.tail_nil] at h ⊢
    cases hat : atOnceB all x with
    | false => rw [hat] at h; cases h
    | true =>
      rw [hat] at h
      exact checkD_snoc r c (all ++ [x]) (i + 1) h (by rw [List.append_assoc]; exact ha)
theorem modelZ_lit {v : Nat} (hv : v ≤ 12) {out : List Int} (hc : Cons out) {n : Int} (h0 : n ≠ 0) (h1 : -(v : Int) ≤ n) (h2 : n ≤ (v : Int)) (hn : n ∈ out) : litAt (modelZ v out) n = true := by
  unfold litAt rdOf
  rw [vab_abs (by omega) (by omega), List.getD_eq_getElem?_getD]
  rcases Int.lt_or_gt_of_ne h0 with h | h
  · rw [if_neg (by omega), modelZ_at v out _ (by omega), show (((-n - 1).toNat : Nat) : Int) + 1 = -n by omega, hc n hn, decide_eq_false (by omega)]
    rfl
  · rw [if_pos (by omega), modelZ_at v out _ (by omega), show (((n - 1).toNat : Nat) : Int) + 1 = n by omega, hasB_mem.2 hn, decide_eq_true (by omega)]
    rfl
/-- What the search for a model comes to. -/
theorem solveL_true (v : Int) (l : List (List Int)) : ∀ (f : Nat) (n : List (List Int)) (d : List Int), SolveOk v l n d → solveM n d < f → (solveL v l f n d).1 = true → (solveL v l f n d).2.1.length = v.toNat ∧ (solveL v l f n d).2.2.2 = true ∧ holdsB l (solveL v l f n d).2.1 = true
  | 0, n, d, h, hm, _ => by omega
  | f + 1, n, d, h, hm, hr => by
    have hnl := h.nl
    rw [solveL] at hr ⊢
    cases hb : (propP (l ++ n) d).2 with
    | true =>
      rw [hb] at hr
      rw [if_pos rfl] at hr ⊢
      by_cases h3 : n.length = 300
      · rw [if_pos h3] at hr
        cases hr
      · rw [if_neg h3] at hr ⊢
        by_cases h0 : d = []
        · rw [if_pos h0] at hr
          cases hr
        · rw [if_neg h0] at hr ⊢
          exact solveL_true v l f _ _ (h.learn (by omega)) (by have := solveM_learn h h0; omega) hr
    | false =>
      rw [hb] at hr
      rw [if_neg Bool.false_ne_true] at hr ⊢
      by_cases hx : firstV (propP (l ++ n) d).1 v.toNat 1 = 0
      · rw [if_pos hx]
        have hv0 := h.v0
        have hv1 := h.v1
        refine ⟨modelZ_length _ _, rfl, holds_iff.2 fun c hc => ?_⟩
        have hfix := prop_fix h.all 13 d (by have := freeV_le d; omega) hb
        have hu := scan_none hfix c (List.mem_append_left _ hc)
        have hlc : LitsC c := fun y hy => ((h.all) c (List.mem_append_left _ hc)).2 y hy
        have hvc := (h.lv c hc).2
        obtain ⟨y, hy, hyo⟩ := unit_full hlc (fun y hy => by
          obtain ⟨a0, a1, a2⟩ := hvc y hy
          rcases Int.lt_or_gt_of_ne a0 with h' | h'
          · have := firstV_none (propP (l ++ n) d).1 v.toNat 1 (by omega) hx (-y) (by omega) (by omega)
            rw [Int.neg_neg] at this
            rcases this with h'' | h''
            · exact .inr (hasB_mem.1 h'')
            · exact .inl (hasB_mem.1 h'')
          · have := firstV_none (propP (l ++ n) d).1 v.toNat 1 (by omega) hx y (by omega) (by omega)
            rcases this with h'' | h''
            · exact .inl (hasB_mem.1 h'')
            · exact .inr (hasB_mem.1 h'')) hu
        obtain ⟨a0, a1, a2⟩ := hvc y hy
        exact List.any_eq_true.2 ⟨y, hy, modelZ_lit (by omega) (propL_cons _ h.all 13 d (dec_cons h.dd)) a0 (by omega) (by omega) hyo⟩
      · rw [if_neg hx] at hr ⊢
        exact solveL_true v l f _ _ (h.decide hx) (by have := solveM_decide h (firstV (propP (l ++ n) d).1 v.toNat 1); omega) hr
theorem dec_lits {v : Int} (hv : v ≤ 12) {d : List Int} (h : DecOk v d) : LitsC d := fun n hn => by
  have := decOk_mem h n hn
  omega
theorem learn_atOnce {v : Int} (hv : v ≤ 12) {all : List (List Int)} {d : List Int} (h : DecOk v d) (hb : (propP all d).2 = true) : atOnceB all (negL d) = true := by
  unfold atOnceB
  rw [negL_neg (dec_lits hv h)]
  exact hb
/-- What is learned is a proof, clause by clause; and whole where no model is found. -/
theorem solveL_proof (v : Int) (l : List (List Int)) : ∀ (f : Nat) (n : List (List Int)) (d : List Int), SolveOk v l n d → solveM n d < f → checkD n [] l 0 = none → (solveL v l f n d).2.2.2 = true → checkD (solveL v l f n d).2.2.1 [] l 0 = none ∧ ((solveL v l f n d).1 = false → lastEmpty (solveL v l f n d).2.2.1 = true)
  | 0, n, d, h, hm, _, _ => by omega
  | f + 1, n, d, h, hm, hc, hr => by
    have hnl := h.nl
    rw [solveL] at hr ⊢
    cases hb : (propP (l ++ n) d).2 with
    | true =>
      have hat := learn_atOnce h.v1 h.dd hb
      have hcs := checkD_snoc n (negL d) l 0 hc hat
      rw [hb] at hr
      rw [if_pos rfl] at hr ⊢
      by_cases h3 : n.length = 300
      · rw [if_pos h3] at hr
        cases hr
      · rw [if_neg h3] at hr ⊢
        by_cases h0 : d = []
        · rw [if_pos h0]
          refine ⟨hcs, fun _ => ?_⟩
          subst h0
          simp [lastEmpty, negL]
        · rw [if_neg h0] at hr ⊢
          exact solveL_proof v l f _ _ (h.learn (by omega)) (by have := solveM_learn h h0; omega) hcs hr
    | false =>
      rw [hb] at hr
      rw [if_neg Bool.false_ne_true] at hr ⊢
      by_cases hx : firstV (propP (l ++ n) d).1 v.toNat 1 = 0
      · rw [if_pos hx]
        exact ⟨hc, fun h' => by cases h'⟩
      · rw [if_neg hx] at hr ⊢
        exact solveL_proof v l f _ _ (h.decide hx) (by have := solveM_decide h (firstV (propP (l ++ n) d).1 v.toNat 1); omega) hc hr
theorem good_litsC {v : Int} {l : List (List Int)} (h : goodB v l = true) : ∀ c ∈ l, LitsC c := fun c hc n hn => ((good_litsOk h) c hc).2 n hn
theorem litsOk_C {l : List (List Int)} (h : LitsOk l) : ∀ c ∈ l, LitsC c := fun c hc n hn => (h c hc).2 n hn

def bitAt (num : Int) (i : Nat) : Bool := (Go.bits .and .i64 (shr .i64 num (i : Int)) 1) == 1
def modelL (v : Nat) (num : Int) : List Bool := (List.range v).map fun i => bitAt num i
theorem modelL_length (v : Nat) (num : Int) : (modelL v num).length = v := by simp [modelL]
theorem u64_small {x : Int} (h0 : 0 ≤ x) (h1 : x ≤ 1000) : IntKind.u64.wrap x = x := by
  simp [IntKind.wrap, IntKind.bits, IntKind.signed]
  omega

theorem bits_one (n : Nat) (h : n < 9223372036854775808) : Go.bits .and .i64 (n : Int) 1 = ((n % 2 : Nat) : Int) := by
  have e : (BitVec.ofInt 64 (n : Int) &&& BitVec.ofInt 64 1).toNat = n % 2 := by
    rw [BitVec.toNat_and, show (BitVec.ofInt 64 (1 : Int)).toNat = 1 by decide, BitVec.toNat_ofInt, Nat.and_one_is_mod]
    omega
  show IntKind.i64.wrap ((BitVec.ofInt 64 (n : Int) &&& BitVec.ofInt 64 1).toNat : Int) = _
  rw [e, IntKind.wrap_i64]
  omega
theorem bitAt_nat (x i : Nat) (hx : x < 4096) (hi : i < 64) : bitAt (x : Int) i = x.testBit i := by
  unfold bitAt shr
  rw [show min ((i : Int).toNat) IntKind.i64.bits = i by simp [IntKind.bits]; omega, show ((2 : Int) ^ i) = ((2 ^ i : Nat) : Int) by simp, ← Int.natCast_ediv]
  have hle : x / 2 ^ i ≤ x := Nat.div_le_self _ _
  generalize hq : x / 2 ^ i = q at *
  rw [bits_one _ (by omega), Nat.testBit_eq_decide_div_mod_eq, hq, Bool.eq_iff_iff]
  simp only [beq_iff_eq, decide_eq_true_eq]
  omega
def numOf : List Bool → Nat
  | [] => 0
  | b :: r => (if b = true then 1 else 0) + 2 * numOf r
theorem numOf_lt : ∀ m : List Bool, numOf m < 2 ^ m.length
  | [] => by simp [numOf]
  | b :: r => by
    have := numOf_lt r
    rw [List.length_cons, Nat.pow_succ]
    unfold numOf
    split <;> omega
theorem numOf_bit : ∀ (m : List Bool) (i : Nat), (numOf m).testBit i = m.getD i false
  | [], i => by simp [numOf]
  | b :: r, 0 => by
    rw [Nat.testBit_zero]
    unfold numOf
    cases b with
    | true => simp
    | false => simp
  | b :: r, i + 1 => by
    rw [Nat.testBit_succ]
    have : numOf (b :: r) / 2 = numOf r := by
      rw [numOf]
      split <;> omega
    rw [this, numOf_bit r i]
    simp
theorem model_of (m : List Bool) (hm : m.length ≤ 12) : numOf m < 2 ^ m.length ∧ modelL m.length (numOf m : Int) = m := by
  have h1 := numOf_lt m
  have h2 : 2 ^ m.length ≤ 2 ^ 12 := Nat.pow_le_pow_right (by decide) hm
  refine ⟨h1, ?_⟩
  apply List.ext_getElem?
  intro j
  unfold modelL
  rw [List.getElem?_map]
  by_cases hj : j < m.length
  · rw [List.getElem?_range hj, List.getElem?_eq_getElem hj]
    simp only [Option.map_some]
    rw [bitAt_nat _ _ (by omega) (by omega), numOf_bit, List.getD_eq_getElem?_getD, List.getElem?_eq_getElem hj]
    rfl
  · rw [List.getElem?_eq_none (by simp; omega), List.getElem?_eq_none (by omega)]
    rfl

theorem fits_good {v : Int} {l : List (List Int)} (h : goodB v l = true) (m : List Bool) (hm : (m.length : Int) = v) : fitsModel l m = true := by
  obtain ⟨h0, h1, h2, _⟩ := goodB_facts h
  unfold fitsModel
  rw [List.all_eq_true]
  intro c hc
  rw [List.all_eq_true]
  intro n hn
  obtain ⟨a0, a1, a2⟩ := (goodB_lits h c hc).2 n hn
  rw [vab_small (by omega) (by omega)]
  simp only [Bool.and_eq_true, decide_eq_true_eq]
  split <;> omega
theorem implHolds_val {v : Int} {l : List (List Int)} (h : goodB v l = true) (m : List Bool) (hm : (m.length : Int) = v) : impl_holds.f l m = some (holdsB l m) := by
  unfold impl_holds.f
  rw [if_pos (fits_good h m hm)]

theorem implModel_l (num : Int) : ∀ (d i k : Nat) (y : List Bool), i + d = y.length → y.length ≤ 1000 → (∀ j, j < i → y[j]? = some (bitAt num j)) → d < k → impl_model.l0 k num y (y.length : Int) (i : Int) = some (modelL y.length num)
  | 0, i, k, y, h1, h2, h3, hk => by
    obtain ⟨k, rfl⟩ : ∃ m, k = m + 1 := ⟨k - 1, by omega⟩
    simp only [impl_model.l0]
    rw [if_neg (by omega)]
    congr 1
    apply List.ext_getElem?
    intro j
    by_cases hj : j < y.length
    · rw [h3 j (by omega)]
      simp [modelL, hj]
    · rw [List.getElem?_eq_none (by omega), List.getElem?_eq_none (by rw [modelL_length]; omega)]
  | d + 1, i, k, y, h1, h2, h3, hk => by
    obtain ⟨k, rfl⟩ : ∃ m, k = m + 1 := ⟨k - 1, by omega⟩
    simp only [impl_model.l0]
    rw [if_pos (by omega), if_pos (by omega), if_pos (by omega), next64 (by omega), show ((i : Int).toNat) = i by omega]
    have ih := implModel_l num d (i + 1) k (y.set i (bitAt num i)) (by rw [List.length_set]; omega) (by rw [List.length_set]; omega) (fun j hj => by
      rw [List.getElem?_set]
      by_cases e : i = j
      · subst e
        rw [if_pos rfl, if_pos (by omega)]
      · rw [if_neg e]
        exact h3 j (by omega)) (by omega)
    rw [List.length_set] at ih
    exact ih
theorem implModel_val (v : Int) (h0 : 0 ≤ v) (h1 : v ≤ 12) (num : Int) (k : Nat) (hk : 1000 ≤ k) : impl_model.f k v num = some (modelL v.toNat num) := by
  unfold impl_model.f
  rw [if_pos h0, if_pos (by omega)]
  simp only [Option.bind_some]
  have := implModel_l num v.toNat 0 k (List.replicate v.toNat false) (by simp) (by simp; omega) (fun j hj => absurd hj (by omega)) (by omega)
  rw [List.length_replicate] at this ⊢
  exact this
/-- How many of the models from number x on, d of them, are models of the clauses. -/
def countFrom (v : Nat) (l : List (List Int)) : Nat → Int → Int
  | 0, _ => 0
  | d + 1, x => (if holdsB l (modelL v x) = true then 1 else 0) + countFrom v l d (x + 1)
theorem shl_pow (v : Int) (h0 : 0 ≤ v) (h1 : v ≤ 12) : shl .i64 1 v = ((2 ^ v.toNat : Nat) : Int) := by
  unfold shl
  have h : v.toNat ≤ 12 := by omega
  rw [Nat.min_eq_left (show v.toNat ≤ IntKind.i64.bits by simp [IntKind.bits]; omega), IntKind.wrap_i64]
  have hp : 2 ^ v.toNat ≤ 2 ^ 12 := Nat.pow_le_pow_right (by decide) h
  have e : ((2 : Int) ^ v.toNat) = ((2 ^ v.toNat : Nat) : Int) := by simp
  rw [Int.one_mul, e]
  generalize 2 ^ v.toNat = p at hp
  omega
theorem implCount_l (v : Int) (l : List (List Int)) (hg : goodB v l = true) : ∀ (d : Nat) (x c : Int) (k : Nat), x + d = ((2 ^ v.toNat : Nat) : Int) → 0 ≤ x → 0 ≤ c → c ≤ x → d + 200000 ≤ k → impl_countModels.l0 k v l c ((2 ^ v.toNat : Nat) : Int) x = some (c + countFrom v.toNat l d x) := by
  obtain ⟨h0, h1, _, _⟩ := goodB_facts hg
  have hp : 2 ^ v.toNat ≤ 2 ^ 12 := Nat.pow_le_pow_right (by decide) (by omega)
  intro d
  induction d with
  | zero =>
    intro x c k hx hx0 hc0 hcx hk
    obtain ⟨k, rfl⟩ : ∃ m, k = m + 1 := ⟨k - 1, by omega⟩
    simp only [impl_countModels.l0]
    rw [if_neg (by omega)]
    simp [countFrom]
  | succ d ih =>
    intro x c k hx hx0 hc0 hcx hk
    obtain ⟨k, rfl⟩ : ∃ m, k = m + 1 := ⟨k - 1, by omega⟩
    have hm : ((modelL v.toNat x).length : Int) = v := by rw [modelL_length]; omega
    simp only [impl_countModels.l0]
    rw [if_pos (by omega), implModel_val v h0 h1 x k (by omega)]
    simp only [Option.bind_some]
    rw [implHolds_val hg _ hm, w64 (x := x + 1) (by omega) (by omega), w64 (x := c + 1) (by omega) (by omega)]
    simp only [Option.bind_some]
    unfold countFrom
    cases holdsB l (modelL v.toNat x) with
    | true =>
      simp only [if_true]
      rw [ih (x + 1) (c + 1) k (by omega) (by omega) (by omega) (by omega) (by omega)]
      congr 1
      omega
    | false =>
      rw [if_neg Bool.false_ne_true, if_neg Bool.false_ne_true, ih (x + 1) c k (by omega) (by omega) (by omega) (by omega) (by omega)]
      congr 1
      omega
def countR (v : Int) (l : List (List Int)) : Int := countFrom v.toNat l (2 ^ v.toNat) 0
theorem implCountModels_val (v : Int) (l : List (List Int)) (hg : goodB v l = true) (k : Nat) (hk : 5000000 ≤ k) : impl_countModels.f k v l = some (countR v l) := by
  obtain ⟨h0, h1, _, _⟩ := goodB_facts hg
  have hp : 2 ^ v.toNat ≤ 2 ^ 12 := Nat.pow_le_pow_right (by decide) (by omega)
  unfold impl_countModels.f
  rw [if_pos h0, shl_pow v h0 h1, implCount_l v l hg (2 ^ v.toNat) 0 0 k (by omega) (by omega) (by omega) (by omega) (by omega)]
  unfold countR
  simp

theorem implCount_val (v : Int) (l : List (List Int)) (k : Nat) (hk : 5000000 ≤ k) : impl_CountModels.f k v l = some (if goodB v l = true then (countR v l, true) else (0, false)) := by
  unfold impl_CountModels.f
  rw [implGood_val]
  simp only [Option.bind_some]
  cases hg : goodB v l with
  | false => rfl
  | true =>
    simp only [if_true]
    rw [implCountModels_val v l hg k hk]
    rfl

theorem countFrom_eq (v : Nat) {l l' : List (List Int)} (h : ∀ m, holdsB l m = holdsB l' m) : ∀ (d : Nat) (x : Int), countFrom v l d x = countFrom v l' d x
  | 0, _ => rfl
  | d + 1, x => by
    unfold countFrom
    rw [h, countFrom_eq v h d (x + 1)]
theorem countFrom_le (v : Nat) {l l' : List (List Int)} (h : ∀ m, holdsB l' m = true → holdsB l m = true) : ∀ (d : Nat) (x : Int), countFrom v l' d x ≤ countFrom v l d x
  | 0, _ => Int.le_refl _
  | d + 1, x => by
    unfold countFrom
    have ih := countFrom_le v h d (x + 1)
    by_cases h1 : holdsB l' (modelL v x) = true
    · rw [if_pos h1, if_pos (h _ h1)]
      omega
    · rw [if_neg h1]
      split <;> omega
theorem countFrom_lt (v : Nat) {l l' : List (List Int)} (h : ∀ m, holdsB l' m = true → holdsB l m = true) : ∀ (d : Nat) (x : Int) (j : Nat), j < d → holdsB l (modelL v (x + j)) = true → holdsB l' (modelL v (x + j)) = false → countFrom v l' d x < countFrom v l d x
  | 0, _, _, hj, _, _ => by omega
  | d + 1, x, 0, _, h1, h2 => by
    unfold countFrom
    have := countFrom_le v h d (x + 1)
    simp only [Int.natCast_zero, Int.add_zero] at h1 h2
    rw [if_pos h1, if_neg (by rw [h2]; exact Bool.false_ne_true)]
    omega
  | d + 1, x, j + 1, hj, h1, h2 => by
    unfold countFrom
    rw [show x + ((j + 1 : Nat) : Int) = x + 1 + (j : Int) by omega] at h1 h2
    have := countFrom_lt v h d (x + 1) j (by omega) h1 h2
    by_cases h3 : holdsB l' (modelL v x) = true
    · rw [if_pos h3, if_pos (h _ h3)]
      omega
    · rw [if_neg h3]
      split <;> omega
theorem countR_eq {v : Int} {l l' : List (List Int)} (h : ∀ m, holdsB l m = holdsB l' m) : countR v l = countR v l' := countFrom_eq _ h _ _
theorem countR_lt {v : Int} (hv : v ≤ 12) {l l' : List (List Int)} (h : ∀ m, holdsB l' m = true → holdsB l m = true) {m : List Bool} (hm : m.length = v.toNat) (h1 : holdsB l m = true) (h2 : holdsB l' m = false) : countR v l' < countR v l := by
  obtain ⟨a, b⟩ := model_of m (by omega)
  unfold countR
  rw [hm] at a b
  refine countFrom_lt _ h _ _ (numOf m) a ?_ ?_
  · rw [Int.zero_add, b]
    exact h1
  · rw [Int.zero_add, b]
    exact h2

def solveR (v : Int) (l : List (List Int)) : Bool × List Bool × List (List Int) × Bool := if goodB v l = true then solveP v l else (false, [], [], false)
theorem implSolveR_val (v : Int) (l : List (List Int)) (k : Nat) (hk : 6000000 ≤ k) : impl_Solve.f k v l = some (solveR v l) := by
  unfold impl_Solve.f solveR
  rw [implGood_val]
  simp only [Option.bind_some]
  cases hg : goodB v l with
  | false => rfl
  | true =>
    obtain ⟨h0, h1, h60, _⟩ := goodB_facts hg
    rw [if_pos rfl, if_pos rfl, implSolve_val v l h0 h1 (good_litsV hg) (by omega) k (by omega)]
    rfl
/-- The literals of what is learned. -/
theorem solveL_lits (v : Int) (l : List (List Int)) : ∀ (f : Nat) (n : List (List Int)) (d : List Int), SolveOk v l n d → solveM n d < f → LitsV v (solveL v l f n d).2.2.1
  | 0, n, d, h, hm => by omega
  | f + 1, n, d, h, hm => by
    have hnl := h.nl
    rw [solveL]
    cases hb : (propP (l ++ n) d).2 with
    | true =>
      rw [if_pos rfl]
      by_cases h3 : n.length = 300
      · rw [if_pos h3]
        intro c hc
        simp at hc
      · rw [if_neg h3]
        by_cases h0 : d = []
        · rw [if_pos h0]
          exact h.nv.app (litsV_learn h.v1 h.dd)
        · rw [if_neg h0]
          exact solveL_lits v l f _ _ (h.learn (by omega)) (by have := solveM_learn h h0; omega)
    | false =>
      rw [if_neg Bool.false_ne_true]
      by_cases hx : firstV (propP (l ++ n) d).1 v.toNat 1 = 0
      · rw [if_pos hx]
        exact h.nv
      · rw [if_neg hx]
        exact solveL_lits v l f _ _ (h.decide hx) (by have := solveM_decide h (firstV (propP (l ++ n) d).1 v.toNat 1); omega)
theorem solveP_lits {v : Int} {l : List (List Int)} (h0 : 0 ≤ v) (h1 : v ≤ 12) (hl : LitsV v l) (hn : l.length ≤ 1000) : LitsV v (solveP v l).2.2.1 :=
  solveL_lits v l 700 [] [] (solveOk_nil h0 h1 hl hn) (by unfold solveM; simp)

theorem solveP_true {v : Int} {l : List (List Int)} (h0 : 0 ≤ v) (h1 : v ≤ 12) (hl : LitsV v l) (hn : l.length ≤ 1000) (h : (solveP v l).1 = true) : (solveP v l).2.1.length = v.toNat ∧ (solveP v l).2.2.2 = true ∧ holdsB l (solveP v l).2.1 = true :=
  solveL_true v l 700 [] [] (solveOk_nil h0 h1 hl hn) (by unfold solveM; simp) h
theorem solveP_proof {v : Int} {l : List (List Int)} (h0 : 0 ≤ v) (h1 : v ≤ 12) (hl : LitsV v l) (hn : l.length ≤ 1000) (h : (solveP v l).2.2.2 = true) : checkD (solveP v l).2.2.1 [] l 0 = none ∧ ((solveP v l).1 = false → lastEmpty (solveP v l).2.2.1 = true) :=
  solveL_proof v l 700 [] [] (solveOk_nil h0 h1 hl hn) (by unfold solveM; simp) rfl h
/-- No model is found: there is none. -/
theorem solveP_none {v : Int} {l : List (List Int)} (h0 : 0 ≤ v) (h1 : v ≤ 12) (hl : LitsV v l) (hn : l.length ≤ 1000) (h : (solveP v l).2.2.2 = true) (hf : (solveP v l).1 = false) (m : List Bool) : holdsB l m = false := by
  obtain ⟨a, b⟩ := solveP_proof h0 h1 hl hn h
  cases hh : holdsB l m with
  | false => rfl
  | true =>
    have hc : (checkR l (solveP v l).2.2.1 []).1 = true := by
      unfold checkR
      rw [a]
      exact b hf
    exact absurd (holds_iff.1 hh) (refuted (asg_lit m) (litsOk_C (hl.ok h1)) (litsOk_C ((solveP_lits h0 h1 hl hn).ok h1)) hc)
theorem solveR_P {v : Int} {l : List (List Int)} (hg : goodB v l = true) : solveR v l = solveP v l := by
  unfold solveR
  rw [if_pos hg]

def unitsL (l : List Int) : List (List Int) := l.map fun x => [x]
theorem unitsL_length (l : List Int) : (unitsL l).length = l.length := by simp [unitsL]
theorem units_l (l : List Int) (hl : l.length ≤ 1048576) : ∀ (d i k : Nat) (y : List (List Int)), i + d = l.length → y.length = i → d < k → impl_units.l0 k y l (l.length : Int) (i : Int) = some (y ++ unitsL (l.drop i))
  | 0, i, k, y, h1, h2, hk => by
    obtain ⟨k, rfl⟩ : ∃ m, k = m + 1 := ⟨k - 1, by omega⟩
    simp only [impl_units.l0]
    rw [if_neg (by omega), List.drop_of_length_le (by omega)]
    simp [unitsL]
  | d + 1, i, k, y, h1, h2, hk => by
    obtain ⟨k, rfl⟩ : ∃ m, k = m + 1 := ⟨k - 1, by omega⟩
    simp only [impl_units.l0]
    rw [if_pos (by omega), if_pos (by omega), if_pos (by omega), if_pos (by omega), rd_nat l i (by omega), next64 (by omega), units_l l hl d (i + 1) k _ (by omega) (by simp [h2]) (by omega), drop_at l i (by omega), unitsL, unitsL, List.map_cons, List.append_assoc]
    rfl
theorem units_val (l : List Int) (hl : l.length ≤ 1048576) (k : Nat) (hk : l.length < k) : impl_units.f k l = some (unitsL l) := by
  unfold impl_units.f
  have := units_l l hl l.length 0 k [] (by omega) rfl hk
  simpa using this
theorem withSpec_l (v : Int) (g : List Int) (hg : g.length ≤ 1048576) (r : Bool × List Bool × List (List Int) × Bool) : ∀ (d i k : Nat) (y : List (List Int)), i + d = g.length → y.length ≤ 1048576 + i → (∀ q, 5000000 ≤ q → spec_l5Solve.f q v (y ++ unitsL (g.drop i)) = some r) → d + 5000001 ≤ k → spec_SolveWith.l0 k v y g (g.length : Int) (i : Int) = some r
  | 0, i, k, y, h1, h2, hs, hk => by
    obtain ⟨k, rfl⟩ : ∃ m, k = m + 1 := ⟨k - 1, by omega⟩
    have := hs k (by omega)
    rw [List.drop_of_length_le (by omega), show unitsL ([] : List Int) = [] from rfl, List.append_nil] at this
    simp only [spec_SolveWith.l0]
    rw [if_neg (by omega), this]
    rfl
  | d + 1, i, k, y, h1, h2, hs, hk => by
    obtain ⟨k, rfl⟩ : ∃ m, k = m + 1 := ⟨k - 1, by omega⟩
    have e : y ++ unitsL (g.drop i) = y ++ [[g[i]'(by omega)]] ++ unitsL (g.drop (i + 1)) := by
      rw [drop_at g i (by omega), unitsL, unitsL, List.map_cons, List.append_assoc]
      rfl
    simp only [spec_SolveWith.l0]
    rw [if_pos (by omega), if_pos (by omega), if_pos (by omega), if_pos (by omega), rd_nat g i (by omega), next64 (by omega)]
    exact withSpec_l v g hg r d (i + 1) k _ (by omega) (by simp; omega) (fun q hq => by rw [← e]; exact hs q hq) (by omega)
theorem units_litsV {v : Int} (h0 : 0 ≤ v) (h1 : v ≤ 12) {g : List Int} (h : isClauseB g v = true) : LitsV v (unitsL g) := by
  obtain ⟨_, b⟩ := isClause_facts h
  intro c hc
  obtain ⟨x, hx, rfl⟩ := List.mem_map.1 hc
  refine ⟨by simp, fun n hn => ?_⟩
  have : n = x := by simpa using hn
  subst this
  exact litB_small h0 h1 (b n hx)
def noR_ : Bool × List Bool × List (List Int) × Bool := (false, [], [], false)
def solveWithR (v : Int) (l : List (List Int)) (g : List Int) : Bool × List Bool × List (List Int) × Bool :=
  if goodB v l = true then (if isClauseB g v = true then (if l.length + g.length > 60 then noR_ else solveP v (l ++ unitsL g)) else noR_) else noR_
theorem specSolveWith_val (v : Int) (l : List (List Int)) (g : List Int) (hl : l.length ≤ 1048576) (hi : ∀ x ∈ l, x.length ≤ 1048576) (hg : g.length ≤ 1048576) (k : Nat) (hk : 8000000 ≤ k) : spec_SolveWith.f k v l g = some (solveWithR v l g) := by
  obtain ⟨k, rfl⟩ : ∃ m, k = m + 1 := ⟨k - 1, by omega⟩
  have hf : spec_SolveWith.j0 (k + 1) v l g true = some noR_ := by
    rw [spec_SolveWith.j0, if_pos rfl]
    rfl
  unfold spec_SolveWith.f spec_l4Given.f solveWithR
  rw [specGood_val v l hl hi (k + 1) (by omega), hf]
  simp only [Option.bind_some]
  cases hgo : goodB v l with
  | false => rfl
  | true =>
    obtain ⟨h0, h1, h60, _⟩ := goodB_facts hgo
    rw [if_pos rfl, if_pos rfl, clause_val v h0 h1 g hg (k + 1) (by omega)]
    simp only [Option.bind_some]
    cases hc : isClauseB g v with
    | false => rfl
    | true =>
      rw [if_pos rfl, if_pos rfl, w64 (by omega) (by omega)]
      by_cases h6 : l.length + g.length > 60
      · rw [decide_eq_true (by omega), hf, if_pos h6]
      · rw [decide_eq_false (by omega), if_neg h6]
        simp only [spec_SolveWith.j0]
        rw [if_neg Bool.false_ne_true, copy_val l hl hi k (by omega)]
        simp only [Option.bind_some]
        exact withSpec_l v g hg _ g.length 0 k l (by omega) (by omega) (fun q hq => specSolve_val v _ h0 h1 ((good_litsV hgo).app (units_litsV h0 h1 hc)) (by rw [List.length_append, unitsL_length]; omega) q hq) (by omega)
theorem implSolveWith_val (v : Int) (l : List (List Int)) (g : List Int) (hl : l.length ≤ 1048576) (hg : g.length ≤ 1048576) (k : Nat) (hk : 8000000 ≤ k) : impl_SolveWith.f k v l g = some (solveWithR v l g) := by
  unfold impl_SolveWith.f impl_isClause.f solveWithR
  rw [units_val g hg k (by omega)]
  simp only [Option.bind_some]
  rw [if_pos (by rw [unitsL_length]; omega), implGood_val]
  simp only [Option.bind_some]
  cases hgo : goodB v l with
  | false => rfl
  | true =>
    obtain ⟨h0, h1, h60, _⟩ := goodB_facts hgo
    rw [if_pos rfl, if_pos rfl]
    cases hc : isClauseB g v with
    | false => rfl
    | true =>
      rw [if_pos rfl, if_pos rfl, List.length_append, unitsL_length]
      by_cases h6 : l.length + g.length > 60
      · rw [if_pos h6, if_pos h6]
        rfl
      · rw [if_neg h6, if_neg h6]
        exact implSolve_val v _ h0 h1 ((good_litsV hgo).app (units_litsV h0 h1 hc)) (by rw [List.length_append, unitsL_length]; omega) k (by omega)
def followsR (v : Int) (l : List (List Int)) (c : List Int) : Bool × Bool :=
  if goodB v l = true then (if isClauseB c v = true then (if (solveWithR v l (negL c)).2.2.2 = true then (!(solveWithR v l (negL c)).1, true) else (false, false)) else (false, false)) else (false, false)
theorem negL_length (c : List Int) : (negL c).length = c.length := by simp [negL]
theorem implFollows_val (v : Int) (l : List (List Int)) (c : List Int) (hl : l.length ≤ 1048576) (hg : c.length ≤ 1048576) (k : Nat) (hk : 9000000 ≤ k) : impl_FollowsFrom.f k v l c = some (followsR v l c) := by
  obtain ⟨k, rfl⟩ : ∃ m, k = m + 1 := ⟨k - 1, by omega⟩
  have hf : impl_FollowsFrom.j0 (k + 1) v l c true = some (false, false) := by
    rw [impl_FollowsFrom.j0, if_pos rfl]
  unfold impl_FollowsFrom.f impl_isClause.f followsR
  rw [implGood_val, hf]
  simp only [Option.bind_some]
  cases hgo : goodB v l with
  | false => rfl
  | true =>
    rw [if_pos rfl, if_pos rfl]
    cases hc : isClauseB c v with
    | false => exact hf
    | true =>
      simp only [impl_FollowsFrom.j0, Bool.not_true]
      simp only [if_true]
      first | rw [if_neg Bool.false_ne_true] | skip
      rw [learn_val c hg k (by omega)]
      simp only [Option.bind_some]
      rw [show (c.map fun x => wrap64 (-x)) = negL c from rfl, implSolveWith_val v l (negL c) hl (by rw [negL_length]; exact hg) k (by omega)]
      simp only [Option.bind_some]
      cases (solveWithR v l (negL c)).2.2.2 <;> rfl

theorem holds_app {a b : List (List Int)} {m : List Bool} : holdsB (a ++ b) m = true ↔ holdsB a m = true ∧ holdsB b m = true := by
  rw [holds_iff, holds_iff, holds_iff]
  constructor
  · intro h
    exact ⟨fun c hc => h c (List.mem_append_left _ hc), fun c hc => h c (List.mem_append_right _ hc)⟩
  · rintro ⟨h1, h2⟩ c hc
    exact (List.mem_append.1 hc).elim (h1 c) (h2 c)
theorem holds_units {g : List Int} {m : List Bool} : holdsB (unitsL g) m = true ↔ ∀ x ∈ g, litAt m x = true := by
  rw [holds_iff]
  unfold unitsL
  constructor
  · intro h x hx
    have := h [x] (List.mem_map.2 ⟨x, hx, rfl⟩)
    simpa using this
  · intro h c hc
    obtain ⟨x, hx, rfl⟩ := List.mem_map.1 hc
    simpa using h x hx
theorem solveWith_cases {v : Int} {l : List (List Int)} {g : List Int} (h : (solveWithR v l g).2.2.2 = true) : goodB v l = true ∧ isClauseB g v = true ∧ l.length + g.length ≤ 60 ∧ solveWithR v l g = solveP v (l ++ unitsL g) := by
  unfold solveWithR at h ⊢
  cases hg : goodB v l with
  | false => rw [hg] at h; cases h
  | true =>
    cases hc : isClauseB g v with
    | false => rw [hg, hc] at h; cases h
    | true =>
      rw [hg, hc] at h
      simp only [if_true] at h ⊢
      by_cases h6 : l.length + g.length > 60
      · rw [if_pos h6] at h; cases h
      · rw [if_neg h6]
        exact ⟨by trivial, by trivial, by omega, rfl⟩
theorem with_lits {v : Int} {l : List (List Int)} {g : List Int} (hg : goodB v l = true) (hc : isClauseB g v = true) : LitsV v (l ++ unitsL g) := by
  obtain ⟨h0, h1, _, _⟩ := goodB_facts hg
  exact (good_litsV hg).app (units_litsV h0 h1 hc)
theorem solveWith_true {v : Int} {l : List (List Int)} {g : List Int} (h : (solveWithR v l g).2.2.2 = true) (hf : (solveWithR v l g).1 = true) : (solveWithR v l g).2.1.length = v.toNat ∧ holdsB l (solveWithR v l g).2.1 = true ∧ ∀ x ∈ g, litAt (solveWithR v l g).2.1 x = true := by
  obtain ⟨hg, hc, h6, e⟩ := solveWith_cases h
  obtain ⟨h0, h1, h60, _⟩ := goodB_facts hg
  rw [e] at hf ⊢
  obtain ⟨a, _, b⟩ := solveP_true h0 h1 (with_lits hg hc) (by rw [List.length_append, unitsL_length]; omega) hf
  obtain ⟨b1, b2⟩ := holds_app.1 b
  exact ⟨a, b1, holds_units.1 b2⟩
theorem solveWith_none {v : Int} {l : List (List Int)} {g : List Int} (h : (solveWithR v l g).2.2.2 = true) (hf : (solveWithR v l g).1 = false) (m : List Bool) (hm : holdsB l m = true) : ∃ x ∈ g, litAt m x = false := by
  obtain ⟨hg, hc, h6, e⟩ := solveWith_cases h
  obtain ⟨h0, h1, h60, _⟩ := goodB_facts hg
  rw [e] at hf h
  have := solveP_none h0 h1 (with_lits hg hc) (by rw [List.length_append, unitsL_length]; omega) h hf m
  cases hall : holdsB (unitsL g) m with
  | true =>
    rw [holds_app.2 ⟨hm, hall⟩] at this
    cases this
  | false =>
    apply Classical.byContradiction
    intro hn
    have : holdsB (unitsL g) m = true := holds_units.2 fun x hx => by
      cases hx' : litAt m x with
      | true => rfl
      | false => exact absurd ⟨x, hx, hx'⟩ hn
    rw [hall] at this
    cases this
theorem follows_ok {v : Int} {l : List (List Int)} {c : List Int} (h : (followsR v l c).2 = true) : goodB v l = true ∧ isClauseB c v = true ∧ (solveWithR v l (negL c)).2.2.2 = true ∧ (followsR v l c).1 = !(solveWithR v l (negL c)).1 := by
  unfold followsR at h ⊢
  cases hg : goodB v l with
  | false => rw [hg] at h; cases h
  | true =>
    cases hc : isClauseB c v with
    | false => rw [hg, hc] at h; cases h
    | true =>
      cases hs : (solveWithR v l (negL c)).2.2.2 with
      | false => rw [hg, hc, hs] at h; cases h
      | true => exact ⟨rfl, rfl, rfl, rfl⟩
theorem clause_litsC {v : Int} {c : List Int} (h0 : 0 ≤ v) (h1 : v ≤ 12) (h : isClauseB c v = true) : LitsC c := fun n hn => by
  have := litB_small h0 h1 ((isClause_facts h).2 n hn)
  omega
/-- A clause that follows holds in all models. -/
theorem follows_imp {v : Int} {l : List (List Int)} {c : List Int} (h : (followsR v l c).2 = true) (h1 : (followsR v l c).1 = true) (m : List Bool) (hm : holdsB l m = true) : c.any (litAt m) = true := by
  obtain ⟨hg, hc, hs, e⟩ := follows_ok h
  obtain ⟨h0, h12, _, _⟩ := goodB_facts hg
  have hcl := clause_litsC h0 h12 hc
  rw [h1] at e
  have hf : (solveWithR v l (negL c)).1 = false := by
    cases hx : (solveWithR v l (negL c)).1 with
    | false => rfl
    | true => rw [hx] at e; cases e
  obtain ⟨x, hx, hxf⟩ := solveWith_none hs hf m hm
  have hx' := (negL_mem hcl).1 hx
  obtain ⟨n0, n1, n2⟩ := hcl _ hx'
  have e2 := asg_lit m (-x) n0 n1 n2
  rw [Int.neg_neg, hxf] at e2
  exact List.any_eq_true.2 ⟨-x, hx', by simpa using e2.symm⟩

/-- A clause follows when it takes no model away. -/
theorem follows_count {v : Int} {l : List (List Int)} {c : List Int} (h : (followsR v l c).2 = true) : (followsR v l c).1 = (countR v l == countR v (l ++ [c])) := by
  obtain ⟨hg, hc, hs, e⟩ := follows_ok h
  obtain ⟨h0, h12, _, _⟩ := goodB_facts hg
  have hcl := clause_litsC h0 h12 hc
  have hsub : ∀ m, holdsB (l ++ [c]) m = true → holdsB l m = true := fun m hm => (holds_app.1 hm).1
  cases hf : (followsR v l c).1 with
  | true =>
    have himp := follows_imp h hf
    rw [countR_eq (l := l) (l' := l ++ [c]) fun m => ?_, BEq.rfl]
    rw [Bool.eq_iff_iff]
    exact ⟨fun hm => holds_app.2 ⟨hm, holds_iff.2 fun x hx => by rw [List.mem_singleton] at hx; rw [hx]; exact himp m hm⟩, hsub m⟩
  | false =>
    rw [e] at hf
    have hf' : (solveWithR v l (negL c)).1 = true := by simpa using hf
    obtain ⟨a, b1, b2⟩ := solveWith_true hs hf'
    have := countR_lt h12 hsub a b1 (by
      cases hx : holdsB (l ++ [c]) (solveWithR v l (negL c)).2.1 with
      | false => rfl
      | true =>
        obtain ⟨n, hn, hnt⟩ := List.any_eq_true.1 (holds_iff.1 (holds_app.1 hx).2 c List.mem_cons_self)
        obtain ⟨n0, n1, n2⟩ := hcl n hn
        have := b2 (-n) ((negL_mem hcl).2 (by rw [Int.neg_neg]; exact hn))
        rw [asg_lit _ n n0 n1 n2, hnt] at this
        cases this)
    symm
    rw [beq_eq_false_iff_ne]
    omega
theorem good_snoc {v : Int} {l : List (List Int)} {c : List Int} (hg : goodB v l = true) (hc : isClauseB c v = true) (h : l.length < 60) : goodB v (l ++ [c]) = true := by
  obtain ⟨h0, h1, _, h3⟩ := goodB_facts hg
  unfold goodB
  rw [decide_eq_true h0, decide_eq_true h1, decide_eq_true (by simp; omega : (l ++ [c]).length ≤ 60)]
  simp only [Bool.true_and, List.all_eq_true]
  intro x hx
  rcases List.mem_append.1 hx with hx | hx
  · exact h3 x hx
  · rw [List.mem_singleton] at hx
    rw [hx]
    exact hc

theorem specFollows_val (v : Int) (l : List (List Int)) (c : List Int) (hl : l.length ≤ 1048576) (hi : ∀ x ∈ l, x.length ≤ 1048576) (hg : c.length ≤ 1048576) (k : Nat) (hk : 9000000 ≤ k) : spec_FollowsFrom.f k v l c = some (followsR v l c) := by
  obtain ⟨k, rfl⟩ : ∃ m, k = m + 1 := ⟨k - 1, by omega⟩
  have hf : spec_FollowsFrom.j0 (k + 1) v l c true = some (false, false) := by
    rw [spec_FollowsFrom.j0, if_pos rfl]
  unfold spec_FollowsFrom.f spec_l4Given.f followsR
  rw [specGood_val v l hl hi (k + 1) (by omega), hf]
  simp only [Option.bind_some]
  cases hgo : goodB v l with
  | false => rfl
  | true =>
    obtain ⟨h0, h1, h60, _⟩ := goodB_facts hgo
    rw [if_pos rfl, if_pos rfl, clause_val v h0 h1 c hg (k + 1) (by omega)]
    simp only [Option.bind_some]
    cases hc : isClauseB c v with
    | false => exact hf
    | true =>
      simp only [spec_FollowsFrom.j0, Bool.not_true]
      simp only [if_true]
      first | rw [if_neg Bool.false_ne_true] | skip
      rw [negate_val c hg k (by omega)]
      simp only [Option.bind_some]
      rw [show (c.map fun x => wrap64 (-x)) = negL c from rfl, specSolveWith_val v l (negL c) hl hi (by rw [negL_length]; exact hg) k (by omega)]
      simp only [Option.bind_some]
      split <;> rfl

def putL (n : Int) : List Int → List Int
  | [] => [n]
  | x :: r => if x < n then x :: putL n r else if x = n then x :: r else n :: x :: r
/-- The whole numbers from a on, d of them. -/
def intsFrom : Int → Nat → List Int
  | _, 0 => []
  | a, d + 1 => a :: intsFrom (a + 1) d
theorem intsFrom_mem : ∀ (d : Nat) (a x : Int), x ∈ intsFrom a d ↔ a ≤ x ∧ x < a + d
  | 0, a, x => by
    simp only [intsFrom, List.not_mem_nil, false_iff]
    omega
  | d + 1, a, x => by
    rw [intsFrom, List.mem_cons, intsFrom_mem d (a + 1) x]
    omega
theorem intsFrom_length : ∀ (d : Nat) (a : Int), (intsFrom a d).length = d
  | 0, a => rfl
  | d + 1, a => by rw [intsFrom, List.length_cons, intsFrom_length d]
theorem putL_head (n : Int) (l : List Int) (h : ∀ x ∈ l, n < x) : putL n l = n :: l := by
  cases l with
  | nil => rfl
  | cons x r =>
    have := h x List.mem_cons_self
    unfold putL
    rw [if_neg (by omega), if_neg (by omega)]
theorem putL_filter (p : Int → Bool) (n : Int) : ∀ (d : Nat) (a : Int), a ≤ n → n < a + d → putL n ((intsFrom a d).filter p) = (intsFrom a d).filter fun x => p x || x == n
  | 0, a, h1, h2 => by omega
  | d + 1, a, h1, h2 => by
    rw [intsFrom]
    by_cases e : a = n
    · subst e
      have hn : (intsFrom (a + 1) d).filter (fun x => p x || x == a) = (intsFrom (a + 1) d).filter p := List.filter_congr fun x hx => by
        have := (intsFrom_mem d (a + 1) x).1 hx
        have : (x == a) = false := by simp; omega
        rw [this, Bool.or_false]
      rw [List.filter_cons_of_pos (p := fun x => p x || x == a) (by simp), hn]
      cases hp : p a with
      | true =>
        rw [List.filter_cons_of_pos hp, putL, if_neg (by omega), if_pos rfl]
      | false =>
        rw [List.filter_cons_of_neg (by simp [hp])]
        exact putL_head a _ fun x hx => by
          have := (intsFrom_mem d (a + 1) x).1 (List.mem_filter.1 hx).1
          omega
    · have ih := putL_filter p n d (a + 1) (by omega) (by omega)
      have hne : (a == n) = false := by simp [e]
      cases hp : p a with
      | true =>
        rw [List.filter_cons_of_pos hp, List.filter_cons_of_pos (by simp [hp]), putL, if_pos (by omega), ih]
      | false =>
        rw [List.filter_cons_of_neg (by simp [hp]), List.filter_cons_of_neg (by simp [hp, hne]), ih]
theorem specPut_l (l : List Int) (n : Int) (hl : l.length ≤ 100000) : ∀ (d i k : Nat), i + d = l.length → d + 1 ≤ k → spec_l1Put.l0 k l n (i : Int) = some (l.take i ++ putL n (l.drop i))
  | 0, i, k, h1, hk => by
    obtain ⟨k, rfl⟩ : ∃ m, k = m + 1 := ⟨k - 1, by omega⟩
    have hi : i = l.length := by omega
    subst hi
    simp only [spec_l1Put.l0, Option.bind_some, List.nil_append, List.length_nil, List.length_append, List.length_take, List.length_drop, List.length_singleton, Int.toNat_natCast]
    rw [if_neg (by omega), if_pos (by omega), if_pos (by omega), if_pos (by omega), if_pos (by omega), if_pos (by omega)]
    simp [putL]
  | d + 1, i, k, h1, hk => by
    obtain ⟨k, rfl⟩ : ∃ m, k = m + 1 := ⟨k - 1, by omega⟩
    have hil : i < l.length := by omega
    have hd := drop_at l i hil
    have ih := specPut_l l n hl d (i + 1) k (by omega) (by omega)
    simp only [spec_l1Put.l0, Option.bind_some, List.nil_append, List.length_nil, List.length_append, List.length_take, List.length_drop, List.length_singleton, Int.toNat_natCast]
    rw [if_pos (by omega), if_pos (by omega), rd_nat l i hil, next64 (by omega), hd]
    by_cases h : l[i] < n
    · rw [if_pos h, ih, putL, if_pos h, List.take_succ_eq_append_getElem hil, List.append_assoc]
      rfl
    · rw [if_neg h, putL, if_neg h]
      by_cases e : l[i] = n
      · rw [if_pos e, if_pos e, ← hd, List.take_append_drop]
      · rw [if_neg e, if_neg e, if_pos (by omega), if_pos (by omega), if_pos (by omega), if_pos (by omega), ← hd]
        simp
theorem specPut_val (l : List Int) (n : Int) (hl : l.length ≤ 100000) (k : Nat) (hk : 200000 ≤ k) : spec_l1Put.f k l n = some (putL n l) := by
  unfold spec_l1Put.f
  have := specPut_l l n hl l.length 0 k (by omega) (by omega)
  simpa using this
/-- The literals that stand. -/
def allS (v : Int) (s : List Int) : List Int := (intsFrom (-v) (2 * v.toNat + 1)).filter fun x => hasB s x
theorem allS_length (v : Int) (s : List Int) (h1 : v ≤ 12) : (allS v s).length ≤ 25 := by
  unfold allS
  refine Nat.le_trans (List.length_filter_le _ _) ?_
  rw [intsFrom_length]
  omega
theorem allS_put (v : Int) (s : List Int) (n : Int) (h1 : -v ≤ n) (h2 : n ≤ v) : putL n (allS v s) = allS v (s ++ [n]) := by
  unfold allS
  rw [putL_filter _ n _ (-v) h1 (by omega)]
  refine List.filter_congr fun x _ => ?_
  unfold hasB
  rw [List.any_append]
  congr 1
  simp [BEq.comm]
theorem specPure_1 (v : Int) (h0 : 0 ≤ v) (hv : v ≤ 12) (l : List (List Int)) (N I : Int) (c : List Int) (hc : c.length ≤ 1000) (hl : ∀ n ∈ c, -v ≤ n ∧ n ≤ v) : ∀ (d j k : Nat) (s : List Int), j + d = c.length → 200000 ≤ k →
    spec_PureIn.l1 (d + 1 + k) (allS v s) l N I c (c.length : Int) (j : Int) = spec_PureIn.l0 k (allS v (s ++ c.drop j)) l N (wrap64 (I + 1))
  | 0, j, k, s, h1, hk => by
    rw [show 0 + 1 + k = k + 1 by omega]
    simp only [spec_PureIn.l1]
    rw [if_neg (by omega), List.drop_of_length_le (by omega), List.append_nil]
  | d + 1, j, k, s, h1, hk => by
    have hj : j < c.length := by omega
    obtain ⟨a1, a2⟩ := hl c[j] (List.getElem_mem _)
    have hal := allS_length v s hv
    rw [show d + 1 + 1 + k = (d + 1 + k) + 1 by omega]
    simp only [spec_PureIn.l1]
    rw [if_pos (by omega), if_pos (by omega), if_pos (by omega), rd_nat c j hj, next64 (by omega), specPut_val _ _ (by omega) _ (by omega)]
    simp only [Option.bind_some]
    rw [allS_put v s c[j] a1 a2, specPure_1 v h0 hv l N I c hc hl d (j + 1) k (s ++ [c[j]]) (by omega) hk, drop_at c j hj]
    simp
def pureS (v : Int) (s : List Int) : List Int := (allS v s).filter fun x => !hasB s (-x)
theorem allS_has (v : Int) (s : List Int) (hs : ∀ n ∈ s, -v ≤ n ∧ n ≤ v) (x : Int) : (allS v s).any (· == x) = hasB s x := by
  rw [Bool.eq_iff_iff]
  unfold allS
  rw [List.any_eq_true]
  constructor
  · rintro ⟨y, hy, he⟩
    have : y = x := by simpa using he
    subst this
    exact (List.mem_filter.1 hy).2
  · intro h
    unfold hasB at h
    obtain ⟨y, hy, he⟩ := List.any_eq_true.1 h
    have : y = x := by simpa using he
    subst this
    obtain ⟨a, b⟩ := hs y hy
    exact ⟨y, List.mem_filter.2 ⟨(intsFrom_mem _ _ _).2 ⟨a, by omega⟩, h⟩, by simp⟩
theorem specPure_2 (v : Int) (h0 : 0 ≤ v) (hv : v ≤ 12) (s : List Int) (hs : ∀ n ∈ s, -v ≤ n ∧ n ≤ v) (l : List Int) (hl : l.length ≤ 1000) (hlv : ∀ n ∈ l, -v ≤ n ∧ n ≤ v) : ∀ (d i k : Nat) (y : List Int), i + d = l.length → y.length ≤ i → d + 200000 ≤ k →
    spec_PureIn.l2 k (allS v s) y l (l.length : Int) (i : Int) = some (y ++ (l.drop i).filter fun x => !hasB s (-x), true)
  | 0, i, k, y, h1, h2, hk => by
    obtain ⟨k, rfl⟩ : ∃ m, k = m + 1 := ⟨k - 1, by omega⟩
    simp only [spec_PureIn.l2]
    rw [if_neg (by omega), List.drop_of_length_le (by omega)]
    simp
  | d + 1, i, k, y, h1, h2, hk => by
    obtain ⟨k, rfl⟩ : ∃ m, k = m + 1 := ⟨k - 1, by omega⟩
    have hil : i < l.length := by omega
    have hal := allS_length v s hv
    obtain ⟨b1, b2⟩ := hlv l[i] (List.getElem_mem _)
    simp only [spec_PureIn.l2]
    rw [if_pos (by omega), if_pos (by omega), if_pos (by omega), rd_nat l i hil, next64 (by omega), neg64 (by omega) (by omega), has_val _ _ (by omega) k (by omega), allS_has v s hs, if_pos (by omega), drop_at l i hil]
    simp only [Option.bind_some]
    cases h : hasB s (-l[i]) with
    | true =>
      rw [if_pos rfl, List.filter_cons_of_neg (by simp [h])]
      exact specPure_2 v h0 hv s hs l hl hlv d (i + 1) k y (by omega) (by omega) (by omega)
    | false =>
      rw [if_neg Bool.false_ne_true, List.filter_cons_of_pos (by simp [h])]
      rw [specPure_2 v h0 hv s hs l hl hlv d (i + 1) k (y ++ [l[i]]) (by omega) (by simp; omega) (by omega)]
      simp
theorem specPure_0 (B : Nat) (hB : B = 1002) (v : Int) (h0 : 0 ≤ v) (hv : v ≤ 12) (l : List (List Int)) (hl : l.length ≤ 1000) (hc : ∀ c ∈ l, c.length ≤ 1000 ∧ ∀ n ∈ c, -v ≤ n ∧ n ≤ v) : ∀ (d i k : Nat) (s : List Int), i + d = l.length → (∀ n ∈ s, -v ≤ n ∧ n ≤ v) → d * B + 300000 ≤ k →
    spec_PureIn.l0 k (allS v s) l (l.length : Int) (i : Int) = some (pureS v (s ++ (l.drop i).flatten), true)
  | 0, i, k, s, h1, h2, hk => by
    obtain ⟨k, rfl⟩ : ∃ m, k = m + 1 := ⟨k - 1, by omega⟩
    simp only [spec_PureIn.l0]
    have hal := allS_length v s hv
    rw [if_neg (by omega), List.drop_of_length_le (by omega)]
    have := specPure_2 v h0 hv s h2 (allS v s) (by omega) (fun n hn => by
      have := (intsFrom_mem _ _ _).1 (List.mem_filter.1 hn).1
      omega) (allS v s).length 0 k [] (by omega) (by simp) (by omega)
    rw [show ((0 : Nat) : Int) = 0 from rfl] at this
    rw [this]
    simp [pureS]
  | d + 1, i, k, s, h1, h2, hk => by
    obtain ⟨k, rfl⟩ : ∃ m, k = m + 1 := ⟨k - 1, by omega⟩
    have hil : i < l.length := by omega
    obtain ⟨c1, c2⟩ := hc l[i] (List.getElem_mem _)
    have hm : (d + 1) * B = d * B + B := Nat.succ_mul _ _
    simp only [spec_PureIn.l0]
    rw [if_pos (by omega), if_pos (by omega), if_pos (by omega), rdL_nat l i hil]
    obtain ⟨k', hk', rfl⟩ : ∃ k', 200000 ≤ k' ∧ k = l[i].length + 1 + k' := ⟨k - l[i].length - 1, by omega, by omega⟩
    have h := specPure_1 v h0 hv l (l.length : Int) (i : Int) l[i] c1 c2 l[i].length 0 k' s (by omega) hk'
    rw [show ((0 : Nat) : Int) = 0 from rfl, List.drop_zero, next64 (by omega)] at h
    rw [h, List.drop_eq_getElem_cons hil, List.flatten_cons, ← List.append_assoc]
    exact specPure_0 B hB v h0 hv l hl hc d (i + 1) k' (s ++ l[i]) (by omega) (fun n hn => (List.mem_append.1 hn).elim (h2 n) (c2 n)) (by omega)
theorem implPure_l (v : Int) (h0 : 0 ≤ v) (hv : v ≤ 12) (s : List Int) : ∀ (d : Nat) (x : Int) (k : Nat) (y : List Int), x + d = v + 1 → -v ≤ x → y.length + d ≤ 1000 → d + 10 ≤ k →
    impl_PureIn.l0 k v s y x = some (y ++ (intsFrom x d).filter (fun n => hasB s n && !hasB s (-n)), true)
  | 0, x, k, y, h1, h2, h3, hk => by
    obtain ⟨k, rfl⟩ : ∃ m, k = m + 1 := ⟨k - 1, by omega⟩
    simp only [impl_PureIn.l0]
    rw [if_neg (by omega)]
    simp [intsFrom]
  | d + 1, x, k, y, h1, h2, h3, hk => by
    obtain ⟨k, rfl⟩ : ∃ m, k = m + 1 := ⟨k - 1, by omega⟩
    have ih := fun y' hy => implPure_l v h0 hv s d (x + 1) k y' (by omega) (by omega) hy (by omega)
    simp only [impl_PureIn.l0, slices_Contains_int_int.f, any_flip, Option.bind_some]
    rw [if_pos (by omega), neg64 (by omega) (by omega), w64 (x := x + 1) (by omega) (by omega), if_pos (show y.length < 17592186044416 by omega), ih y (by omega), ih (y ++ [x]) (by rw [List.length_append, List.length_singleton]; omega), intsFrom]
    simp only [show ∀ z, (s.any fun q => q == z) = hasB s z from fun _ => rfl]
    cases h : hasB s x with
    | false =>
      rw [if_neg Bool.false_ne_true, List.filter_cons_of_neg (by simp [h])]
    | true =>
      rw [if_pos rfl]
      cases h' : hasB s (-x) with
      | true => rw [if_pos rfl, List.filter_cons_of_neg (by simp [h'])]
      | false =>
        rw [if_neg Bool.false_ne_true, List.filter_cons_of_pos (by simp [h, h'])]
        simp
def pureR (v : Int) (l : List (List Int)) : List Int × Bool := if goodB v l = true then (pureS v l.flatten, true) else ([], false)
theorem flat_small : ∀ (l : List (List Int)), (∀ c ∈ l, c.length ≤ 12) → l.flatten.length ≤ l.length * 12
  | [], _ => by simp
  | x :: r, h => by
    have h1 := flat_small r (fun c hc => h c (List.mem_cons_of_mem _ hc))
    have h2 := h x List.mem_cons_self
    rw [List.flatten_cons, List.length_append, List.length_cons, Nat.succ_mul]
    omega
theorem specPure_val (v : Int) (l : List (List Int)) (hl : l.length ≤ 1048576) (hi : ∀ x ∈ l, x.length ≤ 1048576) (k : Nat) (hk : 5000000 ≤ k) : spec_PureIn.f k v l = some (pureR v l) := by
  unfold spec_PureIn.f pureR
  rw [specGood_val v l hl hi k hk]
  simp only [Option.bind_some]
  cases hg : goodB v l with
  | false => rfl
  | true =>
    obtain ⟨h0, h1, h60, _⟩ := goodB_facts hg
    simp only [if_true]
    have h := specPure_0 1002 rfl v h0 h1 l (by omega) (fun c hc => ⟨by have := (goodB_lits hg c hc).1; omega, fun n hn => by have := (goodB_lits hg c hc).2 n hn; omega⟩) l.length 0 k [] (by omega) (fun n hn => by simp at hn) (by omega)
    have hz : allS v [] = [] := by unfold allS; simp [hasB]
    rw [hz] at h
    simpa using h
theorem implPure_val (v : Int) (l : List (List Int)) (k : Nat) (hk : 5000000 ≤ k) : impl_PureIn.f k v l = some (pureR v l) := by
  unfold impl_PureIn.f pureR
  rw [implGood_val]
  simp only [Option.bind_some]
  cases hg : goodB v l with
  | false => rfl
  | true =>
    obtain ⟨h0, h1, h60, _⟩ := goodB_facts hg
    simp only [if_true]
    have hf := flat_small l (fun c hc => (goodB_lits hg c hc).1)
    unfold slices_Concat_int_int.f
    rw [if_pos (by omega)]
    simp only [Option.bind_some]
    rw [neg64 (by omega) (by omega)]
    have h := implPure_l v h0 h1 l.flatten (2 * v.toNat + 1) (-v) k [] (by omega) (by omega) (by rw [List.length_nil]; omega) (by omega)
    rw [h]
    unfold pureS allS
    rw [List.filter_filter, List.nil_append]
    congr 2
    refine List.filter_congr fun x _ => ?_
    exact Bool.and_comm _ _
theorem pureR_length (v : Int) (l : List (List Int)) : (pureR v l).1.length ≤ 1048576 := by
  unfold pureR
  cases hg : goodB v l with
  | false => simp
  | true =>
    obtain ⟨h0, h1, h60, _⟩ := goodB_facts hg
    rw [if_pos rfl]
    unfold pureS
    have := allS_length v l.flatten h1
    exact Nat.le_trans (List.length_filter_le _ _) (by omega)

/-- A model with one literal set. -/
def setLit (m : List Bool) (y : Int) : List Bool := m.set (vab y - 1).toNat (decide (0 < y))
theorem setLit_same {m : List Bool} {y : Int} (h0 : y ≠ 0) (h1 : -(m.length : Int) ≤ y) (h2 : y ≤ (m.length : Int)) (hm : m.length ≤ 12) : litAt (setLit m y) y = true := by
  unfold litAt rdOf setLit
  rw [List.getD_eq_getElem?_getD, List.getElem?_set_self (by rw [vab_abs (by omega) (by omega)]; split <;> omega)]
  simp
theorem setLit_far {m : List Bool} {y n : Int} (h0 : y ≠ 0) (h1 : -12 ≤ y) (h2 : y ≤ 12) (n0 : n ≠ 0) (n1 : -12 ≤ n) (n2 : n ≤ 12) (h : n ≠ y) (h' : n ≠ -y) : litAt (setLit m y) n = litAt m n := by
  unfold litAt rdOf setLit
  rw [List.getD_eq_getElem?_getD, List.getD_eq_getElem?_getD, List.getElem?_set_ne (by rw [vab_abs h1 h2, vab_abs n1 n2]; split <;> split <;> omega)]
theorem setLit_holds {l : List (List Int)} (hl : ∀ c ∈ l, LitsC c) {m : List Bool} {y : Int} (h0 : y ≠ 0) (h1 : -(m.length : Int) ≤ y) (h2 : y ≤ (m.length : Int)) (hm : m.length ≤ 12) (hp : ∀ c ∈ l, -y ∉ c) (h : holdsB l m = true) : holdsB l (setLit m y) = true := by
  rw [holds_iff] at h ⊢
  intro c hc
  obtain ⟨n, hn, hnt⟩ := List.any_eq_true.1 (h c hc)
  refine List.any_eq_true.2 ⟨n, hn, ?_⟩
  obtain ⟨n0, n1, n2⟩ := hl c hc n hn
  by_cases e : n = y
  · rw [e]
    exact setLit_same h0 h1 h2 hm
  · rw [setLit_far h0 (by omega) (by omega) n0 n1 n2 e (fun e2 => hp c hc (e2 ▸ hn))]
    exact hnt
theorem pureS_mem {v : Int} {l : List (List Int)} (hg : goodB v l = true) {y : Int} (hy : y ∈ pureS v l.flatten) : y ≠ 0 ∧ -v ≤ y ∧ y ≤ v ∧ ∀ c ∈ l, -y ∉ c := by
  have hlv := good_litsV hg
  unfold pureS allS at hy
  obtain ⟨h1, h2⟩ := List.mem_filter.1 hy
  obtain ⟨_, h4⟩ := List.mem_filter.1 h1
  unfold hasB at h2 h4
  obtain ⟨z, hz, hzy⟩ := List.any_eq_true.1 h4
  have : z = y := by simpa using hzy
  subst this
  obtain ⟨c, hc, hzc⟩ := List.mem_flatten.1 hz
  obtain ⟨a, b, d⟩ := (hlv c hc).2 z hzc
  refine ⟨a, b, d, fun c' hc' hn => ?_⟩
  rw [Bool.not_eq_true', List.any_eq_false] at h2
  exact h2 (-z) (List.mem_flatten.2 ⟨c', hc', hn⟩) (by simp)
/-- What stands one way alone may be so where anything may. -/
theorem pure_solve {v : Int} {l : List (List Int)} (hg : goodB v l = true) {y : Int} (hy : y ∈ pureS v l.flatten) (h7 : (solveR v l).2.2.2 = true) (h8 : (solveWithR v l [y]).2.2.2 = true) : (solveWithR v l [y]).1 = (solveR v l).1 := by
  obtain ⟨h0, h1, h60, _⟩ := goodB_facts hg
  have hlv := good_litsV hg
  obtain ⟨y0, y1, y2, y3⟩ := pureS_mem hg hy
  rw [solveR_P hg] at h7 ⊢
  cases hs : (solveP v l).1 with
  | true =>
    cases hw : (solveWithR v l [y]).1 with
    | true => rfl
    | false =>
      obtain ⟨a, _, b⟩ := solveP_true h0 h1 hlv (by omega) hs
      obtain ⟨x, hx, hxf⟩ := solveWith_none h8 hw _ (setLit_holds (good_litsC hg) y0 (by omega) (by omega) (by omega) y3 b)
      rw [List.mem_singleton] at hx
      rw [hx, setLit_same y0 (by omega) (by omega) (by omega)] at hxf
      cases hxf
  | false =>
    cases hw : (solveWithR v l [y]).1 with
    | false => rfl
    | true =>
      obtain ⟨_, b1, _⟩ := solveWith_true h8 hw
      have := solveP_none h0 h1 hlv (by omega) h7 hs (solveWithR v l [y]).2.1
      rw [b1] at this
      cases this

/-- What Propagate returns, for all arguments. -/
def propagateR (v : Int) (l : List (List Int)) (g : List Int) : List Int × Bool × Bool := if goodB v l = true then (if isClauseB g v = true then ((propP l g).1, (propP l g).2, true) else ([], false, false)) else ([], false, false)
theorem specPropagate_val (v : Int) (l : List (List Int)) (g : List Int) (hl : l.length ≤ 1048576) (hi : ∀ x ∈ l, x.length ≤ 1048576) (hc : g.length ≤ 1048576) (k : Nat) (hk : 5000000 ≤ k) : spec_Propagate.f k v l g = some (propagateR v l g) := by
  unfold spec_Propagate.f spec_l4Given.f propagateR
  rw [specGood_val v l hl hi k hk]
  simp only [Option.bind_some]
  cases hg : goodB v l with
  | false => rfl
  | true =>
    obtain ⟨h0, h1, h60, _⟩ := goodB_facts hg
    simp only [if_true]
    rw [clause_val v h0 h1 g hc k (by omega)]
    simp only [Option.bind_some]
    cases hcl : isClauseB g v with
    | false => rfl
    | true =>
      have := (isClause_facts hcl).1
      simp only [if_true]
      rw [specProp_val l (good_litsOk hg) (by omega) g (by omega) k (by omega)]
      rfl
theorem implPropagate_val (v : Int) (l : List (List Int)) (g : List Int) (k : Nat) (hk : 5000000 ≤ k) : impl_Propagate.f k v l g = some (propagateR v l g) := by
  unfold impl_Propagate.f impl_isClause.f propagateR
  rw [implGood_val]
  simp only [Option.bind_some]
  cases hg : goodB v l with
  | false => rfl
  | true =>
    obtain ⟨h0, h1, h60, _⟩ := goodB_facts hg
    simp only [if_true]
    cases hcl : isClauseB g v with
    | false => rfl
    | true =>
      have := (isClause_facts hcl).1
      simp only [if_true]
      rw [implProp_val l (good_litsOk hg) (by omega) g (by omega) k (by omega)]
      rfl

theorem decideFrom_both (v : Int) (l : List (List Int)) (g : List Int) (hl : l.length ≤ 1048576) (hi : ∀ x ∈ l, x.length ≤ 1048576) (hc : g.length ≤ 1048576) : ∃ r : Int × Bool, (∀ k, 5000000 ≤ k → spec_DecideFrom.f k v l g = some r) ∧ ∀ k, 5000000 ≤ k → impl_DecideFrom.f k v l g = some r := by
  have hS : ∀ k, 5000000 ≤ k → spec_DecideFrom.f k v l g = (some (propagateR v l g)).bind fun bt156 => (if bt156.2.2 = true then (if bt156.2.1 = true then (some (0, false)) else ((spec_l5First.f k v bt156.1).bind fun t161 => (if t161 = 0 then (some (0, false)) else ((spec_l5First.f k v bt156.1).bind fun t162 => (some (t162, true)))))) else (some (0, false))) := by
    intro k hk
    unfold spec_DecideFrom.f
    rw [specPropagate_val v l g hl hi hc k hk]
  have hI : ∀ k, 5000000 ≤ k → impl_DecideFrom.f k v l g = (some (propagateR v l g)).bind fun bt186 => (if bt186.2.2 = true then (if bt186.2.1 = true then (some (0, false)) else ((impl_decide.f k v bt186.1).bind fun bt191 => (some (bt191.1, bt191.2)))) else (some (0, false))) := by
    intro k hk
    unfold impl_DecideFrom.f
    rw [implPropagate_val v l g k hk]
  simp only [Option.bind_some] at hS hI
  by_cases hok : (propagateR v l g).2.2 = true
  · by_cases hbad : (propagateR v l g).2.1 = true
    · exact ⟨(0, false), fun k hk => by rw [hS k hk, if_pos hok, if_pos hbad], fun k hk => by rw [hI k hk, if_pos hok, if_pos hbad]⟩
    · have hf : 0 ≤ v ∧ v ≤ 12 ∧ (propagateR v l g).1.length ≤ 100000 := by
        unfold propagateR at hok ⊢
        cases hg : goodB v l with
        | false => rw [hg] at hok; simp at hok
        | true =>
          obtain ⟨h0, h1, _, _⟩ := goodB_facts hg
          cases hcl : isClauseB g v with
          | false => simp; exact ⟨h0, h1⟩
          | true =>
            have h12 := (isClause_facts hcl).1
            have := propL_length l 13 g
            simp only [if_true]
            unfold propP
            exact ⟨h0, h1, by omega⟩
      obtain ⟨h0, h1, h2⟩ := hf
      refine ⟨(firstV (propagateR v l g).1 v.toNat 1, decide (firstV (propagateR v l g).1 v.toNat 1 ≠ 0)), fun k hk => ?_, fun k hk => ?_⟩
      · rw [hS k hk, if_pos hok, if_neg hbad, specFirst_val v _ h2 h0 h1 k (by omega)]
        simp only [Option.bind_some]
        by_cases hz : firstV (propagateR v l g).1 v.toNat 1 = 0
        · rw [if_pos hz, hz]
          rfl
        · rw [if_neg hz]
          simp [hz]
      · rw [hI k hk, if_pos hok, if_neg hbad, implDecide_val v _ h0 h1 k (by omega)]
        rfl
  · exact ⟨(0, false), fun k hk => by rw [hS k hk, if_neg hok], fun k hk => by rw [hI k hk, if_neg hok]⟩

theorem lit_val (m : List Bool) (n : Int) (h0 : n ≠ 0) (h1 : -(m.length : Int) ≤ n) (h2 : n ≤ (m.length : Int)) (hm : m.length ≤ 12) : spec_l4Lit.f m n = some (litAt m n) := by
  unfold spec_l4Lit.f litAt
  rw [vab_small (by omega) (by omega)]
  by_cases hn : n < 0
  · rw [if_pos hn, neg64 (by omega) (by omega), w64 (by omega) (by omega), if_pos (by omega), if_pos (by omega), if_pos (by omega)]
    have : decide (0 < n) = false := decide_eq_false (by omega)
    rw [this]
    cases rdOf false m (-n - 1) <;> rfl
  · rw [if_neg hn, w64 (by omega) (by omega), if_pos (by omega), if_pos (by omega), if_neg (by omega)]
    have : decide (0 < n) = true := decide_eq_true (by omega)
    rw [this]
    cases rdOf false m (n - 1) <;> rfl
theorem holds_in (m : List Bool) (hm : m.length ≤ 12) (l : List (List Int)) (N I : Int) (c : List Int) (hc : c.length ≤ 12) (hl : ∀ n ∈ c, n ≠ 0 ∧ -(m.length : Int) ≤ n ∧ n ≤ (m.length : Int)) : ∀ (d j k : Nat) (s : Bool), j + d = c.length →
    spec_l4Holds.l1 (d + 1 + k) m s l N I c (c.length : Int) (j : Int) = if (s || (c.drop j).any (litAt m)) = true then spec_l4Holds.l0 k m l N (wrap64 (I + 1)) else some false
  | 0, j, k, s, h1 => by
    rw [show 0 + 1 + k = k + 1 by omega]
    simp only [spec_l4Holds.l1]
    rw [if_neg (by omega), List.drop_of_length_le (by omega)]
    simp
  | d + 1, j, k, s, h1 => by
    have hj : j < c.length := by omega
    obtain ⟨a0, a1, a2⟩ := hl c[j] (List.getElem_mem _)
    rw [show d + 1 + 1 + k = (d + 1 + k) + 1 by omega]
    simp only [spec_l4Holds.l1]
    rw [if_pos (by omega), if_pos (by omega), if_pos (by omega), rd_nat c j hj, next64 (by omega), lit_val m c[j] a0 a1 a2 hm, drop_at c j hj, List.any_cons]
    simp only [Option.bind_some]
    rw [holds_in m hm l N I c hc hl d (j + 1) k true (by omega), holds_in m hm l N I c hc hl d (j + 1) k (litAt m c[j]) (by omega)]
    cases s <;> simp
theorem holds_out (m : List Bool) (hm : m.length ≤ 12) (l : List (List Int)) (hl : l.length ≤ 1048576) (hc : ∀ c ∈ l, c.length ≤ 12 ∧ ∀ n ∈ c, n ≠ 0 ∧ -(m.length : Int) ≤ n ∧ n ≤ (m.length : Int)) : ∀ (d i k : Nat), i + d = l.length → d * 15 + 1 ≤ k → spec_l4Holds.l0 k m l (l.length : Int) (i : Int) = some ((l.drop i).all fun c => c.any (litAt m))
  | 0, i, k, h1, hk => by
    obtain ⟨k, rfl⟩ : ∃ m, k = m + 1 := ⟨k - 1, by omega⟩
    simp only [spec_l4Holds.l0]
    rw [if_neg (by omega), List.drop_of_length_le (by omega)]
    rfl
  | d + 1, i, k, h1, hk => by
    obtain ⟨k, rfl⟩ : ∃ m, k = m + 1 := ⟨k - 1, by omega⟩
    have hil : i < l.length := by omega
    obtain ⟨c1, c2⟩ := hc l[i] (List.getElem_mem _)
    simp only [spec_l4Holds.l0]
    rw [if_pos (by omega), if_pos (by omega), if_pos (by omega), rdL_nat l i hil, List.drop_eq_getElem_cons hil, List.all_cons]
    obtain ⟨k', rfl⟩ : ∃ k', k = l[i].length + 1 + k' := ⟨k - l[i].length - 1, by omega⟩
    have h := holds_in m hm l (l.length : Int) (i : Int) l[i] c1 c2 l[i].length 0 k' false (by omega)
    rw [show ((0 : Nat) : Int) = 0 from rfl] at h
    rw [h]
    simp only [Bool.false_or, List.drop_zero]
    cases l[i].any (litAt m) with
    | false => rfl
    | true =>
      simp only [if_true, Bool.true_and]
      rw [next64 (by omega)]
      exact holds_out m hm l hl hc d (i + 1) k' (by omega) (by omega)
theorem specHolds_val {v : Int} {l : List (List Int)} (h : goodB v l = true) (m : List Bool) (hm : (m.length : Int) = v) (k : Nat) (hk : 100000 ≤ k) : spec_l4Holds.f k l m = some (holdsB l m) := by
  obtain ⟨h0, h1, h2, _⟩ := goodB_facts h
  unfold spec_l4Holds.f holdsB
  have := holds_out m (by omega) l (by omega) (fun c hc => by rw [hm]; exact goodB_lits h c hc) l.length 0 k (by omega) (by omega)
  simpa using this

theorem modelSame : ∀ (k : Nat) (num : Int) (y : List Bool) (n i : Int), n ≤ 1000 → 0 ≤ i → spec_l4Model.l0 k num y n i = impl_model.l0 k num y n i
  | 0, _, _, _, _, _, _ => rfl
  | k + 1, num, y, n, i, hn, h0 => by
    simp only [spec_l4Model.l0, impl_model.l0]
    by_cases h : i < n
    · rw [if_pos h, if_pos h, u64_small h0 (by omega), if_pos h0, w64 (by omega) (by omega), modelSame k num _ n (i + 1) hn (by omega)]
    · rw [if_neg h, if_neg h]
theorem specModel_val (v : Int) (h0 : 0 ≤ v) (h1 : v ≤ 12) (num : Int) (k : Nat) (hk : 1000 ≤ k) : spec_l4Model.f k v num = some (modelL v.toNat num) := by
  rw [← implModel_val v h0 h1 num k hk]
  unfold spec_l4Model.f impl_model.f
  rw [if_pos h0, if_pos h0, if_pos (by omega), if_pos (by omega)]
  simp only [Option.bind_some]
  exact modelSame k num _ _ 0 (by rw [List.length_replicate]; omega) (by omega)
theorem specCount_l (v : Int) (l : List (List Int)) (hg : goodB v l = true) : ∀ (d : Nat) (x c : Int) (k : Nat), x + d = ((2 ^ v.toNat : Nat) : Int) → 0 ≤ x → 0 ≤ c → c ≤ x → d + 200000 ≤ k → spec_CountModels.l0 k v l c x = some (c + countFrom v.toNat l d x, true) := by
  obtain ⟨h0, h1, _, _⟩ := goodB_facts hg
  have hp : 2 ^ v.toNat ≤ 2 ^ 12 := Nat.pow_le_pow_right (by decide) (by omega)
  intro d
  induction d with
  | zero =>
    intro x c k hx hx0 hc0 hcx hk
    obtain ⟨k, rfl⟩ : ∃ m, k = m + 1 := ⟨k - 1, by omega⟩
    simp only [spec_CountModels.l0]
    rw [u64_small h0 (by omega), if_pos h0, shl_pow v h0 h1, if_neg (by omega)]
    simp [countFrom]
  | succ d ih =>
    intro x c k hx hx0 hc0 hcx hk
    obtain ⟨k, rfl⟩ : ∃ m, k = m + 1 := ⟨k - 1, by omega⟩
    have hm : ((modelL v.toNat x).length : Int) = v := by rw [modelL_length]; omega
    simp only [spec_CountModels.l0]
    rw [u64_small h0 (by omega), if_pos h0, shl_pow v h0 h1, if_pos (by omega), specModel_val v h0 h1 x k (by omega)]
    simp only [Option.bind_some]
    rw [specHolds_val hg _ hm k (by omega), w64 (x := x + 1) (by omega) (by omega), w64 (x := c + 1) (by omega) (by omega)]
    simp only [Option.bind_some]
    unfold countFrom
    cases holdsB l (modelL v.toNat x) with
    | true =>
      simp only [if_true]
      rw [ih (x + 1) (c + 1) k (by omega) (by omega) (by omega) (by omega) (by omega)]
      congr 2
      omega
    | false =>
      rw [if_neg Bool.false_ne_true, if_neg Bool.false_ne_true, ih (x + 1) c k (by omega) (by omega) (by omega) (by omega) (by omega)]
      congr 2
      omega
theorem specCount_val (v : Int) (l : List (List Int)) (hl : l.length ≤ 1048576) (hi : ∀ x ∈ l, x.length ≤ 1048576) (k : Nat) (hk : 5000000 ≤ k) : spec_CountModels.f k v l = some (if goodB v l = true then (countR v l, true) else (0, false)) := by
  unfold spec_CountModels.f
  rw [specGood_val v l hl hi k hk]
  simp only [Option.bind_some]
  cases hg : goodB v l with
  | false => rfl
  | true =>
    obtain ⟨h0, h1, _, _⟩ := goodB_facts hg
    have hp : 2 ^ v.toNat ≤ 2 ^ 12 := Nat.pow_le_pow_right (by decide) (by omega)
    simp only [if_true]
    rw [specCount_l v l hg (2 ^ v.toNat) 0 0 k (by omega) (by omega) (by omega) (by omega) (by omega)]
    unfold countR
    simp

theorem goodB_app (v : Int) (a b : List (List Int)) (ha : goodB v a = true) (hb : goodB v b = true) : goodB v (a ++ b) = decide ((a ++ b).length ≤ 60) := by
  obtain ⟨h0, h1, _, h2⟩ := goodB_facts ha
  obtain ⟨_, _, _, h3⟩ := goodB_facts hb
  have hall : ((a ++ b).all fun x => isClauseB x v) = true := by
    rw [List.all_eq_true]
    intro c hc
    exact (List.mem_append.1 hc).elim (h2 c) (h3 c)
  unfold goodB
  rw [hall, decide_eq_true h0, decide_eq_true h1]
  simp
def sameR (v : Int) (a b : List (List Int)) : Bool × Bool := if goodB v a = true then (if goodB v b = true then (if (a ++ b).length ≤ 60 then ((countR v a == countR v b) && (countR v b == countR v (a ++ b)), true) else (false, false)) else (false, false)) else (false, false)
theorem specSame_val (v : Int) (a b : List (List Int)) (ha : a.length ≤ 1048576) (hai : ∀ x ∈ a, x.length ≤ 1048576) (hb : b.length ≤ 1048576) (hbi : ∀ x ∈ b, x.length ≤ 1048576) (k : Nat) (hk : 9000000 ≤ k) : spec_SameModels.f k v a b = some (sameR v a b) := by
  unfold spec_SameModels.f sameR
  rw [copy_val a ha hai k (by omega)]
  simp only [Option.bind_some]
  rw [if_pos (by omega), specGood_val v a ha hai k (by omega)]
  simp only [Option.bind_some]
  cases h1 : goodB v a with
  | false => rfl
  | true =>
    simp only [if_true]
    rw [specGood_val v b hb hbi k (by omega)]
    simp only [Option.bind_some]
    cases h2 : goodB v b with
    | false => rfl
    | true =>
      simp only [if_true]
      obtain ⟨_, _, l1, _⟩ := goodB_facts h1
      obtain ⟨_, _, l2, _⟩ := goodB_facts h2
      have hl : (a ++ b).length ≤ 1048576 := by rw [List.length_append]; omega
      have hli : ∀ x ∈ a ++ b, x.length ≤ 1048576 := fun x hx => (List.mem_append.1 hx).elim (hai x) (hbi x)
      rw [specGood_val v (a ++ b) hl hli k (by omega), goodB_app v a b h1 h2]
      simp only [Option.bind_some]
      by_cases h3 : (a ++ b).length ≤ 60
      · rw [decide_eq_true h3, if_pos rfl, if_pos h3, specCount_val v a ha hai k (by omega), specCount_val v b hb hbi k (by omega), specCount_val v (a ++ b) hl hli k (by omega), if_pos h1, if_pos h2, if_pos (by rw [goodB_app v a b h1 h2]; exact decide_eq_true h3)]
        rfl
      · rw [decide_eq_false h3, if_neg Bool.false_ne_true, if_neg h3]
theorem implSame_val (v : Int) (a b : List (List Int)) (ha : a.length ≤ 1048576) (hb : b.length ≤ 1048576) (k : Nat) (hk : 9000000 ≤ k) : impl_SameModels.f k v a b = some (sameR v a b) := by
  unfold impl_SameModels.f sameR
  rw [if_pos (by omega), implGood_val, implGood_val]
  simp only [Option.bind_some]
  cases h1 : goodB v a with
  | false => rfl
  | true =>
    cases h2 : goodB v b with
    | false => rfl
    | true =>
      simp only [if_true]
      by_cases h3 : (a ++ b).length ≤ 60
      · have hg : goodB v (a ++ b) = true := by rw [goodB_app v a b h1 h2]; exact decide_eq_true h3
        rw [if_neg (by omega), if_pos h3, implCountModels_val v (a ++ b) hg k (by omega), implCountModels_val v a h1 k (by omega)]
        simp only [Option.bind_some]
        rw [implCountModels_val v b h2 k (by omega)]
        by_cases e : countR v a = countR v (a ++ b)
        · rw [if_pos e, e]
          simp only [Option.bind_some]
          by_cases e2 : countR v b = countR v (a ++ b)
          · rw [e2]
            simp
          · have n1 : (countR v b == countR v (a ++ b)) = false := by simp [e2]
            rw [n1]
            simp
        · rw [if_neg e]
          by_cases e2 : countR v b = countR v (a ++ b)
          · have n1 : (countR v a == countR v b) = false := by rw [e2]; simp [e]
            rw [n1]
            rfl
          · have n1 : (countR v b == countR v (a ++ b)) = false := by simp [e2]
            rw [n1]
            simp
      · rw [if_pos (by omega), if_neg h3]

theorem sameInts_l (l : List Int) (hl : l.length ≤ 1048576) : ∀ (d i k : Nat), i + d = l.length → d < k → laws_sameInts.l0 k l l (l.length : Int) (i : Int) = some true
  | 0, i, k, h1, hk => by
    obtain ⟨k, rfl⟩ : ∃ m, k = m + 1 := ⟨k - 1, by omega⟩
    simp only [laws_sameInts.l0]
    rw [if_neg (by omega)]
  | d + 1, i, k, h1, hk => by
    obtain ⟨k, rfl⟩ : ∃ m, k = m + 1 := ⟨k - 1, by omega⟩
    simp only [laws_sameInts.l0, if_true]
    rw [if_pos (by omega), if_pos (by omega), if_pos (by omega), if_pos (by omega), next64 (by omega)]
    exact sameInts_l l hl d (i + 1) k (by omega) (by omega)
theorem sameInts_refl (l : List Int) (hl : l.length ≤ 1048576) (k : Nat) (hk : l.length < k) : laws_sameInts.f k l l = some true := by
  unfold laws_sameInts.f
  rw [if_pos rfl]
  exact sameInts_l l hl l.length 0 k (by omega) hk

theorem same_l0 (v : Int) (l : List (List Int)) (hl : l.length ≤ 100) (hi : ∀ x ∈ l, x.length ≤ 1048576) : ∀ (n k : Nat) (y : List (List Int)), n ≤ l.length → y.length + n ≤ 1000 → (∀ x ∈ y, x.length ≤ 1048576) → n < k → ∃ r, spec_DrawSameModels.l0 k v l y ((n : Int) - 1) = some (v, l, r) ∧ r.length ≤ 1000 ∧ ∀ x ∈ r, x.length ≤ 1048576
  | 0, k, y, h1, h2, h3, hk => by
    obtain ⟨k, rfl⟩ : ∃ m, k = m + 1 := ⟨k - 1, by omega⟩
    simp only [spec_DrawSameModels.l0]
    rw [if_neg (by omega)]
    exact ⟨y, rfl, by omega, h3⟩
  | n + 1, k, y, h1, h2, h3, hk => by
    obtain ⟨k, rfl⟩ : ∃ m, k = m + 1 := ⟨k - 1, by omega⟩
    simp only [spec_DrawSameModels.l0]
    rw [show (((n + 1 : Nat) : Int) - 1) = (n : Int) by omega, if_pos (by omega), if_pos (by omega), if_pos (by omega), if_pos (by omega), rdL_nat l n (by omega), w64 (x := (n : Int) - 1) (by omega) (by omega)]
    exact same_l0 v l hl hi n k _ (by omega) (by simp; omega) (fun x hx => by
      rcases List.mem_append.1 hx with hx | hx
      · exact h3 x hx
      · rw [List.mem_singleton] at hx
        rw [hx]
        exact hi _ (List.getElem_mem _)) (by omega)
theorem drawSame_ok {c : List Int} (hc : U8 c) (k : Nat) (hk : 9000000 ≤ k) : ∃ v a b, spec_DrawSameModels.f k c = some (v, a, b) ∧ a.length ≤ 1048576 ∧ (∀ x ∈ a, x.length ≤ 1048576) ∧ b.length ≤ 1048576 ∧ ∀ x ∈ b, x.length ≤ 1048576 := by
  obtain ⟨k, rfl⟩ : ∃ m, k = m + 1 := ⟨k - 1, by omega⟩
  obtain ⟨v, l, p1, s1, e, _, _, hl, v0, v1⟩ := clauses_ok hc 0 (p := 0) (by omega) (by omega) (k + 1) (by omega)
  obtain ⟨hlb, hli⟩ := clOk_bounds hl (by omega) (by omega)
  have hl14 : l.length ≤ 14 := hl.1
  have hdraw : spec_DrawGoodClauses.f (k + 1) c = some (v, l) := by
    unfold spec_DrawGoodClauses.f
    rw [e]
    rfl
  have hj : ∀ (b : Bool) (p s : Int), 0 ≤ p → p ≤ 1000 → ∃ r, spec_DrawSameModels.j0 (k + 1) v l b c p s = some (v, l, r) ∧ r.length ≤ 1048576 ∧ ∀ x ∈ r, x.length ≤ 1048576 := by
    intro b p s p0 p1
    simp only [spec_DrawSameModels.j0]
    cases b with
    | true =>
      rw [if_pos rfl, w64 (x := (l.length : Int) - 1) (by omega) (by omega)]
      obtain ⟨r, a1, a2, a3⟩ := same_l0 v l (by omega) hli l.length k [] (Nat.le_refl _) (by simp; omega) (fun x hx => by cases hx) (by omega)
      exact ⟨r, a1, by omega, a3⟩
    | false =>
      rw [if_neg Bool.false_ne_true, w64 (x := (l.length : Int) + 1) (by omega) (by omega)]
      obtain ⟨r, p', s', a1, a2, a3, a4, a5, _⟩ := pick_ok hc s ((l.length : Int) + 1) p0 (by omega)
      replace a5 := a5 (by omega)
      rw [a1]
      simp only [Option.bind_some]
      rw [if_pos (by omega), if_pos (by omega)]
      exact ⟨_, rfl, by rw [List.length_take]; omega, fun x hx => hli x (List.mem_of_mem_take hx)⟩
  unfold spec_DrawSameModels.f
  rw [hdraw]
  simp only [Option.bind_some]
  by_cases h1 : (l.length : Int) > 1
  · rw [if_pos h1]
    obtain ⟨b, p2, s2, e2, a2, b2⟩ := one_ok hc 0 2 (p := 0) (by omega) (by omega)
    rw [e2]
    simp only [Option.bind_some]
    obtain ⟨r, x1, x2, x3⟩ := hj b p2 s2 (by omega) (by omega)
    exact ⟨v, l, r, x1, hlb, hli, x2, x3⟩
  · rw [if_neg h1]
    obtain ⟨r, x1, x2, x3⟩ := hj false 0 0 (by omega) (by omega)
    exact ⟨v, l, r, x1, hlb, hli, x2, x3⟩
theorem follows_l0 {v : Int} {l : List (List Int)} (hg : goodB v l = true) (x : List Int) (hx : x.length ≤ 1000) (hxm : ∀ y ∈ x, y ∈ pureS v l.flatten) : ∀ (n i k : Nat), i + n = x.length → 9000000 + n ≤ k → laws_FnFollows.l0 k v l (solveR v l).1 (solveR v l).2.2.2 x (x.length : Int) (i : Int) = some true
  | 0, i, k, h1, hk => by
    obtain ⟨k, rfl⟩ : ∃ m, k = m + 1 := ⟨k - 1, by omega⟩
    simp only [laws_FnFollows.l0]
    rw [if_neg (by omega)]
  | n + 1, i, k, h1, hk => by
    obtain ⟨k, rfl⟩ : ∃ m, k = m + 1 := ⟨k - 1, by omega⟩
    have hil : i < x.length := by omega
    have ih := follows_l0 hg x hx hxm n (i + 1) k (by omega) (by omega)
    obtain ⟨_, _, h60, _⟩ := goodB_facts hg
    simp only [laws_FnFollows.l0]
    rw [if_pos (by omega), if_pos (by omega), if_pos (by omega), rd_nat x i hil, next64 (by omega), implSolveWith_val v l [x[i]] (by omega) (by simp) k (by omega)]
    simp only [Option.bind_some]
    cases h7 : (solveR v l).2.2.2 with
    | false =>
      rw [h7] at ih
      rw [if_neg Bool.false_ne_true]
      exact ih
    | true =>
      rw [if_pos rfl]
      cases h8 : (solveWithR v l [x[i]]).2.2.2 with
      | false =>
        rw [h7] at ih
        rw [if_neg Bool.false_ne_true]
        exact ih
      | true =>
        rw [if_pos rfl, pure_solve hg (hxm _ (List.getElem_mem hil)) h7 h8, bne_self_eq_false, if_neg Bool.false_ne_true]
        rw [h7] at ih
        exact ih
theorem follows_j2 {d : List Int} (hd : U8 d) (k : Nat) (hk : 12000000 ≤ k) : laws_FnFollows.j2 k d = some true := by
  obtain ⟨k, rfl⟩ : ∃ m, k = m + 3 := ⟨k - 3, by omega⟩
  obtain ⟨n, l, g, e1, hl, hgl, v0, v1⟩ := drawPropagate_ok hd (k + 2) (by omega)
  obtain ⟨hlb, hli⟩ := clOk_bounds hl (by omega) (by omega)
  have hd1 : spec_DrawDecideFrom.f (k + 2) d = some (n, l, g) := by
    unfold spec_DrawDecideFrom.f
    rw [e1]
    rfl
  obtain ⟨p, q, p1, s1, e2, _, _, hq, q0, q1⟩ := clauses_ok hd 0 (p := 0) (by omega) (by omega) (k + 2) (by omega)
  obtain ⟨hqb, hqi⟩ := clOk_bounds hq (by omega) (by omega)
  have hd2 : spec_DrawPureIn.f (k + 2) d = some (p, q) := by
    unfold spec_DrawPureIn.f spec_DrawGoodClauses.f
    rw [e2]
    rfl
  obtain ⟨u, a, b, e3, ha, hai, hb, hbi⟩ := drawSame_ok hd (k + 2) (by omega)
  obtain ⟨r, hr1, hr2⟩ := decideFrom_both n l g hlb hli (by omega)
  have hpl := pureR_length p q
  simp only [laws_FnFollows.j2]
  rw [hd1]
  simp only [Option.bind_some]
  rw [hr2 (k + 2) (by omega), hr1 (k + 2) (by omega), hd2]
  simp only [Option.bind_some]
  rw [implPure_val p q (k + 2) (by omega), specPure_val p q hqb hqi (k + 2) (by omega), e3]
  simp only [Option.bind_some]
  rw [implSame_val u a b ha hb (k + 2) (by omega), specSame_val u a b ha hai hb hbi (k + 2) (by omega)]
  simp only [Option.bind_some, bne_self_eq_false]
  rw [if_neg Bool.false_ne_true, if_pos (by trivial), if_neg Bool.false_ne_true, sameInts_refl _ hpl (k + 2) (by omega)]
  simp only [Option.bind_some]
  rw [if_pos (by trivial), if_neg Bool.false_ne_true]
  simp only [laws_FnFollows.j3]
  rw [if_neg Bool.false_ne_true]
  have hj : ∀ b : Bool, (b = true → goodB p q = true) → laws_FnFollows.j4 (k + 1) p q (pureR p q).1 b = some true := by
    intro b hb
    cases b with
    | false =>
      simp only [laws_FnFollows.j4]
      rw [if_neg Bool.false_ne_true]
    | true =>
      have hg := hb rfl
      obtain ⟨_, h12, _, _⟩ := goodB_facts hg
      have e : (pureR p q).1 = pureS p q.flatten := by
        unfold pureR
        rw [if_pos hg]
      simp only [laws_FnFollows.j4]
      rw [if_pos (by trivial), implSolveR_val p q k (by omega)]
      simp only [Option.bind_some]
      have hlen : (pureR p q).1.length ≤ 1000 := by
        rw [e]
        unfold pureS
        have h1 := allS_length p q.flatten h12
        have h2 := List.length_filter_le (fun x => !hasB q.flatten (-x)) (allS p q.flatten)
        omega
      exact follows_l0 hg _ hlen (fun y hy => by rwa [e] at hy) (pureR p q).1.length 0 k (by omega) (by omega)
  have hf := hj false (fun h => by cases h)
  by_cases h3 : (pureR p q).2 = true
  · have hg : goodB p q = true := by
      unfold pureR at h3
      cases h : goodB p q with
      | true => rfl
      | false => rw [h] at h3; cases h3
    rw [if_pos h3]
    by_cases h8 : p ≤ 8
    · rw [if_pos h8]
      exact hj _ (fun _ => hg)
    · rw [if_neg h8]
      exact hf
  · rw [if_neg h3]
    exact hf

theorem FnFollows : laws_FnFollows.Pure := by
  intro c d hc0 hc1 hc2 hd0 hd1 hd2
  obtain ⟨k, hk⟩ : ∃ k : Nat, 20000000 ≤ k := ⟨_, Nat.le_refl _⟩
  refine ⟨k + 2, ?_⟩
  have hc := u8_of hc2
  have hd := u8_of hd2
  unfold laws_FnFollows.f
  by_cases hbig : wrap64 ((c.length : Int) + (d.length : Int)) > 1048576
  · rw [if_pos hbig]
  · rw [if_neg hbig]
    obtain ⟨v, l, g, e, hl, hgl⟩ := drawFollows_ok hc (k + 2) (by omega)
    obtain ⟨hlb, hli⟩ := clOk_bounds hl (by omega) (by omega)
    rw [e]
    simp only [Option.bind_some]
    rw [implFollows_val v l g hlb hgl (k + 2) (by omega), specFollows_val v l g hlb hli hgl (k + 2) (by omega)]
    simp only [Option.bind_some, bne_self_eq_false]
    rw [if_neg Bool.false_ne_true]
    simp only [laws_FnFollows.j0]
    rw [if_neg Bool.false_ne_true]
    have hlast : ∀ q, 12000000 ≤ q → laws_FnFollows.j2 q d = some true := fun q hq => follows_j2 hd q hq
    have hf : laws_FnFollows.j1 (k + 1) d v l g (followsR v l g).1 false = some true := by
      simp only [laws_FnFollows.j1]
      rw [if_neg Bool.false_ne_true]
      exact hlast k (by omega)
    by_cases h2 : (followsR v l g).2 = true
    · rw [if_pos h2]
      by_cases h8 : v ≤ 8
      · rw [if_pos h8]
        by_cases h6 : (l.length : Int) < 60
        · rw [decide_eq_true h6]
          obtain ⟨hgo, hcl, _, _⟩ := follows_ok h2
          have hgs := good_snoc hgo hcl (by omega)
          simp only [laws_FnFollows.j1]
          rw [if_pos (by trivial), implCount_val v l k (by omega), if_pos hgo]
          simp only [Option.bind_some, List.nil_append, List.length_nil]
          rw [if_pos (by omega), if_pos (by omega), implCount_val v _ k (by omega), if_pos hgs]
          simp only [Option.bind_some]
          rw [if_pos (by trivial), if_pos (by trivial), follows_count h2, bne_self_eq_false, if_neg Bool.false_ne_true]
          exact hlast k (by omega)
        · rw [decide_eq_false h6]
          exact hf
      · rw [if_neg h8]
        exact hf
    · rw [if_neg h2]
      exact hf

end Go.Proofs.Ytpkbjgmeejlchab.Pure
