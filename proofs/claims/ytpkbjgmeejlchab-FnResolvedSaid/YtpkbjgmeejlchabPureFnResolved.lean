/- The pure statement of the law FnResolved: the printed functions of the program and of the reference give the same answers, at every input that the statement's guards let in. -/
import Derived.Test.YtpkbjgmeejlchabPFnResolvedx10
namespace Go.Proofs.Ytpkbjgmeejlchab.Pure
open Go.RowKit Go.Proofs.Ytpkbjgmeejlchab.PFnResolved Go.Proofs.YtpkbjgmeejlchabW.PrintWords Go.Proofs.YtpkbjgmeejlchabW.PrintLast Go.Proofs.YtpkbjgmeejlchabW.PrintMore
set_option linter.unusedSimpArgs false
set_option linter.unusedVariables false
theorem w64 {x : Int} (h0 : -9223372036854775808 ≤ x) (h1 : x ≤ 9223372036854775807) : wrap64 x = x := by
  unfold wrap64
  omega
theorem l64 {a : Int} (h : (Lit.int .i64 a).wf = true) : -9223372036854775808 ≤ a ∧ a ≤ 9223372036854775807 := by
  simp only [Lit.wf, IntKind.min, IntKind.max, IntKind.signed, IntKind.bits, Bool.and_eq_true, decide_eq_true_eq, if_true] at h
  omega
theorem rd_nat (l : List Int) (i : Nat) (h : i < l.length) : rd l (i : Int) = l[i] := by
  unfold rd
  rw [List.getD_eq_getElem?_getD, show ((i : Int).toNat) = i by omega, List.getElem?_eq_getElem h]
  rfl
theorem next64 {i : Nat} (h : i ≤ 4611686018427387904) : wrap64 ((i : Int) + 1) = ((i + 1 : Nat) : Int) := by
  rw [w64 (by omega) (by omega)]
  omega

def U8 (c : List Int) : Prop := ∀ x ∈ c, 0 ≤ x ∧ x ≤ 255
theorem u8_of {c : List Int} (h : ∀ x ∈ c, (Lit.int .u8 x).wf = true) : U8 c := fun x hx => by
  have := h x hx
  simp [Lit.wf, IntKind.min, IntKind.max, IntKind.signed, IntKind.bits] at this
  omega
theorem u64_range (x : Int) : 0 ≤ IntKind.u64.wrap x ∧ IntKind.u64.wrap x < 18446744073709551616 := by
  rw [show IntKind.u64.wrap x = x % 18446744073709551616 by simp [IntKind.wrap, IntKind.bits, IntKind.signed]]
  omega
theorem and255 {x : Int} (h0 : 0 ≤ x) (h1 : x < 18446744073709551616) : 0 ≤ Go.bits .and .u64 x 255 ∧ Go.bits .and .u64 x 255 ≤ 255 := by
  obtain ⟨n, rfl⟩ : ∃ n : Nat, x = n := ⟨x.toNat, by omega⟩
  have e : Go.bits .and .u64 (n : Int) 255 = ((n &&& 255 : Nat) : Int) := bits_and_u64_nat n 255 (by omega) (by omega)
  have : n &&& 255 ≤ 255 := Nat.and_le_right
  rw [e]
  omega
theorem next_ok {c : List Int} (hc : U8 c) {p : Int} (s : Int) (h0 : 0 ≤ p) (h1 : p ≤ 1000000000000) : ∃ b s', spec_l1Cur_next.f c p s = some (b, p + 1, s') ∧ 0 ≤ b ∧ b ≤ 255 := by
  unfold spec_l1Cur_next.f
  rw [w64 (x := p + 1) (by omega) (by omega)]
  by_cases h : p < (c.length : Int)
  · have hb : 0 ≤ rd c p ∧ rd c p ≤ 255 := by
      obtain ⟨i, rfl⟩ : ∃ i : Nat, p = i := ⟨p.toNat, by omega⟩
      rw [rd_nat c i (by omega)]
      exact hc _ (List.getElem_mem _)
    rw [if_pos h, if_pos h0, if_pos (by omega), w64 (x := rd c p) (by omega) (by omega)]
    exact ⟨_, _, rfl, hb.1, hb.2⟩
  · rw [if_neg h, if_neg (by omega)]
    have hr := u64_range (IntKind.u64.wrap (IntKind.u64.wrap (s * 6364136223846793005) + 0) + 1442695040888963407)
    have hb := and255 (x := IntKind.u64.wrap (IntKind.u64.wrap (IntKind.u64.wrap (s * 6364136223846793005) + 0) + 1442695040888963407) / 1099511627776) (by omega) (by omega)
    rw [w64 (x := Go.bits .and .u64 _ 255) (by omega) (by omega)]
    exact ⟨_, _, rfl, hb.1, hb.2⟩
theorem pick_ok {c : List Int} (hc : U8 c) {p : Int} (s : Int) (n : Int) (h0 : 0 ≤ p) (h1 : p ≤ 999999999000) : ∃ r p' s', spec_l1Cur_pick.f c p s n = some (r, p', s') ∧ p ≤ p' ∧ p' ≤ p + 2 ∧ 0 ≤ r ∧ (1 ≤ n → r < n) ∧ (n ≤ 1 → r = 0) := by
  unfold spec_l1Cur_pick.f
  by_cases h : n ≤ 1
  · rw [if_pos h]
    exact ⟨0, p, s, rfl, by omega, by omega, by omega, by omega, by omega⟩
  · rw [if_neg h]
    obtain ⟨b, s1, e1, b0, b1⟩ := next_ok hc s h0 (by omega)
    rw [e1]
    simp only [Option.bind_some]
    have ht : ∀ x : Int, 0 ≤ x → 0 ≤ Int.tmod x n ∧ Int.tmod x n < n := fun x hx => by
      rw [Int.tmod_eq_emod_of_nonneg hx]
      exact ⟨Int.emod_nonneg _ (by omega), Int.emod_lt_of_pos _ (by omega)⟩
    by_cases h2 : n > 200
    · rw [if_pos h2]
      obtain ⟨d, s2, e2, d0, d1⟩ := next_ok hc s1 (p := p + 1) (by omega) (by omega)
      rw [e2]
      simp only [Option.bind_some]
      rw [if_neg (by omega), w64 (x := b * 256) (by omega) (by omega), w64 (by omega) (by omega)]
      obtain ⟨a1, a2⟩ := ht (b * 256 + d) (by omega)
      exact ⟨_, _, _, rfl, by omega, by omega, a1, fun _ => a2, by omega⟩
    · rw [if_neg h2, if_neg (by omega)]
      obtain ⟨a1, a2⟩ := ht b b0
      exact ⟨_, _, _, rfl, by omega, by omega, a1, fun _ => a2, by omega⟩
theorem among_ok {c : List Int} (hc : U8 c) {p : Int} (s : Int) (l : List Int) (hl : 0 < l.length) (h0 : 0 ≤ p) (h1 : p ≤ 999999999000) : ∃ r p' s', spec_l1Cur_among.f c p s l = some (r, p', s') ∧ p ≤ p' ∧ p' ≤ p + 2 ∧ r ∈ l := by
  unfold spec_l1Cur_among.f
  obtain ⟨r, p', s', e, a, b, r0, r1, _⟩ := pick_ok hc s (l.length : Int) h0 h1
  have hr := r1 (by omega)
  rw [e]
  simp only [Option.bind_some]
  rw [if_pos r0, if_pos hr]
  obtain ⟨i, rfl⟩ : ∃ i : Nat, r = i := ⟨r.toNat, by omega⟩
  rw [rd_nat l i (by omega)]
  exact ⟨_, _, _, rfl, a, b, List.getElem_mem _⟩
theorem one_ok {c : List Int} (hc : U8 c) {p : Int} (s : Int) (n : Int) (h0 : 0 ≤ p) (h1 : p ≤ 999999999000) : ∃ r p' s', spec_l1Cur_one.f c p s n = some (r, p', s') ∧ p ≤ p' ∧ p' ≤ p + 2 := by
  unfold spec_l1Cur_one.f
  obtain ⟨r, p', s', e, a, b, _, _, _⟩ := pick_ok hc s n h0 h1
  rw [e]
  exact ⟨_, _, _, rfl, a, b⟩

theorem drop_at (l : List Int) (i : Nat) (h : i < l.length) : l.drop i = l[i] :: l.drop (i + 1) := List.drop_eq_getElem_cons h
theorem has_l (l : List Int) (x : Int) (hl : l.length ≤ 1099511627776) : ∀ (d i k : Nat), i + d = l.length → d < k → spec_l1Has.l0 k x l (l.length : Int) (i : Int) = some ((l.drop i).any (· == x))
  | 0, i, k, h1, hk => by
    obtain ⟨k, rfl⟩ : ∃ m, k = m + 1 := ⟨k - 1, by omega⟩
    simp only [spec_l1Has.l0]
    rw [if_neg (by omega), List.drop_of_length_le (by omega)]
    rfl
  | d + 1, i, k, h1, hk => by
    obtain ⟨k, rfl⟩ : ∃ m, k = m + 1 := ⟨k - 1, by omega⟩
    simp only [spec_l1Has.l0]
    rw [if_pos (by omega), if_pos (by omega), if_pos (by omega), rd_nat l i (by omega), next64 (by omega), drop_at l i (by omega)]
    by_cases e : l[i] = x
    · rw [if_pos e]
      rw [List.any_cons, show (l[i] == x) = true by simpa using e, Bool.true_or]
    · rw [if_neg e, has_l l x hl d (i + 1) k (by omega) (by omega), List.any_cons, show (l[i] == x) = false by simpa using e, Bool.false_or]
theorem has_val (l : List Int) (x : Int) (hl : l.length ≤ 1099511627776) (k : Nat) (hk : l.length < k) : spec_l1Has.f k l x = some (l.any (· == x)) := by
  unfold spec_l1Has.f
  have := has_l l x hl l.length 0 k (by omega) hk
  simpa using this

theorem specIn_val (n a b : Int) : spec_l1In.f n a b = some (decide (a ≤ n) && decide (n ≤ b)) := by
  unfold spec_l1In.f
  by_cases h : n ≥ a
  · rw [if_pos h]
    simp [h]
  · rw [if_neg h]
    simp [h]
theorem neg64 {n : Int} (h0 : -4611686018427387904 ≤ n) (h1 : n ≤ 4611686018427387904) : wrap64 (-n) = -n := w64 (by omega) (by omega)
theorem vab_small {n : Int} (h0 : -12 ≤ n) (h1 : n ≤ 12) : vab n = if n < -n then -n else n := by
  unfold vab
  rw [neg64 (by omega) (by omega)]
theorem vab_eq {n m : Int} (h0 : -12 ≤ n) (h1 : n ≤ 12) (h2 : -12 ≤ m) (h3 : m ≤ 12) : (vab n == vab m) = ((n == m) || (n == -m)) := by
  rw [vab_small h0 h1, vab_small h2 h3, Bool.eq_iff_iff]
  simp only [beq_iff_eq, Bool.or_eq_true]
  split <;> split <;> omega
theorem litB_small {n v : Int} (h0 : 0 ≤ v) (h1 : v ≤ 12) (h : litB n v = true) : n ≠ 0 ∧ -v ≤ n ∧ n ≤ v := by
  unfold litB at h
  rw [neg64 (by omega) (by omega)] at h
  simpa [Bool.and_eq_true] using h
theorem any_vab (l : List Int) (m : Int) (h2 : -12 ≤ m) (h3 : m ≤ 12) (hl : ∀ x ∈ l, -12 ≤ x ∧ x ≤ 12) : (l.any fun k => vab k == vab m) = (l.any (· == m) || l.any (· == -m)) := by
  induction l with
  | nil => rfl
  | cons a l ih =>
    have ha := hl a List.mem_cons_self
    rw [List.any_cons, List.any_cons, List.any_cons, ih (fun x hx => hl x (List.mem_cons_of_mem _ hx)), vab_eq ha.1 ha.2 h2 h3]
    cases (a == m) <;> cases (a == -m) <;> cases l.any (· == m) <;> simp

theorem any_flip (l : List Int) (a : Int) : (l.any fun y => a == y) = l.any (· == a) := by
  congr 1
  funext y
  rw [Bool.eq_iff_iff]
  simp only [beq_iff_eq]
  exact eq_comm

def cleanL : List Int → List Int → List Int × Bool
  | acc, [] => (acc, true)
  | acc, n :: r => if acc.any (· == wrap64 (-n)) = true then ([], false) else if acc.any (· == n) = true then cleanL acc r else cleanL (acc ++ [n]) r
def cleanS : List Int → List Int → List Int × Bool
  | acc, [] => (acc, true)
  | acc, n :: r => if (!litB n 12 || acc.any (· == wrap64 (-n))) = true then ([], false) else if acc.any (· == n) = true then cleanS acc r else cleanS (acc ++ [n]) r
theorem cleanS_bad : ∀ (l acc : List Int), (l.any fun n => !litB n 12) = true → cleanS acc l = ([], false)
  | [], acc, h => by simp at h
  | n :: r, acc, h => by
    unfold cleanS
    cases hb : litB n 12 with
    | false => simp
    | true =>
      have h2 : (r.any fun n => !litB n 12) = true := by simpa [hb] using h
      split
      · rfl
      · split
        · exact cleanS_bad r acc h2
        · exact cleanS_bad r _ h2
theorem cleanS_good : ∀ (l acc : List Int), (l.any fun n => !litB n 12) = false → cleanS acc l = cleanL acc l
  | [], acc, h => rfl
  | n :: r, acc, h => by
    have h1 : litB n 12 = true ∧ (r.any fun n => !litB n 12) = false := by simpa using h
    unfold cleanS cleanL
    rw [h1.1, cleanS_good r acc h1.2, cleanS_good r _ h1.2]
    simp
theorem clean_length : ∀ (l acc : List Int), (cleanL acc l).1.length ≤ acc.length + l.length
  | [], acc => by simp [cleanL]
  | n :: r, acc => by
    unfold cleanL
    split
    · simp
    · split
      · have := clean_length r acc
        simp
        omega
      · have := clean_length r (acc ++ [n])
        simp at this
        simp
        omega
theorem specClean_l (l : List Int) (hl : l.length ≤ 1000) : ∀ (d i k : Nat) (acc : List Int), i + d = l.length → acc.length ≤ i → 2 * d + 2000 ≤ k → spec_CleanClause.l0 k acc l (l.length : Int) (i : Int) = some (cleanS acc (l.drop i))
  | 0, i, k, acc, h1, h2, hk => by
    obtain ⟨k, rfl⟩ : ∃ m, k = m + 1 := ⟨k - 1, by omega⟩
    simp only [spec_CleanClause.l0]
    rw [if_neg (by omega), List.drop_of_length_le (by omega)]
    rfl
  | d + 1, i, k, acc, h1, h2, hk => by
    obtain ⟨k, rfl⟩ : ∃ m, k = m + 2 := ⟨k - 2, by omega⟩
    have hil : i < l.length := by omega
    simp only [spec_CleanClause.l0, spec_CleanClause.j1]
    rw [if_pos (by omega), if_pos (by omega), if_pos (by omega), rd_nat l i hil, next64 (by omega), drop_at l i hil]
    have hw : litB l[i] 12 = (decide (l[i] ≠ 0) && (decide (-12 ≤ l[i]) && decide (l[i] ≤ 12))) := by
      unfold litB
      rw [neg64 (n := 12) (by omega) (by omega)]
    unfold cleanS
    by_cases e0 : l[i] = 0
    · rw [if_pos e0, hw]
      simp [e0]
    · rw [if_neg e0, specIn_val]
      simp only [Option.bind_some]
      have hb : litB l[i] 12 = (decide (-12 ≤ l[i]) && decide (l[i] ≤ 12)) := by rw [hw]; simp [e0]
      rw [← hb]
      cases litB l[i] 12 with
      | false => simp
      | true =>
        first | rw [if_pos rfl] | rw [if_true]
        rw [has_val acc _ (by omega) _ (by omega)]
        simp only [Option.bind_some, Bool.not_true, Bool.false_or]
        cases acc.any (· == wrap64 (-l[i])) with
        | true => simp
        | false =>
          rw [if_neg Bool.false_ne_true, if_neg Bool.false_ne_true, has_val acc _ (by omega) _ (by omega)]
          simp only [Option.bind_some]
          cases acc.any (· == l[i]) with
          | true =>
            simp only [if_true]
            exact specClean_l l hl d (i + 1) k acc (by omega) (by omega) (by omega)
          | false =>
            rw [if_neg Bool.false_ne_true, if_neg Bool.false_ne_true, if_pos (by omega)]
            exact specClean_l l hl d (i + 1) k _ (by omega) (by simp; omega) (by omega)
theorem cleanClause_spec (l : List Int) (k : Nat) (hk : 3000000 ≤ k) : spec_CleanClause.f k l = some (if (l.length : Int) > 40 then ([], false) else cleanS [] l) := by
  unfold spec_CleanClause.f
  by_cases h : (l.length : Int) > 40
  · rw [if_pos h, if_pos h]
  · rw [if_neg h, if_neg h]
    have := specClean_l l (by omega) l.length 0 k [] (by omega) (by simp) (by omega)
    simpa using this

theorem cleanS_length : ∀ (l acc : List Int), (cleanS acc l).1.length ≤ acc.length + l.length
  | [], acc => by simp [cleanS]
  | n :: r, acc => by
    unfold cleanS
    split
    · simp
    · split
      · have := cleanS_length r acc
        simp
        omega
      · have := cleanS_length r (acc ++ [n])
        simp at this
        simp
        omega
theorem drawClean_gen (l : List Int) (k : Nat) (hk : 3000000 ≤ k) : ∃ r b, spec_CleanClause.f k l = some (r, b) ∧ r.length ≤ l.length := by
  rw [cleanClause_spec l k hk]
  by_cases h : (l.length : Int) > 40
  · rw [if_pos h]
    exact ⟨_, _, rfl, by simp⟩
  · rw [if_neg h]
    have := cleanS_length l []
    exact ⟨_, _, rfl, by simpa using this⟩
theorem drawClean_ok (l : List Int) (_hl : l.length ≤ 40) (k : Nat) (hk : 3000000 ≤ k) : ∃ r b, spec_CleanClause.f k l = some (r, b) ∧ r.length ≤ l.length := drawClean_gen l k hk
theorem lit_ok {c : List Int} (hc : U8 c) {p : Int} (s n : Int) (h0 : 0 ≤ p) (h1 : p ≤ 999999998000) : ∃ r p' s', spec_l1Cur_lit.f c p s n = some (r, p', s') ∧ p ≤ p' ∧ p' ≤ p + 4 := by
  unfold spec_l1Cur_lit.f
  obtain ⟨r1, p1, s1, e1, a1, b1, c1, _, _⟩ := pick_ok hc s n h0 (by omega)
  obtain ⟨b, p2, s2, e2, a2, b2⟩ := one_ok hc s1 2 (p := p1) (by omega) (by omega)
  rw [e1]
  simp only [Option.bind_some]
  rw [e2]
  simp only [Option.bind_some]
  cases b with
  | true =>
    rw [if_pos rfl]
    exact ⟨_, _, _, rfl, by omega, by omega⟩
  | false =>
    rw [if_neg Bool.false_ne_true]
    exact ⟨_, _, _, rfl, by omega, by omega⟩
/-- What the drawing of clauses leaves. -/
def ClOk (l : List (List Int)) (n m : Nat) : Prop := l.length ≤ n ∧ ∀ x ∈ l, x.length ≤ m
theorem clOk_snoc {l : List (List Int)} {n m : Nat} (h : ClOk l n m) {x : List Int} (hx : x.length ≤ m) : ClOk (l ++ [x]) (n + 1) m := by
  refine ⟨by simp; exact h.1, fun y hy => ?_⟩
  rcases List.mem_append.1 hy with hy | hy
  · exact h.2 y hy
  · have : y = x := by simpa using hy
    exact this ▸ hx
theorem clOk_mono {l : List (List Int)} {n m n' m' : Nat} (h : ClOk l n m) (hn : n ≤ n') (hm : m ≤ m') : ClOk l n' m' := ⟨Nat.le_trans h.1 hn, fun x hx => Nat.le_trans (h.2 x hx) hm⟩
theorem clauses_l0 {c : List Int} (hc : U8 c) (v : Int) : ∀ (n : Nat) (l : List (List Int)) (k : Nat) (p s : Int), l.length + n ≤ 14 → (∀ x ∈ l, x.length ≤ 50) → 0 ≤ p → p + 20 * n ≤ 999999990000 → 3000100 + 10 * n ≤ k →
    ∃ l' p' s', spec_l1Cur_clauses.l0 k v l n c p s = some (v, l', p', s') ∧ p ≤ p' ∧ p' ≤ p + 20 * n + 10 ∧ ClOk l' 14 60
  | 0, l, k, p, s, hl, hr, h0, h1, hk => by
    obtain ⟨k, rfl⟩ : ∃ q, k = q + 1 := ⟨k - 1, by omega⟩
    simp only [spec_l1Cur_clauses.l0]
    rw [if_neg (by omega)]
    have hok : ClOk l 14 60 := ⟨by omega, fun x hx => by have := hr x hx; omega⟩
    by_cases h : (l.length : Int) > 0
    · rw [if_pos h]
      obtain ⟨b, p1, s1, e, a1, b1⟩ := one_ok hc s 30 h0 (by omega)
      rw [e]
      simp only [Option.bind_some]
      cases b with
      | false =>
        rw [if_neg Bool.false_ne_true]
        exact ⟨_, _, _, rfl, by omega, by omega, hok⟩
      | true =>
        rw [if_pos rfl, if_pos h]
        obtain ⟨r, p2, s2, e2, a2, b2, _⟩ := among_ok hc s1 [0, 13, 1] (p := p1) (by simp) (by omega) (by omega)
        rw [e2]
        simp only [Option.bind_some]
        have hx : (rd_L1 l 0).length ≤ 50 := by
          have hpos : 0 < l.length := by omega
          have : rd_L1 l 0 = l[0] := by
            unfold rd_L1
            rw [List.getD_eq_getElem?_getD, show ((0 : Int).toNat) = 0 from rfl, List.getElem?_eq_getElem hpos]
            rfl
          rw [this]
          exact hr _ (List.getElem_mem _)
        rw [if_pos (by omega)]
        refine ⟨_, _, _, rfl, by omega, by omega, by rw [List.length_set]; omega, fun x hx' => ?_⟩
        rcases List.mem_or_eq_of_mem_set hx' with hx' | hx'
        · have := hr x hx'
          omega
        · rw [hx', List.length_append, List.length_singleton]
          omega
    · rw [if_neg h]
      exact ⟨_, _, _, rfl, by omega, by omega, hok⟩
  | n + 1, l, k, p, s, hl, hr, h0, h1, hk => by
    have inner : ∀ (m : Nat) (acc : List Int) (k : Nat) (p s : Int), acc.length + m ≤ 3 → 0 ≤ p → p + 4 * m + 20 * n ≤ 999999990000 → 3000102 + 10 * n + m ≤ k →
        ∃ l' p' s', spec_l1Cur_clauses.l1 k v l ((n + 1 : Nat) : Int) acc m c p s = some (v, l', p', s') ∧ p ≤ p' ∧ p' ≤ p + 4 * m + 20 * n + 10 ∧ ClOk l' 14 60 := by
      intro m
      induction m with
      | zero =>
        intro acc k p s ha h0 h1 hk
        obtain ⟨k, rfl⟩ : ∃ q, k = q + 1 := ⟨k - 1, by omega⟩
        simp only [spec_l1Cur_clauses.l1]
        rw [if_neg (by omega)]
        obtain ⟨r, b, e, hrl⟩ := drawClean_ok acc (by omega) k (by omega)
        rw [e]
        simp only [Option.bind_some]
        rw [show wrap64 (((n + 1 : Nat) : Int) - 1) = (n : Int) by rw [w64 (by omega) (by omega)]; omega]
        cases b with
        | true =>
          rw [if_pos rfl, if_pos (by omega)]
          obtain ⟨l', p', s', e', a', b', c'⟩ := clauses_l0 hc v n (l ++ [r]) k p s (by simp; omega) (fun x hx => by
            rcases List.mem_append.1 hx with hx | hx
            · exact hr x hx
            · have : x = r := by simpa using hx
              subst this
              omega) h0 (by omega) (by omega)
          exact ⟨l', p', s', e', by omega, by omega, c'⟩
        | false =>
          rw [if_neg Bool.false_ne_true]
          obtain ⟨l', p', s', e', a', b', c'⟩ := clauses_l0 hc v n l k p s (by omega) hr h0 (by omega) (by omega)
          exact ⟨l', p', s', e', by omega, by omega, c'⟩
      | succ m ih =>
        intro acc k p s ha h0 h1 hk
        obtain ⟨k, rfl⟩ : ∃ q, k = q + 1 := ⟨k - 1, by omega⟩
        simp only [spec_l1Cur_clauses.l1]
        rw [if_pos (by omega)]
        obtain ⟨r, p1, s1, e, a1, b1⟩ := lit_ok hc s v h0 (by omega)
        rw [e]
        simp only [Option.bind_some]
        rw [if_pos (by omega), show wrap64 (((m + 1 : Nat) : Int) - 1) = (m : Int) by rw [w64 (by omega) (by omega)]; omega]
        obtain ⟨l', p', s', e', a', b', c'⟩ := ih (acc ++ [r]) k p1 s1 (by simp; omega) (by omega) (by omega) (by omega)
        exact ⟨l', p', s', e', by omega, by omega, c'⟩
    obtain ⟨k, rfl⟩ : ∃ q, k = q + 1 := ⟨k - 1, by omega⟩
    simp only [spec_l1Cur_clauses.l0]
    rw [if_pos (by omega)]
    obtain ⟨r, p1, s1, e, a1, b1, r0, r1, _⟩ := pick_ok hc s 3 h0 (by omega)
    replace r1 := r1 (by omega)
    rw [e]
    simp only [Option.bind_some]
    obtain ⟨m, hm⟩ : ∃ m : Nat, 1 + r = m := ⟨(1 + r).toNat, by omega⟩
    rw [w64 (x := 1 + r) (by omega) (by omega), hm]
    obtain ⟨l', p', s', e', a', b', c'⟩ := inner m [] k p1 s1 (by simp; omega) (by omega) (by omega) (by omega)
    exact ⟨l', p', s', e', by omega, by omega, c'⟩
theorem clauses_ok {c : List Int} (hc : U8 c) {p : Int} (s : Int) (h0 : 0 ≤ p) (h1 : p ≤ 999999980000) (k : Nat) (hk : 3000300 ≤ k) : ∃ v l p' s', spec_l1Cur_clauses.f k c p s = some (v, l, p', s') ∧ p ≤ p' ∧ p' ≤ p + 400 ∧ ClOk l 14 60 ∧ 0 ≤ v ∧ v ≤ 13 := by
  have hj : ∀ (v p s : Int), 0 ≤ v → v ≤ 13 → 0 ≤ p → p ≤ 999999980500 → ∃ l p' s', spec_l1Cur_clauses.j0 k v c p s = some (v, l, p', s') ∧ p ≤ p' ∧ p' ≤ p + 300 ∧ ClOk l 14 60 := by
    intro v p s hv0 hv1 h0 h1
    obtain ⟨k, rfl⟩ : ∃ q, k = q + 2 := ⟨k - 2, by omega⟩
    simp only [spec_l1Cur_clauses.j0]
    obtain ⟨r, p1, s1, e, a1, b1, r0, r1, _⟩ := pick_ok hc s 14 h0 (by omega)
    replace r1 := r1 (by omega)
    rw [e]
    simp only [Option.bind_some, spec_l1Cur_clauses.j1]
    by_cases hv : v = 0
    · rw [if_pos hv]
      obtain ⟨l', p', s', e', a', b', c'⟩ := clauses_l0 hc v 0 [] k p1 s1 (by simp) (by simp) (by omega) (by omega) (by omega)
      exact ⟨l', p', s', e', by omega, by omega, c'⟩
    · rw [if_neg hv]
      obtain ⟨n, rfl⟩ : ∃ n : Nat, r = n := ⟨r.toNat, by omega⟩
      obtain ⟨l', p', s', e', a', b', c'⟩ := clauses_l0 hc v n [] k p1 s1 (by simp; omega) (by simp) (by omega) (by omega) (by omega)
      exact ⟨l', p', s', e', by omega, by omega, c'⟩
  unfold spec_l1Cur_clauses.f
  obtain ⟨r, p1, s1, e, a1, b1, r0, r1, _⟩ := pick_ok hc s 6 h0 (by omega)
  replace r1 := r1 (by omega)
  obtain ⟨b, p2, s2, e2, a2, b2⟩ := one_ok hc s1 30 (p := p1) (by omega) (by omega)
  rw [e]
  simp only [Option.bind_some]
  rw [e2]
  simp only [Option.bind_some]
  cases b with
  | true =>
    rw [if_pos rfl]
    obtain ⟨v, p3, s3, e3, a3, b3, hm⟩ := among_ok hc s2 [0, 10, 13] (p := p2) (by simp) (by omega) (by omega)
    rw [e3]
    simp only [Option.bind_some]
    have hv : 0 ≤ v ∧ v ≤ 13 := by
      simp only [List.mem_cons, List.not_mem_nil, or_false] at hm
      omega
    obtain ⟨l, p', s', e', a', b', c'⟩ := hj v p3 s3 hv.1 hv.2 (by omega) (by omega)
    exact ⟨v, l, p', s', e', by omega, by omega, c', hv.1, hv.2⟩
  | false =>
    rw [if_neg Bool.false_ne_true, w64 (x := 1 + r) (by omega) (by omega)]
    obtain ⟨l, p', s', e', a', b', c'⟩ := hj (1 + r) p2 s2 (by omega) (by omega) (by omega) (by omega)
    exact ⟨1 + r, l, p', s', e', by omega, by omega, c', by omega, by omega⟩
theorem clOk_bounds {l : List (List Int)} {n m : Nat} (h : ClOk l n m) (hn : n ≤ 1048576) (hm : m ≤ 1048576) : l.length ≤ 1048576 ∧ ∀ x ∈ l, x.length ≤ 1048576 := ⟨Nat.le_trans h.1 hn, fun x hx => Nat.le_trans (h.2 x hx) hm⟩

theorem drawCleanClause_l0 {c : List Int} (hc : U8 c) : ∀ (n : Nat) (l : List Int) (k : Nat) (p s : Int), l.length + n ≤ 100 → 0 ≤ p → p + 4 * n ≤ 999999970000 → n + 10 ≤ k → ∃ l', spec_DrawCleanClause.l0 k l n c p s = some l' ∧ l'.length ≤ 100
  | 0, l, k, p, s, hl, h0, h1, hk => by
    obtain ⟨k, rfl⟩ : ∃ m, k = m + 1 := ⟨k - 1, by omega⟩
    simp only [spec_DrawCleanClause.l0]
    rw [if_neg (by omega)]
    by_cases h : (l.length : Int) > 0
    · rw [if_pos h]
      obtain ⟨b, p1, s1, e, a1, b1⟩ := one_ok hc s 3 h0 (by omega)
      rw [e]
      simp only [Option.bind_some]
      cases b with
      | false =>
        rw [if_neg Bool.false_ne_true]
        exact ⟨_, rfl, by omega⟩
      | true =>
        obtain ⟨r, p2, s2, e2, a2, b2, _⟩ := among_ok hc s1 [0, (-1), (-12), 13, (-13), 12] (p := p1) (by simp) (by omega) (by omega)
        rw [if_pos rfl, e2]
        simp only [Option.bind_some]
        rw [if_pos h]
        exact ⟨_, rfl, by rw [List.length_set]; omega⟩
    · rw [if_neg h]
      exact ⟨_, rfl, by omega⟩
  | n + 1, l, k, p, s, hl, h0, h1, hk => by
    obtain ⟨k, rfl⟩ : ∃ m, k = m + 1 := ⟨k - 1, by omega⟩
    simp only [spec_DrawCleanClause.l0]
    rw [if_pos (by omega)]
    obtain ⟨r, p1, s1, e, a1, b1, _⟩ := pick_ok hc s 5 h0 (by omega)
    rw [e]
    simp only [Option.bind_some]
    rw [if_pos (by omega), show wrap64 (((n + 1 : Nat) : Int) - 1) = (n : Int) by rw [w64 (by omega) (by omega)]; omega]
    exact drawCleanClause_l0 hc n _ k p1 s1 (by simp; omega) (by omega) (by omega) (by omega)
theorem drawCleanClause_ok {c : List Int} (hc : U8 c) (k : Nat) (hk : 1000 ≤ k) : ∃ l, spec_DrawCleanClause.f k c = some l ∧ l.length ≤ 100 := by
  obtain ⟨k, rfl⟩ : ∃ m, k = m + 1 := ⟨k - 1, by omega⟩
  unfold spec_DrawCleanClause.f
  obtain ⟨r, p1, s1, e1, a1, b1, r0, r1, _⟩ := pick_ok hc 0 6 (p := 0) (by omega) (by omega)
  replace r1 := r1 (by omega)
  obtain ⟨b, p2, s2, e2, a2, b2⟩ := one_ok hc s1 20 (p := p1) (by omega) (by omega)
  rw [e1]
  simp only [Option.bind_some]
  rw [e2]
  simp only [Option.bind_some, spec_DrawCleanClause.j0]
  cases b with
  | false =>
    obtain ⟨n, rfl⟩ : ∃ n : Nat, r = n := ⟨r.toNat, by omega⟩
    rw [if_neg Bool.false_ne_true]
    exact drawCleanClause_l0 hc n [] k p2 s2 (by simp; omega) (by omega) (by omega) (by omega)
  | true =>
    rw [if_pos rfl]
    obtain ⟨q, p3, s3, e3, a3, b3, q0, q1, _⟩ := pick_ok hc s2 2 (p := p2) (by omega) (by omega)
    replace q1 := q1 (by omega)
    rw [e3]
    simp only [Option.bind_some]
    obtain ⟨n, hn⟩ : ∃ n : Nat, 40 + q = n := ⟨(40 + q).toNat, by omega⟩
    rw [w64 (by omega) (by omega), hn]
    exact drawCleanClause_l0 hc n [] k p3 s3 (by simp; omega) (by omega) (by omega) (by omega)

theorem clause_l (v : Int) (hv0 : 0 ≤ v) (hv1 : v ≤ 12) (l : List Int) (hl : l.length ≤ 1099511627776) : ∀ (d i k : Nat), i + d = l.length → (∀ x ∈ l.take i, -12 ≤ x ∧ x ≤ 12) → d + l.length + 1 < k →
    spec_l4Clause.l0 k v l l (l.length : Int) (i : Int) = some (clauseFrom v (l.take i) (l.drop i) && decide (l.length ≤ 12))
  | 0, i, k, h1, hs, hk => by
    obtain ⟨k, rfl⟩ : ∃ m, k = m + 1 := ⟨k - 1, by omega⟩
    simp only [spec_l4Clause.l0]
    rw [if_neg (by omega), List.drop_of_length_le (by omega)]
    simp only [clauseFrom, Bool.true_and]
    congr 2
    exact propext (by omega)
  | d + 1, i, k, h1, hs, hk => by
    obtain ⟨k, rfl⟩ : ∃ m, k = m + 1 := ⟨k - 1, by omega⟩
    have hil : i < l.length := by omega
    have ht : (l.take i).length = i := by rw [List.length_take]; omega
    simp only [spec_l4Clause.l0]
    rw [if_pos (by omega), if_pos (by omega), if_pos (by omega), rd_nat l i hil, next64 (by omega), drop_at l i hil, show ((i : Int).toNat) = i by omega, if_pos (show (i : Int) ≤ (l.length : Int) by omega)]
    simp only [clauseFrom]
    by_cases e0 : l[i] = 0
    · rw [if_pos e0]
      have : litB l[i] v = false := by unfold litB; simp [e0]
      rw [this]
      rfl
    · rw [if_neg e0, specIn_val]
      simp only [Option.bind_some]
      have hlit : litB l[i] v = (decide (wrap64 (-v) ≤ l[i]) && decide (l[i] ≤ v)) := by unfold litB; simp [e0]
      rw [← hlit]
      cases hb : litB l[i] v with
      | false => rfl
      | true =>
        obtain ⟨_, h4, h5⟩ := litB_small hv0 hv1 hb
        rw [if_pos rfl, has_val _ _ (by omega) _ (by omega), neg64 (by omega) (by omega), has_val _ _ (by omega) _ (by omega), any_vab _ _ (by omega) (by omega) hs]
        simp only [Option.bind_some]
        cases (l.take i).any (· == l[i]) with
        | true => rfl
        | false =>
          cases (l.take i).any (· == -l[i]) with
          | true => rfl
          | false =>
            have hst : l.take (i + 1) = l.take i ++ [l[i]] := List.take_succ_eq_append_getElem hil
            have := clause_l v hv0 hv1 l hl d (i + 1) k (by omega) (fun x hx => by
              rw [hst] at hx
              rcases List.mem_append.1 hx with hx | hx
              · exact hs x hx
              · rw [List.mem_singleton.1 hx]
                omega) (by omega)
            rw [hst] at this
            simp only [Bool.false_eq_true, if_false, Bool.or_false, Bool.not_false, Bool.true_and]
            exact this
theorem clause_val (v : Int) (hv0 : 0 ≤ v) (hv1 : v ≤ 12) (l : List Int) (hl : l.length ≤ 1048576) (k : Nat) (hk : 3000000 ≤ k) : spec_l4Clause.f k v l = some (isClauseB l v) := by
  unfold spec_l4Clause.f isClauseB
  have := clause_l v hv0 hv1 l (by omega) l.length 0 k (by omega) (by simp) (by omega)
  simpa using this

theorem clause_lits (v : Int) : ∀ (l seen : List Int), clauseFrom v seen l = true → ∀ n ∈ l, litB n v = true
  | [], _, _, n, hn => by simp at hn
  | a :: r, seen, h, n, hn => by
    unfold clauseFrom at h
    simp only [Bool.and_eq_true] at h
    rcases List.mem_cons.1 hn with rfl | hn
    · exact h.1
    · exact clause_lits v r _ h.2.2 n hn
theorem isClause_facts {v : Int} {c : List Int} (h : isClauseB c v = true) : c.length ≤ 12 ∧ ∀ n ∈ c, litB n v = true := by
  unfold isClauseB at h
  simp only [Bool.and_eq_true, decide_eq_true_eq] at h
  exact ⟨h.2, clause_lits v c [] h.1⟩

theorem vab_abs {n : Int} (h0 : -12 ≤ n) (h1 : n ≤ 12) : vab n = if 0 ≤ n then n else -n := by
  rw [vab_small h0 h1]
  by_cases h : 0 ≤ n
  · rw [if_pos h, if_neg (by omega)]
  · rw [if_neg h, if_pos (by omega)]

/-- A truth for each literal, the two of a variable told apart. -/
def Asg (a : Int → Bool) : Prop := ∀ n : Int, n ≠ 0 → -12 ≤ n → n ≤ 12 → a (-n) = !(a n)
def LitsC (c : List Int) : Prop := ∀ n ∈ c, n ≠ 0 ∧ -12 ≤ n ∧ n ≤ 12
theorem asg_lit (m : List Bool) : Asg (litAt m) := by
  intro n h0 h1 h2
  have e1 : vab (-n) = vab n := by
    rw [vab_abs (by omega) (by omega), vab_abs h1 h2]
    split <;> split <;> omega
  unfold litAt
  rw [e1]
  rcases Int.lt_or_gt_of_ne h0 with h | h
  · rw [decide_eq_true (show 0 < -n by omega), decide_eq_false (show ¬ 0 < n by omega)]
    cases rdOf false m (vab n - 1) <;> rfl
  · rw [decide_eq_false (show ¬ 0 < -n by omega), decide_eq_true (show 0 < n by omega)]
    cases rdOf false m (vab n - 1) <;> rfl
theorem holds_iff {l : List (List Int)} {m : List Bool} : holdsB l m = true ↔ ∀ c ∈ l, c.any (litAt m) = true := by
  unfold holdsB
  rw [List.all_eq_true]

def hasB (l : List Int) (n : Int) : Bool := l.any (· == n)

theorem filter_lt {α : Type} (p q : α → Bool) : ∀ (l : List α), (∀ a, q a = true → p a = true) → (∃ a ∈ l, p a = true ∧ q a = false) → (l.filter q).length < (l.filter p).length
  | [], _, ⟨a, ha, _⟩ => by simp at ha
  | b :: l, h, ⟨a, ha, hp, hq⟩ => by
    have hle : ∀ l : List α, (l.filter q).length ≤ (l.filter p).length := by
      intro l
      induction l with
      | nil => simp
      | cons c l ih =>
        cases hqc : q c with
        | true =>
          rw [List.filter_cons_of_pos hqc, List.filter_cons_of_pos (h c hqc)]
          simpa using ih
        | false =>
          rw [List.filter_cons_of_neg (by simp [hqc])]
          cases hpc : p c with
          | true =>
            rw [List.filter_cons_of_pos hpc]
            simp
            omega
          | false =>
            rw [List.filter_cons_of_neg (by simp [hpc])]
            exact ih
    rcases List.mem_cons.1 ha with rfl | ha
    · rw [List.filter_cons_of_neg (by simp [hq]), List.filter_cons_of_pos hp]
      have := hle l
      simp
      omega
    · have ih := filter_lt p q l h ⟨a, ha, hp, hq⟩
      cases hqb : q b with
      | true =>
        rw [List.filter_cons_of_pos hqb, List.filter_cons_of_pos (h b hqb)]
        simpa using ih
      | false =>
        rw [List.filter_cons_of_neg (by simp [hqb])]
        cases hpb : p b with
        | true =>
          rw [List.filter_cons_of_pos hpb]
          simp
          omega
        | false =>
          rw [List.filter_cons_of_neg (by simp [hpb])]
          exact ih
theorem hasB_app (l : List Int) (x n : Int) : hasB (l ++ [x]) n = (hasB l n || x == n) := by simp [hasB]
/-- The variables (less 1) of which no literal is there. -/
def freeV (out : List Int) : Nat := ((List.range 12).filter fun (i : Nat) => !(hasB out ((i : Int) + 1) || hasB out (-((i : Int) + 1)))).length
theorem freeV_lt (out : List Int) (x : Int) (h0 : x ≠ 0) (h1 : -12 ≤ x) (h2 : x ≤ 12) (h3 : hasB out x = false) (h4 : hasB out (-x) = false) : freeV (out ++ [x]) < freeV out := by
  unfold freeV
  refine filter_lt _ _ _ (fun i hi => ?_) ⟨x.natAbs - 1, by rw [List.mem_range]; omega, ?_, ?_⟩
  · simp only [hasB_app] at hi
    cases ha : hasB out ((i : Int) + 1) <;> cases hb : hasB out (-((i : Int) + 1)) <;> simp_all
  · rcases Int.lt_or_le x 0 with h | h
    · have e : ((x.natAbs - 1 : Nat) : Int) + 1 = -x := by omega
      rw [e, h4, Int.neg_neg, h3]
      rfl
    · have e : ((x.natAbs - 1 : Nat) : Int) + 1 = x := by omega
      rw [e, h3, h4]
      rfl
  · simp only [hasB_app]
    rcases Int.lt_or_le x 0 with h | h
    · have e : ((x.natAbs - 1 : Nat) : Int) + 1 = -x := by omega
      rw [e, Int.neg_neg]
      simp
    · have e : ((x.natAbs - 1 : Nat) : Int) + 1 = x := by omega
      rw [e]
      simp
theorem freeV_le (out : List Int) : freeV out ≤ 12 := by
  unfold freeV
  exact Nat.le_trans (List.length_filter_le _ _) (by simp)

theorem hasB_mem {l : List Int} {n : Int} : hasB l n = true ↔ n ∈ l := by
  unfold hasB
  rw [List.any_eq_true]
  exact ⟨fun ⟨x, hx, he⟩ => by have : x = n := by simpa using he
                               exact this ▸ hx, fun h => ⟨n, h, by simp⟩⟩
theorem hasB_no {l : List Int} {n : Int} : hasB l n = false ↔ n ∉ l := by
  rw [← hasB_mem]
  simp

theorem vab_iff {a b : Int} (ha : -12 ≤ a ∧ a ≤ 12) (hb : -12 ≤ b ∧ b ≤ 12) : (vab a == vab b) = true ↔ a = b ∨ a = -b := by
  rw [beq_iff_eq, vab_abs ha.1 ha.2, vab_abs hb.1 hb.2]
  split <;> split <;> omega
theorem litB12 {n : Int} : litB n 12 = true ↔ n ≠ 0 ∧ -12 ≤ n ∧ n ≤ 12 := by
  unfold litB
  rw [neg64 (n := 12) (by omega) (by omega)]
  simp only [Bool.and_eq_true, decide_eq_true_eq]
/-- A clause of 12 variables, letter by letter. -/
theorem clause12_iff : ∀ (l seen : List Int), LitsC seen → (clauseFrom 12 seen l = true ↔ (∀ n ∈ l, n ≠ 0 ∧ -12 ≤ n ∧ n ≤ 12) ∧ (∀ n ∈ l, n ∉ seen ∧ -n ∉ seen) ∧ l.Nodup ∧ ∀ n ∈ l, -n ∉ l)
  | [], seen, _ => by simp [clauseFrom]
  | a :: r, seen, hs => by
    unfold clauseFrom
    rw [Bool.and_eq_true, Bool.and_eq_true, litB12]
    constructor
    · rintro ⟨h1, h2, h3⟩
      have hs' : LitsC (seen ++ [a]) := fun n hn => (List.mem_append.1 hn).elim (hs n) fun hn => by
        have : n = a := by simpa using hn
        exact this ▸ h1
      obtain ⟨b1, b2, b3, b4⟩ := (clause12_iff r (seen ++ [a]) hs').1 h3
      rw [Bool.not_eq_true', List.any_eq_false] at h2
      have ha : a ∉ seen ∧ -a ∉ seen := by
        constructor
        · intro h
          exact h2 a h ((vab_iff ⟨h1.2.1, h1.2.2⟩ ⟨h1.2.1, h1.2.2⟩).2 (.inl rfl))
        · intro h
          have := hs _ h
          exact h2 _ h ((vab_iff ⟨this.2.1, this.2.2⟩ ⟨h1.2.1, h1.2.2⟩).2 (.inr rfl))
      refine ⟨fun n hn => ?_, fun n hn => ?_, ?_, fun n hn hm => ?_⟩
      · rcases List.mem_cons.1 hn with rfl | hn
        · exact h1
        · exact b1 n hn
      · rcases List.mem_cons.1 hn with rfl | hn
        · exact ha
        · have := b2 n hn
          exact ⟨fun h => this.1 (List.mem_append_left _ h), fun h => this.2 (List.mem_append_left _ h)⟩
      · refine List.nodup_cons.2 ⟨fun h => (b2 a h).1 (by simp), b3⟩
      · rcases List.mem_cons.1 hn with rfl | hn'
        · rcases List.mem_cons.1 hm with hm | hm
          · omega
          · exact (b2 _ hm).2 (by rw [Int.neg_neg]; simp)
        · rcases List.mem_cons.1 hm with hm | hm
          · exact (b2 n hn').2 (by rw [hm]; simp)
          · exact b4 n hn' hm
    · rintro ⟨h1, h2, h3, h4⟩
      have ha := h1 a List.mem_cons_self
      have hs' : LitsC (seen ++ [a]) := fun n hn => (List.mem_append.1 hn).elim (hs n) fun hn => by
        have : n = a := by simpa using hn
        exact this ▸ ha
      obtain ⟨n1, n2⟩ := List.nodup_cons.1 h3
      refine ⟨ha, ?_, (clause12_iff r (seen ++ [a]) hs').2 ⟨fun n hn => h1 n (List.mem_cons_of_mem _ hn), fun n hn => ?_, n2, fun n hn hm => h4 n (List.mem_cons_of_mem _ hn) (List.mem_cons_of_mem _ hm)⟩⟩
      · rw [Bool.not_eq_true', List.any_eq_false]
        intro k hk he
        have hk' := hs k hk
        have h5 := h2 a List.mem_cons_self
        rcases (vab_iff ⟨hk'.2.1, hk'.2.2⟩ ⟨ha.2.1, ha.2.2⟩).1 he with e | e
        · exact h5.1 (e ▸ hk)
        · exact h5.2 (e ▸ hk)
      · have h5 := h2 n (List.mem_cons_of_mem _ hn)
        constructor
        · intro h
          rcases List.mem_append.1 h with h | h
          · exact h5.1 h
          · have : n = a := by simpa using h
            exact n1 (this ▸ hn)
        · intro h
          rcases List.mem_append.1 h with h | h
          · exact h5.2 h
          · have : -n = a := by simpa using h
            exact h4 n (List.mem_cons_of_mem _ hn) (by rw [this]; simp)
theorem free_len : ∀ (l out : List Int), (∀ n ∈ l, n ≠ 0 ∧ -12 ≤ n ∧ n ≤ 12) → (∀ n ∈ l, n ∉ out ∧ -n ∉ out) → l.Nodup → (∀ n ∈ l, -n ∉ l) → freeV (out ++ l) + l.length ≤ freeV out
  | [], out, _, _, _, _ => by simp
  | a :: r, out, h1, h2, h3, h4 => by
    have ha := h1 a List.mem_cons_self
    have ho := h2 a List.mem_cons_self
    obtain ⟨n1, n2⟩ := List.nodup_cons.1 h3
    have hlt := freeV_lt out a ha.1 ha.2.1 ha.2.2 (hasB_no.2 ho.1) (hasB_no.2 ho.2)
    have ih := free_len r (out ++ [a]) (fun n hn => h1 n (List.mem_cons_of_mem _ hn)) (fun n hn => by
      have h5 := h2 n (List.mem_cons_of_mem _ hn)
      constructor
      · intro h
        rcases List.mem_append.1 h with h | h
        · exact h5.1 h
        · have : n = a := by simpa using h
          exact n1 (this ▸ hn)
      · intro h
        rcases List.mem_append.1 h with h | h
        · exact h5.2 h
        · have : -n = a := by simpa using h
          exact h4 n (List.mem_cons_of_mem _ hn) (by rw [this]; simp)) n2 (fun n hn hm => h4 n (List.mem_cons_of_mem _ hn) (List.mem_cons_of_mem _ hm))
    rw [List.append_assoc] at ih
    simp only [List.singleton_append] at ih
    rw [List.length_cons]
    omega
theorem isClause12 {l : List Int} : isClauseB l 12 = true ↔ (∀ n ∈ l, n ≠ 0 ∧ -12 ≤ n ∧ n ≤ 12) ∧ l.Nodup ∧ ∀ n ∈ l, -n ∉ l := by
  unfold isClauseB
  rw [Bool.and_eq_true, decide_eq_true_eq, clause12_iff l [] (by simp [LitsC])]
  constructor
  · rintro ⟨⟨a, _, b, c⟩, _⟩
    exact ⟨a, b, c⟩
  · rintro ⟨a, b, c⟩
    refine ⟨⟨a, by simp, b, c⟩, ?_⟩
    have h1 := free_len l [] a (by simp) b c
    have h2 := freeV_le []
    omega
/-- What cleaning leaves. -/
theorem cleanL_facts : ∀ (l acc : List Int), LitsC acc → LitsC l → acc.Nodup → (∀ n ∈ acc, -n ∉ acc) → (cleanL acc l).2 = true → (cleanL acc l).1.Nodup ∧ (∀ n ∈ (cleanL acc l).1, -n ∉ (cleanL acc l).1) ∧ (∀ n, n ∈ (cleanL acc l).1 ↔ n ∈ acc ∨ n ∈ l) ∧ LitsC (cleanL acc l).1
  | [], acc, h1, _, h3, h4, _ => by
    unfold cleanL
    exact ⟨h3, h4, by simp, h1⟩
  | a :: r, acc, h1, h2, h3, h4, h5 => by
    have ha := h2 a List.mem_cons_self
    have h2' : LitsC r := fun n hn => h2 n (List.mem_cons_of_mem _ hn)
    unfold cleanL at h5 ⊢
    rw [neg64 (n := a) (by omega) (by omega)] at h5 ⊢
    cases hn : acc.any (· == -a) with
    | true => rw [hn] at h5; simp at h5
    | false =>
      rw [hn] at h5
      have hna : -a ∉ acc := hasB_no.1 hn
      rw [if_neg Bool.false_ne_true] at h5 ⊢
      cases hp : acc.any (· == a) with
      | true =>
        rw [hp] at h5
        rw [if_pos rfl] at h5 ⊢
        have hpa : a ∈ acc := hasB_mem.1 hp
        obtain ⟨b1, b2, b3, b4⟩ := cleanL_facts r acc h1 h2' h3 h4 h5
        refine ⟨b1, b2, fun n => ?_, b4⟩
        rw [b3 n, List.mem_cons]
        constructor
        · rintro (h | h)
          · exact .inl h
          · exact .inr (.inr h)
        · rintro (h | rfl | h)
          · exact .inl h
          · exact .inl hpa
          · exact .inr h
      | false =>
        rw [hp] at h5
        rw [if_neg Bool.false_ne_true] at h5 ⊢
        have hpa : a ∉ acc := hasB_no.1 hp
        obtain ⟨b1, b2, b3, b4⟩ := cleanL_facts r (acc ++ [a]) (fun n hn => (List.mem_append.1 hn).elim (h1 n) fun hn => by
          have : n = a := by simpa using hn
          exact this ▸ ha) h2' (by
          rw [List.nodup_append]
          refine ⟨h3, by simp, fun x hx y hy => ?_⟩
          have : y = a := by simpa using hy
          subst this
          intro e
          exact hpa (e ▸ hx)) (fun n hn hm => by
          rcases List.mem_append.1 hn with hn | hn
          · rcases List.mem_append.1 hm with hm | hm
            · exact h4 n hn hm
            · have : -n = a := by simpa using hm
              exact hna (by rw [← this, Int.neg_neg]; exact hn)
          · have e : n = a := by simpa using hn
            subst e
            rcases List.mem_append.1 hm with hm | hm
            · exact hna hm
            · have : -n = n := by simpa using hm
              omega) h5
        refine ⟨b1, b2, fun n => ?_, b4⟩
        rw [b3 n, List.mem_append, List.mem_singleton, List.mem_cons]
        constructor
        · rintro ((h | h) | h)
          · exact .inl h
          · exact .inr (.inl h)
          · exact .inr (.inr h)
        · rintro (h | h | h)
          · exact .inl (.inl h)
          · exact .inl (.inr h)
          · exact .inr h
theorem cleanL_id : ∀ (l acc : List Int), LitsC l → (acc ++ l).Nodup → (∀ n ∈ acc ++ l, -n ∉ acc ++ l) → cleanL acc l = (acc ++ l, true)
  | [], acc, _, _, _ => by simp [cleanL]
  | a :: r, acc, h2, h3, h4 => by
    have ha := h2 a List.mem_cons_self
    have hna : hasB acc (-a) = false := hasB_no.2 fun h => h4 a (by simp) (List.mem_append_left _ h)
    have hpa : hasB acc a = false := hasB_no.2 fun h => by
      rw [List.nodup_append] at h3
      exact h3.2.2 a h a List.mem_cons_self rfl
    unfold hasB at hna hpa
    unfold cleanL
    rw [neg64 (n := a) (by omega) (by omega), hna, if_neg Bool.false_ne_true, hpa, if_neg Bool.false_ne_true]
    have e : acc ++ a :: r = (acc ++ [a]) ++ r := by simp
    rw [e] at h3 h4 ⊢
    exact cleanL_id r (acc ++ [a]) (fun n hn => h2 n (List.mem_cons_of_mem _ hn)) h3 h4

theorem implClean_l (l : List Int) (hl : l.length ≤ 1000) : ∀ (d i k : Nat) (acc : List Int), i + d = l.length → acc.length ≤ i → d < k → impl_clean.l0 k acc l (l.length : Int) (i : Int) = some (cleanL acc (l.drop i))
  | 0, i, k, acc, h1, h2, hk => by
    obtain ⟨k, rfl⟩ : ∃ m, k = m + 1 := ⟨k - 1, by omega⟩
    simp only [impl_clean.l0]
    rw [if_neg (by omega), List.drop_of_length_le (by omega)]
    rfl
  | d + 1, i, k, acc, h1, h2, hk => by
    obtain ⟨k, rfl⟩ : ∃ m, k = m + 1 := ⟨k - 1, by omega⟩
    have hil : i < l.length := by omega
    simp only [impl_clean.l0, slices_Contains_int_int.f, Option.bind_some, any_flip]
    rw [if_pos (by omega), if_pos (by omega), if_pos (by omega), rd_nat l i hil, next64 (by omega), drop_at l i hil]
    unfold cleanL
    cases acc.any (· == wrap64 (-l[i])) with
    | true => simp
    | false =>
      rw [if_neg Bool.false_ne_true, if_neg Bool.false_ne_true]
      cases acc.any (· == l[i]) with
      | true =>
        simp only [if_true]
        exact implClean_l l hl d (i + 1) k acc (by omega) (by omega) (by omega)
      | false =>
        rw [if_neg Bool.false_ne_true, if_neg Bool.false_ne_true, if_pos (by omega)]
        exact implClean_l l hl d (i + 1) k _ (by omega) (by simp; omega) (by omega)
theorem implClean_val (l : List Int) (hl : l.length ≤ 1000) (k : Nat) (hk : 3000000 ≤ k) : impl_clean.f k l = some (cleanL [] l) := by
  unfold impl_clean.f
  have := implClean_l l hl l.length 0 k [] (by omega) (by simp) (by omega)
  simpa using this

theorem specResolve_1 (v : Int) (l : List Int) (hl : l.length ≤ 1000) : ∀ (d i k : Nat) (acc : List Int), i + d = l.length → acc.length + d ≤ 2000 → d + 3000001 ≤ k →
    spec_l4Resolve.l1 k v acc l (l.length : Int) (i : Int) = (let y := acc ++ (l.drop i).filter fun x => !(x == wrap64 (-v)); if (y.length : Int) > 40 then some ([], false) else some (cleanS [] y)) := by
  intro d
  induction d with
  | zero =>
    intro i k acc h1 h2 hk
    obtain ⟨k, rfl⟩ : ∃ m, k = m + 1 := ⟨k - 1, by omega⟩
    rw [spec_l4Resolve.l1, if_neg (by omega), List.drop_of_length_le (by omega), cleanClause_spec acc k (by omega)]
    simp only [List.filter_nil, List.append_nil]
    split <;> simp
  | succ d ih =>
    intro i k acc h1 h2 hk
    obtain ⟨k, rfl⟩ : ∃ m, k = m + 1 := ⟨k - 1, by omega⟩
    have hi : i < l.length := by omega
    rw [spec_l4Resolve.l1, if_pos (by omega), if_pos (by omega), if_pos (by omega), rd_nat l i hi, next64 (by omega), if_pos (show acc.length < 17592186044416 by omega), drop_at l i hi]
    rw [ih (i + 1) k acc (by omega) (by omega) (by omega), ih (i + 1) k (acc ++ [l[i]]) (by omega) (by simp; omega) (by omega)]
    by_cases e : l[i] = wrap64 (-v)
    · rw [if_pos e, List.filter_cons_of_neg (by simp [e])]
    · rw [if_neg e, List.filter_cons_of_pos (by simp [e])]
      simp only [List.append_assoc, List.singleton_append]
theorem specResolve_0 (v : Int) (l m : List Int) (hl : l.length ≤ 1000) (hm : m.length ≤ 1000) : ∀ (d i k : Nat) (acc : List Int), i + d = l.length → acc.length + d ≤ 1000 → d + 3002001 ≤ k →
    spec_l4Resolve.l0 k m v acc l (l.length : Int) (i : Int) = (let y := acc ++ (l.drop i).filter (fun x => !(x == v)) ++ m.filter fun x => !(x == wrap64 (-v)); if (y.length : Int) > 40 then some ([], false) else some (cleanS [] y)) := by
  intro d
  induction d with
  | zero =>
    intro i k acc h1 h2 hk
    obtain ⟨k, rfl⟩ : ∃ m, k = m + 1 := ⟨k - 1, by omega⟩
    rw [spec_l4Resolve.l0, if_neg (by omega), List.drop_of_length_le (by omega)]
    have := specResolve_1 v m hm m.length 0 k acc (by omega) (by omega) (by omega)
    simp only [List.filter_nil, List.append_nil]
    simpa using this
  | succ d ih =>
    intro i k acc h1 h2 hk
    obtain ⟨k, rfl⟩ : ∃ m, k = m + 1 := ⟨k - 1, by omega⟩
    have hi : i < l.length := by omega
    rw [spec_l4Resolve.l0, if_pos (by omega), if_pos (by omega), if_pos (by omega), rd_nat l i hi, next64 (by omega), if_pos (show acc.length < 17592186044416 by omega), drop_at l i hi]
    rw [ih (i + 1) k acc (by omega) (by omega) (by omega), ih (i + 1) k (acc ++ [l[i]]) (by omega) (by simp; omega) (by omega)]
    by_cases e : l[i] = v
    · rw [if_pos e, List.filter_cons_of_neg (by simp [e])]
    · rw [if_neg e, List.filter_cons_of_pos (by simp [e])]
      simp only [List.append_assoc, List.cons_append, List.nil_append]
theorem resolve_both (l m : List Int) (v : Int) (hl : l.length ≤ 1048576) (hm : m.length ≤ 1048576) : ∃ r : List Int × Bool, r.1.length ≤ 1048576 ∧ (∀ k, 5000000 ≤ k → spec_Resolve.f k l m v = some r) ∧ ∀ k, 5000000 ≤ k → impl_Resolve.f k l m v = some r := by
  unfold spec_Resolve.f impl_Resolve.f impl_isClause.f slices_Contains_int_int.f
  cases h0 : isClauseB l 12 with
  | false =>
    refine ⟨([], false), by simp, fun k hk => ?_, fun k hk => rfl⟩
    rw [clause_val 12 (by omega) (by omega) l hl k (by omega), h0]
    rfl
  | true =>
    cases h1 : isClauseB m 12 with
    | false =>
      refine ⟨([], false), by simp, fun k hk => ?_, fun k hk => rfl⟩
      rw [clause_val 12 (by omega) (by omega) l hl k (by omega), clause_val 12 (by omega) (by omega) m hm k (by omega), h0, h1]
      rfl
    | true =>
      obtain ⟨hl12, hll⟩ := isClause_facts h0
      obtain ⟨hm12, hml⟩ := isClause_facts h1
      have hs : ∀ k, 5000000 ≤ k → ∀ (X : Bool → Option (List Int × Bool)), ((spec_l4Clause.f k 12 l).bind fun t => if t = true then ((spec_l4Clause.f k 12 m).bind fun t => X t) else some ([], false)) = X true := fun k hk X => by
        rw [clause_val 12 (by omega) (by omega) l hl k (by omega), clause_val 12 (by omega) (by omega) m hm k (by omega), h0, h1]
        rfl
      simp only [Option.bind_some, if_true]
      by_cases hv : v < 1
      · refine ⟨([], false), by simp, fun k hk => ?_, fun k hk => by rw [if_pos hv]⟩
        rw [hs k hk, if_pos rfl, specIn_val, show decide (1 ≤ v) = false from decide_eq_false (by omega)]
        rfl
      · simp only [if_neg hv]
        rw [any_flip l v]
        cases hh : l.any (· == v) with
        | false =>
          refine ⟨([], false), by simp, fun k hk => ?_, fun k hk => rfl⟩
          rw [hs k hk, if_pos rfl, specIn_val]
          simp only [Option.bind_some]
          cases (decide (1 ≤ v) && decide (v ≤ 12)) with
          | false => rfl
          | true =>
            rw [if_pos rfl, has_val l v (by omega) k (by omega), hh]
            rfl
        | true =>
          obtain ⟨x, hx, hxe⟩ := List.any_eq_true.1 hh
          have hxv : x = v := by simpa using hxe
          subst hxv
          obtain ⟨_, _, hx12⟩ := litB_small (by omega) (by omega) (hll x hx)
          rw [any_flip m (wrap64 (-x))]
          have hs2 : ∀ k, 5000000 ≤ k → ∀ (X : Bool → Option (List Int × Bool)), ((spec_l1In.f x 1 12).bind fun t138 => (if t138 = true then ((spec_l1Has.f k l x).bind fun t139 => (if t139 = true then ((spec_l1Has.f k m (wrap64 (-x))).bind fun t => X t) else some ([], false))) else some ([], false))) = X (m.any (· == wrap64 (-x))) := fun k hk X => by
            rw [specIn_val, show decide (1 ≤ x) = true from decide_eq_true (by omega), show decide (x ≤ 12) = true from decide_eq_true (by omega)]
            simp only [Option.bind_some, Bool.and_self, if_true]
            rw [has_val l x (by omega) k (by omega), hh]
            simp only [Option.bind_some, if_true]
            rw [has_val m _ (by omega) k (by omega)]
            rfl
          simp only [if_true]
          cases hn : m.any (· == wrap64 (-x)) with
          | false =>
            refine ⟨([], false), by simp, fun k hk => ?_, fun k hk => rfl⟩
            rw [hs k hk, if_pos rfl, hs2 k hk, hn]
            rfl
          | true =>
            obtain ⟨y, hy⟩ : ∃ y, y = (l.filter fun z => !(z == x)) ++ (m.filter fun z => !(z == wrap64 (-x))) := ⟨_, rfl⟩
            have hyl : y.length ≤ 24 := by
              have e1 := List.length_filter_le (fun z => !(z == x)) l
              have e2 := List.length_filter_le (fun z => !(z == wrap64 (-x))) m
              rw [hy, List.length_append]
              omega
            have hyb : (y.any fun n => !litB n 12) = false := by
              rw [List.any_eq_false]
              intro n hn2
              rw [hy, List.mem_append] at hn2
              rcases hn2 with h | h
              · simp [hll n (List.mem_filter.1 h).1]
              · simp [hml n (List.mem_filter.1 h).1]
            refine ⟨cleanL [] y, by have := clean_length y []; simp at this; omega, fun k hk => ?_, fun k hk => ?_⟩
            · rw [hs k hk, if_pos rfl, hs2 k hk, hn, if_pos rfl]
              have := specResolve_0 x l m (by omega) (by omega) l.length 0 k [] (by omega) (by simp; omega) (by omega)
              simp only [List.drop_zero, List.nil_append] at this
              rw [← hy, if_neg (by omega), cleanS_good y [] hyb] at this
              unfold spec_l4Resolve.f
              rw [show ((0 : Nat) : Int) = 0 from rfl] at this
              rw [this]
              rfl
            · unfold impl_resolve.f
              rw [if_pos rfl, if_pos (by omega), ← hy, implClean_val y (by omega) k (by omega)]
              rfl

theorem cleanClause_both (l : List Int) : ∃ (res : List Int) (ok : Bool), res.length ≤ 1048576 ∧ (∀ m, 3000000 ≤ m → spec_CleanClause.f m l = some (res, ok)) ∧ ∀ m, 3000000 ≤ m → impl_CleanClause.f m l = some (res, ok) := by
  by_cases h : (l.length : Int) > 40
  · refine ⟨[], false, by simp, fun m hm => ?_, fun m hm => ?_⟩
    · rw [cleanClause_spec l m hm, if_pos h]
    · unfold impl_CleanClause.f
      rw [if_pos h]
  · cases hb : l.any fun n => !litB n 12 with
    | true =>
      refine ⟨[], false, by simp, fun m hm => ?_, fun m hm => ?_⟩
      · rw [cleanClause_spec l m hm, if_neg h, cleanS_bad l [] hb]
      · unfold impl_CleanClause.f
        rw [if_neg h, hb]
        rfl
    | false =>
      refine ⟨(cleanL [] l).1, (cleanL [] l).2, by have := clean_length l []; simp at this; omega, fun m hm => ?_, fun m hm => ?_⟩
      · rw [cleanClause_spec l m hm, if_neg h, cleanS_good l [] hb]
      · unfold impl_CleanClause.f
        rw [if_neg h, hb, if_neg Bool.false_ne_true, implClean_val l (by omega) m hm]

theorem rdL_nat (l : List (List Int)) (i : Nat) (h : i < l.length) : rd_L1 l (i : Int) = l[i] := by
  unfold rd_L1
  rw [List.getD_eq_getElem?_getD, show ((i : Int).toNat) = i by omega, List.getElem?_eq_getElem h]
  rfl

def goodB (v : Int) (l : List (List Int)) : Bool := (decide (0 ≤ v) && decide (v ≤ 12)) && (decide (l.length ≤ 60) && l.all fun x => isClauseB x v)
theorem good_l (v : Int) (hv0 : 0 ≤ v) (hv1 : v ≤ 12) (l : List (List Int)) (hl : l.length ≤ 1048576) (hi : ∀ x ∈ l, x.length ≤ 1048576) : ∀ (d i k : Nat), i + d = l.length → d + 3000001 ≤ k → spec_l4Good.l0 k v l (l.length : Int) (i : Int) = some ((l.drop i).all fun x => isClauseB x v)
  | 0, i, k, h1, hk => by
    obtain ⟨k, rfl⟩ : ∃ m, k = m + 1 := ⟨k - 1, by omega⟩
    simp only [spec_l4Good.l0]
    rw [if_neg (by omega), List.drop_of_length_le (by omega)]
    rfl
  | d + 1, i, k, h1, hk => by
    obtain ⟨k, rfl⟩ : ∃ m, k = m + 1 := ⟨k - 1, by omega⟩
    have hil : i < l.length := by omega
    simp only [spec_l4Good.l0]
    rw [if_pos (by omega), if_pos (by omega), if_pos (by omega), rdL_nat l i hil, next64 (by omega), clause_val v hv0 hv1 l[i] (hi _ (List.getElem_mem _)) k (by omega), List.drop_eq_getElem_cons hil, List.all_cons]
    simp only [Option.bind_some]
    cases isClauseB l[i] v with
    | false => rfl
    | true =>
      first | rw [if_pos rfl] | rw [if_true]
      rw [good_l v hv0 hv1 l hl hi d (i + 1) k (by omega) (by omega)]
      rfl
theorem specGood_val (v : Int) (l : List (List Int)) (hl : l.length ≤ 1048576) (hi : ∀ x ∈ l, x.length ≤ 1048576) (k : Nat) (hk : 5000000 ≤ k) : spec_GoodClauses.f k v l = some (goodB v l) := by
  obtain ⟨k, rfl⟩ : ∃ m, k = m + 1 := ⟨k - 1, by omega⟩
  unfold spec_GoodClauses.f spec_l4Good.f goodB
  rw [specIn_val]
  simp only [Option.bind_some, spec_l4Good.j0]
  by_cases hv : 0 ≤ v ∧ v ≤ 12
  · rw [show (decide (0 ≤ v) && decide (v ≤ 12)) = true by simp [hv.1, hv.2], if_pos rfl]
    by_cases h60 : l.length ≤ 60
    · have : decide ((l.length : Int) > 60) = false := decide_eq_false (by omega)
      rw [this, if_neg Bool.false_ne_true]
      have h := good_l v hv.1 hv.2 l hl hi l.length 0 k (by omega) (by omega)
      simp only [List.drop_zero] at h
      rw [show ((0 : Nat) : Int) = 0 from rfl] at h
      rw [h]
      simp [h60]
    · have : decide ((l.length : Int) > 60) = true := decide_eq_true (by omega)
      rw [this]
      first | rw [if_pos rfl] | rw [if_true]
      simp [h60]
  · have hd : (decide (0 ≤ v) && decide (v ≤ 12)) = false := by
      rw [Bool.and_eq_false_iff]
      rcases Int.lt_or_le v 0 with h | h
      · exact .inl (decide_eq_false (by omega))
      · exact .inr (decide_eq_false (by omega))
    rw [hd, if_neg Bool.false_ne_true]
    first | rw [if_pos rfl] | rw [if_true]
    rfl
theorem implIn_val (n a b : Int) : impl_in.f n a b = some (decide (a ≤ n) && decide (n ≤ b)) := by
  unfold impl_in.f
  by_cases h : n ≥ a
  · rw [if_pos h]
    simp [h]
  · rw [if_neg h]
    simp [h]
theorem implGood_val (v : Int) (l : List (List Int)) : impl_GoodClauses.f v l = some (goodB v l) := by
  unfold impl_GoodClauses.f impl_areClauses.f goodB
  rw [implIn_val]
  simp only [Option.bind_some]
  cases (decide (0 ≤ v) && decide (v ≤ 12)) with
  | false => rfl
  | true =>
    first | rw [if_pos rfl] | rw [if_true]
    by_cases h60 : l.length ≤ 60
    · rw [if_pos (by omega)]
      simp [h60, List.all_eq_not_any_not]
    · rw [if_neg (by omega)]
      simp [h60]
theorem goodB_facts {v : Int} {l : List (List Int)} (h : goodB v l = true) : 0 ≤ v ∧ v ≤ 12 ∧ l.length ≤ 60 ∧ ∀ x ∈ l, isClauseB x v = true := by
  unfold goodB at h
  simp only [Bool.and_eq_true, decide_eq_true_eq, List.all_eq_true] at h
  exact ⟨h.1.1, h.1.2, h.2.1, h.2.2⟩

theorem goodB_lits {v : Int} {l : List (List Int)} (h : goodB v l = true) : ∀ c ∈ l, c.length ≤ 12 ∧ ∀ n ∈ c, n ≠ 0 ∧ -v ≤ n ∧ n ≤ v := by
  obtain ⟨h0, h1, _, h2⟩ := goodB_facts h
  intro c hc
  obtain ⟨a, b⟩ := isClause_facts (h2 c hc)
  exact ⟨a, fun n hn => litB_small h0 h1 (b n hn)⟩

theorem rdB_nat (l : List Bool) (i : Nat) (h : i < l.length) : rdOf false l (i : Int) = l[i] := by
  unfold rdOf
  rw [List.getD_eq_getElem?_getD, show ((i : Int).toNat) = i by omega, List.getElem?_eq_getElem h]
  rfl

theorem fits_good {v : Int} {l : List (List Int)} (h : goodB v l = true) (m : List Bool) (hm : (m.length : Int) = v) : fitsModel l m = true := by
  obtain ⟨h0, h1, h2, _⟩ := goodB_facts h
  unfold fitsModel
  rw [List.all_eq_true]
  intro c hc
  rw [List.all_eq_true]
  intro n hn
  obtain ⟨a0, a1, a2⟩ := (goodB_lits h c hc).2 n hn
  rw [vab_small (by omega) (by omega)]
  simp only [Bool.and_eq_true, decide_eq_true_eq]
  split <;> omega
theorem implHolds_val {v : Int} {l : List (List Int)} (h : goodB v l = true) (m : List Bool) (hm : (m.length : Int) = v) : impl_holds.f l m = some (holdsB l m) := by
  unfold impl_holds.f
  rw [if_pos (fits_good h m hm)]

theorem lit_val (m : List Bool) (n : Int) (h0 : n ≠ 0) (h1 : -(m.length : Int) ≤ n) (h2 : n ≤ (m.length : Int)) (hm : m.length ≤ 12) : spec_l4Lit.f m n = some (litAt m n) := by
  unfold spec_l4Lit.f litAt
  rw [vab_small (by omega) (by omega)]
  by_cases hn : n < 0
  · rw [if_pos hn, neg64 (by omega) (by omega), w64 (by omega) (by omega), if_pos (by omega), if_pos (by omega), if_pos (by omega)]
    have : decide (0 < n) = false := decide_eq_false (by omega)
    rw [this]
    cases rdOf false m (-n - 1) <;> rfl
  · rw [if_neg hn, w64 (by omega) (by omega), if_pos (by omega), if_pos (by omega), if_neg (by omega)]
    have : decide (0 < n) = true := decide_eq_true (by omega)
    rw [this]
    cases rdOf false m (n - 1) <;> rfl
theorem holds_in (m : List Bool) (hm : m.length ≤ 12) (l : List (List Int)) (N I : Int) (c : List Int) (hc : c.length ≤ 12) (hl : ∀ n ∈ c, n ≠ 0 ∧ -(m.length : Int) ≤ n ∧ n ≤ (m.length : Int)) : ∀ (d j k : Nat) (s : Bool), j + d = c.length →
    spec_l4Holds.l1 (d + 1 + k) m s l N I c (c.length : Int) (j : Int) = if (s || (c.drop j).any (litAt m)) = true then spec_l4Holds.l0 k m l N (wrap64 (I + 1)) else some false
  | 0, j, k, s, h1 => by
    rw [show 0 + 1 + k = k + 1 by omega]
    simp only [spec_l4Holds.l1]
    rw [if_neg (by omega), List.drop_of_length_le (by omega)]
    simp
  | d + 1, j, k, s, h1 => by
    have hj : j < c.length := by omega
    obtain ⟨a0, a1, a2⟩ := hl c[j] (List.getElem_mem _)
    rw [show d + 1 + 1 + k = (d + 1 + k) + 1 by omega]
    simp only [spec_l4Holds.l1]
    rw [if_pos (by omega), if_pos (by omega), if_pos (by omega), rd_nat c j hj, next64 (by omega), lit_val m c[j] a0 a1 a2 hm, drop_at c j hj, List.any_cons]
    simp only [Option.bind_some]
    rw [holds_in m hm l N I c hc hl d (j + 1) k true (by omega), holds_in m hm l N I c hc hl d (j + 1) k (litAt m c[j]) (by omega)]
    cases s <;> simp
theorem holds_out (m : List Bool) (hm : m.length ≤ 12) (l : List (List Int)) (hl : l.length ≤ 1048576) (hc : ∀ c ∈ l, c.length ≤ 12 ∧ ∀ n ∈ c, n ≠ 0 ∧ -(m.length : Int) ≤ n ∧ n ≤ (m.length : Int)) : ∀ (d i k : Nat), i + d = l.length → d * 15 + 1 ≤ k → spec_l4Holds.l0 k m l (l.length : Int) (i : Int) = some ((l.drop i).all fun c => c.any (litAt m))
  | 0, i, k, h1, hk => by
    obtain ⟨k, rfl⟩ : ∃ m, k = m + 1 := ⟨k - 1, by omega⟩
    simp only [spec_l4Holds.l0]
    rw [if_neg (by omega), List.drop_of_length_le (by omega)]
    rfl
  | d + 1, i, k, h1, hk => by
    obtain ⟨k, rfl⟩ : ∃ m, k = m + 1 := ⟨k - 1, by omega⟩
    have hil : i < l.length := by omega
    obtain ⟨c1, c2⟩ := hc l[i] (List.getElem_mem _)
    simp only [spec_l4Holds.l0]
    rw [if_pos (by omega), if_pos (by omega), if_pos (by omega), rdL_nat l i hil, List.drop_eq_getElem_cons hil, List.all_cons]
    obtain ⟨k', rfl⟩ : ∃ k', k = l[i].length + 1 + k' := ⟨k - l[i].length - 1, by omega⟩
    have h := holds_in m hm l (l.length : Int) (i : Int) l[i] c1 c2 l[i].length 0 k' false (by omega)
    rw [show ((0 : Nat) : Int) = 0 from rfl] at h
    rw [h]
    simp only [Bool.false_or, List.drop_zero]
    cases l[i].any (litAt m) with
    | false => rfl
    | true =>
      simp only [if_true, Bool.true_and]
      rw [next64 (by omega)]
      exact holds_out m hm l hl hc d (i + 1) k' (by omega) (by omega)
theorem specHolds_val {v : Int} {l : List (List Int)} (h : goodB v l = true) (m : List Bool) (hm : (m.length : Int) = v) (k : Nat) (hk : 100000 ≤ k) : spec_l4Holds.f k l m = some (holdsB l m) := by
  obtain ⟨h0, h1, h2, _⟩ := goodB_facts h
  unfold spec_l4Holds.f holdsB
  have := holds_out m (by omega) l (by omega) (fun c hc => by rw [hm]; exact goodB_lits h c hc) l.length 0 k (by omega) (by omega)
  simpa using this

theorem holdsAll_both (v : Int) (l : List (List Int)) (m : List Bool) (hl : l.length ≤ 1048576) (hi : ∀ x ∈ l, x.length ≤ 1048576) : ∃ r : Bool × Bool, (∀ k, 5000000 ≤ k → spec_HoldsAll.f k v l m = some r) ∧ impl_HoldsAll.f v l m = some r := by
  unfold spec_HoldsAll.f impl_HoldsAll.f
  rw [implGood_val]
  cases hg : goodB v l with
  | false => exact ⟨(false, false), fun k hk => by rw [specGood_val v l hl hi k hk, hg]; rfl, rfl⟩
  | true =>
    by_cases hm : (m.length : Int) = v
    · refine ⟨(holdsB l m, true), fun k hk => ?_, ?_⟩
      · rw [specGood_val v l hl hi k hk, hg]
        simp only [Option.bind_some, if_true]
        rw [if_pos hm, specHolds_val hg m hm k (by omega)]
        rfl
      · simp only [Option.bind_some, if_true]
        rw [if_pos hm, implHolds_val hg m hm]
        rfl
    · refine ⟨(false, false), fun k hk => ?_, ?_⟩
      · rw [specGood_val v l hl hi k hk, hg]
        simp only [Option.bind_some, if_true]
        rw [if_neg hm]
      · simp only [Option.bind_some, if_true]
        rw [if_neg hm]

theorem implHoldsAll_val {v : Int} {l : List (List Int)} (hg : goodB v l = true) (m : List Bool) (hm : (m.length : Int) = v) : impl_HoldsAll.f v l m = some (holdsB l m, true) := by
  unfold impl_HoldsAll.f
  rw [implGood_val, hg]
  simp only [Option.bind_some, if_true]
  rw [if_pos hm, implHolds_val hg m hm]
  rfl

def bitAt (num : Int) (i : Nat) : Bool := (Go.bits .and .i64 (shr .i64 num (i : Int)) 1) == 1
def modelL (v : Nat) (num : Int) : List Bool := (List.range v).map fun i => bitAt num i
theorem modelL_length (v : Nat) (num : Int) : (modelL v num).length = v := by simp [modelL]
theorem u64_small {x : Int} (h0 : 0 ≤ x) (h1 : x ≤ 1000) : IntKind.u64.wrap x = x := by
  simp [IntKind.wrap, IntKind.bits, IntKind.signed]
  omega

theorem implModel_l (num : Int) : ∀ (d i k : Nat) (y : List Bool), i + d = y.length → y.length ≤ 1000 → (∀ j, j < i → y[j]? = some (bitAt num j)) → d < k → impl_model.l0 k num y (y.length : Int) (i : Int) = some (modelL y.length num)
  | 0, i, k, y, h1, h2, h3, hk => by
    obtain ⟨k, rfl⟩ : ∃ m, k = m + 1 := ⟨k - 1, by omega⟩
    simp only [impl_model.l0]
    rw [if_neg (by omega)]
    congr 1
    apply List.ext_getElem?
    intro j
    by_cases hj : j < y.length
    · rw [h3 j (by omega)]
      simp [modelL, hj]
    · rw [List.getElem?_eq_none (by omega), List.getElem?_eq_none (by rw [modelL_length]; omega)]
  | d + 1, i, k, y, h1, h2, h3, hk => by
    obtain ⟨k, rfl⟩ : ∃ m, k = m + 1 := ⟨k - 1, by omega⟩
    simp only [impl_model.l0]
    rw [if_pos (by omega), if_pos (by omega), if_pos (by omega), next64 (by omega), show ((i : Int).toNat) = i by omega]
    have ih := implModel_l num d (i + 1) k (y.set i (bitAt num i)) (by rw [List.length_set]; omega) (by rw [List.length_set]; omega) (fun j hj => by
      rw [List.getElem?_set]
      by_cases e : i = j
      · subst e
        rw [if_pos rfl, if_pos (by omega)]
      · rw [if_neg e]
        exact h3 j (by omega)) (by omega)
    rw [List.length_set] at ih
    exact ih
theorem implModel_val (v : Int) (h0 : 0 ≤ v) (h1 : v ≤ 12) (num : Int) (k : Nat) (hk : 1000 ≤ k) : impl_model.f k v num = some (modelL v.toNat num) := by
  unfold impl_model.f
  rw [if_pos h0, if_pos (by omega)]
  simp only [Option.bind_some]
  have := implModel_l num v.toNat 0 k (List.replicate v.toNat false) (by simp) (by simp; omega) (fun j hj => absurd hj (by omega)) (by omega)
  rw [List.length_replicate] at this ⊢
  exact this
/-- How many of the models from number x on, d of them, are models of the clauses. -/
def countFrom (v : Nat) (l : List (List Int)) : Nat → Int → Int
  | 0, _ => 0
  | d + 1, x => (if holdsB l (modelL v x) = true then 1 else 0) + countFrom v l d (x + 1)
theorem shl_pow (v : Int) (h0 : 0 ≤ v) (h1 : v ≤ 12) : shl .i64 1 v = ((2 ^ v.toNat : Nat) : Int) := by
  unfold shl
  have h : v.toNat ≤ 12 := by omega
  rw [Nat.min_eq_left (show v.toNat ≤ IntKind.i64.bits by simp [IntKind.bits]; omega), IntKind.wrap_i64]
  have hp : 2 ^ v.toNat ≤ 2 ^ 12 := Nat.pow_le_pow_right (by decide) h
  have e : ((2 : Int) ^ v.toNat) = ((2 ^ v.toNat : Nat) : Int) := by simp
  rw [Int.one_mul, e]
  generalize 2 ^ v.toNat = p at hp
  omega
theorem implCount_l (v : Int) (l : List (List Int)) (hg : goodB v l = true) : ∀ (d : Nat) (x c : Int) (k : Nat), x + d = ((2 ^ v.toNat : Nat) : Int) → 0 ≤ x → 0 ≤ c → c ≤ x → d + 200000 ≤ k → impl_countModels.l0 k v l c ((2 ^ v.toNat : Nat) : Int) x = some (c + countFrom v.toNat l d x) := by
  obtain ⟨h0, h1, _, _⟩ := goodB_facts hg
  have hp : 2 ^ v.toNat ≤ 2 ^ 12 := Nat.pow_le_pow_right (by decide) (by omega)
  intro d
  induction d with
  | zero =>
    intro x c k hx hx0 hc0 hcx hk
    obtain ⟨k, rfl⟩ : ∃ m, k = m + 1 := ⟨k - 1, by omega⟩
    simp only [impl_countModels.l0]
    rw [if_neg (by omega)]
    simp [countFrom]
  | succ d ih =>
    intro x c k hx hx0 hc0 hcx hk
    obtain ⟨k, rfl⟩ : ∃ m, k = m + 1 := ⟨k - 1, by omega⟩
    have hm : ((modelL v.toNat x).length : Int) = v := by rw [modelL_length]; omega
    simp only [impl_countModels.l0]
    rw [if_pos (by omega), implModel_val v h0 h1 x k (by omega)]
    simp only [Option.bind_some]
    rw [implHolds_val hg _ hm, w64 (x := x + 1) (by omega) (by omega), w64 (x := c + 1) (by omega) (by omega)]
    simp only [Option.bind_some]
    unfold countFrom
    cases holdsB l (modelL v.toNat x) with
    | true =>
      simp only [if_true]
      rw [ih (x + 1) (c + 1) k (by omega) (by omega) (by omega) (by omega) (by omega)]
      congr 1
      omega
    | false =>
      rw [if_neg Bool.false_ne_true, if_neg Bool.false_ne_true, ih (x + 1) c k (by omega) (by omega) (by omega) (by omega) (by omega)]
      congr 1
      omega
def countR (v : Int) (l : List (List Int)) : Int := countFrom v.toNat l (2 ^ v.toNat) 0
theorem implCountModels_val (v : Int) (l : List (List Int)) (hg : goodB v l = true) (k : Nat) (hk : 5000000 ≤ k) : impl_countModels.f k v l = some (countR v l) := by
  obtain ⟨h0, h1, _, _⟩ := goodB_facts hg
  have hp : 2 ^ v.toNat ≤ 2 ^ 12 := Nat.pow_le_pow_right (by decide) (by omega)
  unfold impl_countModels.f
  rw [if_pos h0, shl_pow v h0 h1, implCount_l v l hg (2 ^ v.toNat) 0 0 k (by omega) (by omega) (by omega) (by omega) (by omega)]
  unfold countR
  simp

theorem modelSame : ∀ (k : Nat) (num : Int) (y : List Bool) (n i : Int), n ≤ 1000 → 0 ≤ i → spec_l4Model.l0 k num y n i = impl_model.l0 k num y n i
  | 0, _, _, _, _, _, _ => rfl
  | k + 1, num, y, n, i, hn, h0 => by
    simp only [spec_l4Model.l0, impl_model.l0]
    by_cases h : i < n
    · rw [if_pos h, if_pos h, u64_small h0 (by omega), if_pos h0, w64 (by omega) (by omega), modelSame k num _ n (i + 1) hn (by omega)]
    · rw [if_neg h, if_neg h]
theorem specModel_val (v : Int) (h0 : 0 ≤ v) (h1 : v ≤ 12) (num : Int) (k : Nat) (hk : 1000 ≤ k) : spec_l4Model.f k v num = some (modelL v.toNat num) := by
  rw [← implModel_val v h0 h1 num k hk]
  unfold spec_l4Model.f impl_model.f
  rw [if_pos h0, if_pos h0, if_pos (by omega), if_pos (by omega)]
  simp only [Option.bind_some]
  exact modelSame k num _ _ 0 (by rw [List.length_replicate]; omega) (by omega)
theorem specCount_l (v : Int) (l : List (List Int)) (hg : goodB v l = true) : ∀ (d : Nat) (x c : Int) (k : Nat), x + d = ((2 ^ v.toNat : Nat) : Int) → 0 ≤ x → 0 ≤ c → c ≤ x → d + 200000 ≤ k → spec_CountModels.l0 k v l c x = some (c + countFrom v.toNat l d x, true) := by
  obtain ⟨h0, h1, _, _⟩ := goodB_facts hg
  have hp : 2 ^ v.toNat ≤ 2 ^ 12 := Nat.pow_le_pow_right (by decide) (by omega)
  intro d
  induction d with
  | zero =>
    intro x c k hx hx0 hc0 hcx hk
    obtain ⟨k, rfl⟩ : ∃ m, k = m + 1 := ⟨k - 1, by omega⟩
    simp only [spec_CountModels.l0]
    rw [u64_small h0 (by omega), if_pos h0, shl_pow v h0 h1, if_neg (by omega)]
    simp [countFrom]
  | succ d ih =>
    intro x c k hx hx0 hc0 hcx hk
    obtain ⟨k, rfl⟩ : ∃ m, k = m + 1 := ⟨k - 1, by omega⟩
    have hm : ((modelL v.toNat x).length : Int) = v := by rw [modelL_length]; omega
    simp only [spec_CountModels.l0]
    rw [u64_small h0 (by omega), if_pos h0, shl_pow v h0 h1, if_pos (by omega), specModel_val v h0 h1 x k (by omega)]
    simp only [Option.bind_some]
    rw [specHolds_val hg _ hm k (by omega), w64 (x := x + 1) (by omega) (by omega), w64 (x := c + 1) (by omega) (by omega)]
    simp only [Option.bind_some]
    unfold countFrom
    cases holdsB l (modelL v.toNat x) with
    | true =>
      simp only [if_true]
      rw [ih (x + 1) (c + 1) k (by omega) (by omega) (by omega) (by omega) (by omega)]
      congr 2
      omega
    | false =>
      rw [if_neg Bool.false_ne_true, if_neg Bool.false_ne_true, ih (x + 1) c k (by omega) (by omega) (by omega) (by omega) (by omega)]
      congr 2
      omega
theorem specCount_val (v : Int) (l : List (List Int)) (hl : l.length ≤ 1048576) (hi : ∀ x ∈ l, x.length ≤ 1048576) (k : Nat) (hk : 5000000 ≤ k) : spec_CountModels.f k v l = some (if goodB v l = true then (countR v l, true) else (0, false)) := by
  unfold spec_CountModels.f
  rw [specGood_val v l hl hi k hk]
  simp only [Option.bind_some]
  cases hg : goodB v l with
  | false => rfl
  | true =>
    obtain ⟨h0, h1, _, _⟩ := goodB_facts hg
    have hp : 2 ^ v.toNat ≤ 2 ^ 12 := Nat.pow_le_pow_right (by decide) (by omega)
    simp only [if_true]
    rw [specCount_l v l hg (2 ^ v.toNat) 0 0 k (by omega) (by omega) (by omega) (by omega) (by omega)]
    unfold countR
    simp

theorem implCount_val (v : Int) (l : List (List Int)) (k : Nat) (hk : 5000000 ≤ k) : impl_CountModels.f k v l = some (if goodB v l = true then (countR v l, true) else (0, false)) := by
  unfold impl_CountModels.f
  rw [implGood_val]
  simp only [Option.bind_some]
  cases hg : goodB v l with
  | false => rfl
  | true =>
    simp only [if_true]
    rw [implCountModels_val v l hg k hk]
    rfl


theorem modelOf_l (num : Int) : ∀ (d i k : Nat) (y : List Bool), i + d = y.length → y.length ≤ 1000 → (∀ j, j < i → y[j]? = some (bitAt num j)) → d < k → laws_modelOf.l0 k num y (y.length : Int) (i : Int) = some (modelL y.length num)
  | 0, i, k, y, h1, h2, h3, hk => by
    obtain ⟨k, rfl⟩ : ∃ m, k = m + 1 := ⟨k - 1, by omega⟩
    simp only [laws_modelOf.l0]
    rw [if_neg (by omega)]
    congr 1
    apply List.ext_getElem?
    intro j
    by_cases hj : j < y.length
    · rw [h3 j (by omega)]
      simp [modelL, hj]
    · rw [List.getElem?_eq_none (by omega), List.getElem?_eq_none (by rw [modelL_length]; omega)]
  | d + 1, i, k, y, h1, h2, h3, hk => by
    obtain ⟨k, rfl⟩ : ∃ m, k = m + 1 := ⟨k - 1, by omega⟩
    simp only [laws_modelOf.l0]
    rw [u64_small (x := (i : Int)) (by omega) (by omega), if_pos (by omega), if_pos (by omega), if_pos (by omega), if_pos (by omega), next64 (by omega), show ((i : Int).toNat) = i by omega]
    have ih := modelOf_l num d (i + 1) k (y.set i (bitAt num i)) (by rw [List.length_set]; omega) (by rw [List.length_set]; omega) (fun j hj => by
      rw [List.getElem?_set]
      by_cases e : i = j
      · subst e
        rw [if_pos rfl, if_pos (by omega)]
      · rw [if_neg e]
        exact h3 j (by omega)) (by omega)
    rw [List.length_set] at ih
    exact ih
theorem modelOf_val (v : Int) (h0 : 0 ≤ v) (h1 : v ≤ 12) (num : Int) (k : Nat) (hk : 1000 ≤ k) : laws_modelOf.f k v num = some (modelL v.toNat num) := by
  unfold laws_modelOf.f
  rw [if_pos h0, if_pos (by omega)]
  simp only [Option.bind_some]
  have := modelOf_l num v.toNat 0 k (List.replicate v.toNat false) (by simp) (by simp; omega) (fun j hj => absurd hj (by omega)) (by omega)
  rw [List.length_replicate] at this ⊢
  exact this

theorem sameInts_l (l : List Int) (hl : l.length ≤ 1048576) : ∀ (d i k : Nat), i + d = l.length → d < k → laws_sameInts.l0 k l l (l.length : Int) (i : Int) = some true
  | 0, i, k, h1, hk => by
    obtain ⟨k, rfl⟩ : ∃ m, k = m + 1 := ⟨k - 1, by omega⟩
    simp only [laws_sameInts.l0]
    rw [if_neg (by omega)]
  | d + 1, i, k, h1, hk => by
    obtain ⟨k, rfl⟩ : ∃ m, k = m + 1 := ⟨k - 1, by omega⟩
    simp only [laws_sameInts.l0, if_true]
    rw [if_pos (by omega), if_pos (by omega), if_pos (by omega), if_pos (by omega), next64 (by omega)]
    exact sameInts_l l hl d (i + 1) k (by omega) (by omega)
theorem sameInts_refl (l : List Int) (hl : l.length ≤ 1048576) (k : Nat) (hk : l.length < k) : laws_sameInts.f k l l = some true := by
  unfold laws_sameInts.f
  rw [if_pos rfl]
  exact sameInts_l l hl l.length 0 k (by omega) hk

theorem numberOf_l (l : List Int) (hl : l.length ≤ 10000000) (hu : U8 l) : ∀ (d i k : Nat) (n : Int), i + d = l.length → d < k → 0 ≤ n → n ≤ 1000003 → ∃ r, laws_numberOf.l0 k n l (l.length : Int) (i : Int) = some r ∧ 0 ≤ r ∧ r ≤ 1000003
  | 0, i, k, n, h1, hk, h2, h3 => by
    obtain ⟨k, rfl⟩ : ∃ m, k = m + 1 := ⟨k - 1, by omega⟩
    simp only [laws_numberOf.l0]
    rw [if_neg (by omega)]
    exact ⟨n, rfl, h2, h3⟩
  | d + 1, i, k, n, h1, hk, h2, h3 => by
    obtain ⟨k, rfl⟩ : ∃ m, k = m + 1 := ⟨k - 1, by omega⟩
    have hil : i < l.length := by omega
    have hb := hu _ (List.getElem_mem hil)
    simp only [laws_numberOf.l0]
    rw [if_pos (by omega), if_pos (by omega), if_pos (by omega), rd_nat l i hil, next64 (by omega), w64 (x := 31 * n) (by omega) (by omega), w64 (x := l[i]) (by omega) (by omega), w64 (by omega) (by omega), Int.tmod_eq_emod_of_nonneg (by omega)]
    exact numberOf_l l hl hu d (i + 1) k _ (by omega) (by omega) (by omega) (by omega)
theorem numberOf_ok (l : List Int) (hl : l.length ≤ 10000000) (hu : U8 l) (k : Nat) (hk : l.length < k) : ∃ r, laws_numberOf.f k l = some r ∧ 0 ≤ r ∧ r ≤ 1000003 := by
  unfold laws_numberOf.f
  exact numberOf_l l hl hu l.length 0 k 0 (by omega) hk (by omega) (by omega)
theorem lhas_l (l : List Int) (x : Int) (hl : l.length ≤ 1048576) : ∀ (d i k : Nat), i + d = l.length → d < k → laws_has.l0 k x l (l.length : Int) (i : Int) = some ((l.drop i).any (· == x))
  | 0, i, k, h1, hk => by
    obtain ⟨k, rfl⟩ : ∃ m, k = m + 1 := ⟨k - 1, by omega⟩
    simp only [laws_has.l0]
    rw [if_neg (by omega), List.drop_of_length_le (by omega)]
    rfl
  | d + 1, i, k, h1, hk => by
    obtain ⟨k, rfl⟩ : ∃ m, k = m + 1 := ⟨k - 1, by omega⟩
    simp only [laws_has.l0]
    rw [if_pos (by omega), if_pos (by omega), if_pos (by omega), rd_nat l i (by omega), next64 (by omega), drop_at l i (by omega), List.any_cons]
    by_cases e : l[i] = x
    · rw [if_pos e, show (l[i] == x) = true by simpa using e, Bool.true_or]
    · rw [if_neg e, lhas_l l x hl d (i + 1) k (by omega) (by omega), show (l[i] == x) = false by simpa using e, Bool.false_or]
theorem lhas_val (l : List Int) (x : Int) (hl : l.length ≤ 1048576) (k : Nat) (hk : l.length < k) : laws_has.f k l x = some (hasB l x) := by
  unfold laws_has.f
  have := lhas_l l x hl l.length 0 k (by omega) hk
  unfold hasB
  simpa using this
/-- What Resolve returns. -/
def resolveR (a b : List Int) (v : Int) : List Int × Bool := if isClauseB a 12 = true then (if isClauseB b 12 = true then (if v < 1 then ([], false) else (if hasB a v = true then (if hasB b (wrap64 (-v)) = true then cleanL [] ((a.filter fun x => !(x == v)) ++ (b.filter fun x => !(x == wrap64 (-v)))) else ([], false)) else ([], false))) else ([], false)) else ([], false)
theorem implResolve_val (a b : List Int) (v : Int) (k : Nat) (hk : 5000000 ≤ k) : impl_Resolve.f k a b v = some (resolveR a b v) := by
  unfold impl_Resolve.f impl_isClause.f slices_Contains_int_int.f resolveR
  simp only [Option.bind_some, any_flip]
  cases ha : isClauseB a 12 with
  | false => rfl
  | true =>
    cases hb : isClauseB b 12 with
    | false => rfl
    | true =>
      simp only [if_true]
      by_cases hv : v < 1
      · rw [if_pos hv, if_pos hv]
      · rw [if_neg hv, if_neg hv]
        unfold hasB
        cases h1 : a.any (· == v) with
        | false => rfl
        | true =>
          cases h2 : b.any (· == wrap64 (-v)) with
          | false => rfl
          | true =>
            have la := (isClause_facts ha).1
            have lb := (isClause_facts hb).1
            have e1 := List.length_filter_le (fun x => !(x == v)) a
            have e2 := List.length_filter_le (fun x => !(x == wrap64 (-v))) b
            simp only [if_true]
            unfold impl_resolve.f
            rw [if_pos (by omega), implClean_val _ (by rw [List.length_append]; omega) k (by omega)]
            rfl
theorem specResolve_val (a b : List Int) (v : Int) (ha : a.length ≤ 1048576) (hb : b.length ≤ 1048576) (k : Nat) (hk : 5000000 ≤ k) : spec_Resolve.f k a b v = some (resolveR a b v) := by
  obtain ⟨r, _, h1, h2⟩ := resolve_both a b v ha hb
  rw [h1 k hk, ← h2 k hk, implResolve_val a b v k hk]
theorem resolveR_length (a b : List Int) (v : Int) (ha : a.length ≤ 1048576) (hb : b.length ≤ 1048576) : (resolveR a b v).1.length ≤ 1048576 := by
  obtain ⟨r, h, _, h2⟩ := resolve_both a b v ha hb
  have := (h2 5000000 (Nat.le_refl _)).symm.trans (implResolve_val a b v 5000000 (Nat.le_refl _))
  rw [← Option.some.inj this]
  exact h
theorem lits12 {l : List Int} (h : isClauseB l 12 = true) : LitsC l := (isClause12.1 h).1
/-- The resolvent: a clause, without the variable, that holds where both do. -/
theorem resolve_sem {a b : List Int} {v : Int} (h : (resolveR a b v).2 = true) : isClauseB a 12 = true ∧ isClauseB b 12 = true ∧ isClauseB (resolveR a b v).1 12 = true ∧ 1 ≤ v ∧ v ≤ 12 ∧ v ∉ (resolveR a b v).1 ∧ -v ∉ (resolveR a b v).1 ∧ ∀ m, a.any (litAt m) = true → b.any (litAt m) = true → (resolveR a b v).1.any (litAt m) = true := by
  unfold resolveR at h ⊢
  cases ha : isClauseB a 12 with
  | false => rw [ha] at h; cases h
  | true =>
    cases hb : isClauseB b 12 with
    | false => rw [ha, hb] at h; cases h
    | true =>
      rw [ha, hb] at h
      simp only [if_true] at h ⊢
      by_cases hv : v < 1
      · rw [if_pos hv] at h; cases h
      · rw [if_neg hv] at h
        rw [if_neg hv]
        cases h1 : hasB a v with
        | false => rw [h1] at h; cases h
        | true =>
          have hav := hasB_mem.1 h1
          obtain ⟨a1, a2, a3⟩ := isClause12.1 ha
          obtain ⟨b1, b2, b3⟩ := isClause12.1 hb
          have hv12 := a1 v hav
          cases h2 : hasB b (wrap64 (-v)) with
          | false => rw [h1, h2] at h; cases h
          | true =>
            rw [neg64 (by omega) (by omega)] at h2
            have hbv := hasB_mem.1 h2
            rw [h1, neg64 (by omega) (by omega), h2] at h
            simp only [if_true] at h ⊢
            rw [neg64 (n := v) (by omega) (by omega)]
            have hl : LitsC ((a.filter fun x => !(x == v)) ++ (b.filter fun x => !(x == -v))) := fun n hn => by
              rcases List.mem_append.1 hn with hn | hn
              · exact a1 n (List.mem_filter.1 hn).1
              · exact b1 n (List.mem_filter.1 hn).1
            obtain ⟨c1, c2, c3, c4⟩ := cleanL_facts _ [] (by simp [LitsC]) hl (by simp) (by simp) h
            have hmem : ∀ n, n ∈ (cleanL [] ((a.filter fun x => !(x == v)) ++ (b.filter fun x => !(x == -v)))).1 ↔ (n ∈ a ∧ n ≠ v) ∨ (n ∈ b ∧ n ≠ -v) := fun n => by
              rw [c3 n]
              simp [List.mem_append, List.mem_filter]
            refine ⟨by trivial, by trivial, isClause12.2 ⟨c4, c1, c2⟩, by omega, by omega, fun h' => ?_, fun h' => ?_, fun m hm1 hm2 => ?_⟩
            · rcases (hmem v).1 h' with ⟨_, h3⟩ | ⟨h3, _⟩
              · exact h3 rfl
              · exact b3 v h3 hbv
            · rcases (hmem (-v)).1 h' with ⟨h3, _⟩ | ⟨_, h3⟩
              · exact a3 v hav h3
              · exact h3 rfl
            · obtain ⟨x, hx, hxt⟩ := List.any_eq_true.1 hm1
              obtain ⟨y, hy, hyt⟩ := List.any_eq_true.1 hm2
              by_cases e : x = v
              · by_cases e2 : y = -v
                · have := asg_lit m v hv12.1 hv12.2.1 hv12.2.2
                  rw [← e2, hyt, ← e, hxt] at this
                  cases this
                · exact List.any_eq_true.2 ⟨y, (hmem y).2 (.inr ⟨hy, e2⟩), hyt⟩
              · exact List.any_eq_true.2 ⟨x, (hmem x).2 (.inl ⟨hx, e⟩), hxt⟩
theorem good12 {l : List (List Int)} (hl : l.length ≤ 60) (h : ∀ c ∈ l, isClauseB c 12 = true) : goodB 12 l = true := by
  unfold goodB
  rw [decide_eq_true (show l.length ≤ 60 from hl), List.all_eq_true.2 h]
  rfl
theorem specModel_gen (v : Int) (h0 : 0 ≤ v) (h1 : v ≤ 1000) (num : Int) (k : Nat) (hk : 2000 ≤ k) : ∃ m, spec_l4Model.f k v num = some m ∧ m.length = v.toNat := by
  unfold spec_l4Model.f
  rw [if_pos h0, if_pos (by omega)]
  simp only [Option.bind_some]
  rw [modelSame k num _ _ 0 (by rw [List.length_replicate]; omega) (by omega)]
  have := implModel_l num v.toNat 0 k (List.replicate v.toNat false) (by simp) (by simp; omega) (fun j hj => absurd hj (by omega)) (by omega)
  rw [List.length_replicate] at this ⊢
  exact ⟨_, this, modelL_length _ _⟩
theorem drawResolve_ok {c : List Int} (hc : U8 c) (k : Nat) (hk : 6000000 ≤ k) : ∃ a b v, spec_DrawResolve.f k c = some (a, b, v) ∧ a.length ≤ 100 ∧ b.length ≤ 100 := by
  unfold spec_DrawResolve.f spec_l1Most.f
  obtain ⟨n, l, p1, s1, e, a1, b1, hl, v0, v1⟩ := clauses_ok hc 0 (p := 0) (by omega) (by omega) k (by omega)
  rw [e]
  simp only [Option.bind_some]
  have hmost : ∃ t, (if (1 : Int) > n then some (1 : Int) else some n) = some t := by split <;> exact ⟨_, rfl⟩
  obtain ⟨t, ht⟩ := hmost
  rw [ht]
  simp only [Option.bind_some]
  obtain ⟨r, p2, s2, e2, a2, b2, r0, r1, _⟩ := pick_ok hc s1 t (p := p1) (by omega) (by omega)
  rw [e2]
  simp only [Option.bind_some]
  by_cases h : (l.length : Int) > 1
  · have g0 : (rd_L1 l 0).length ≤ 60 := by
      have : rd_L1 l 0 = l[0]'(by omega) := by
        unfold rd_L1
        rw [List.getD_eq_getElem?_getD, show ((0 : Int).toNat) = 0 from rfl, List.getElem?_eq_getElem (by omega)]
        rfl
      rw [this]
      exact hl.2 _ (List.getElem_mem _)
    have g1 : (rd_L1 l 1).length ≤ 60 := by
      have : rd_L1 l 1 = l[1]'(by omega) := by
        unfold rd_L1
        rw [List.getD_eq_getElem?_getD, show ((1 : Int).toNat) = 1 from rfl, List.getElem?_eq_getElem (by omega)]
        rfl
      rw [this]
      exact hl.2 _ (List.getElem_mem _)
    rw [if_pos h, if_pos (by omega), if_pos (by simp; omega)]
    obtain ⟨x, bx, ex, hx⟩ := drawClean_gen ([wrap64 (1 + r)] ++ rd_L1 l 0) k (by omega)
    obtain ⟨y, by_, ey, hy⟩ := drawClean_gen ([wrap64 (-wrap64 (1 + r))] ++ rd_L1 l 1) k (by omega)
    rw [List.length_append, List.length_singleton] at hx hy
    rw [ex]
    simp only [Option.bind_some]
    rw [if_pos h, if_pos (by simp; omega), ey]
    simp only [Option.bind_some]
    cases bx with
    | false =>
      rw [if_neg Bool.false_ne_true]
      exact ⟨_, _, _, rfl, by omega, by omega⟩
    | true =>
      rw [if_pos rfl]
      cases by_ with
      | false =>
        rw [if_neg Bool.false_ne_true]
        exact ⟨_, _, _, rfl, by omega, by omega⟩
      | true =>
        rw [if_pos rfl]
        exact ⟨_, _, _, rfl, by omega, by omega⟩
  · rw [if_neg h]
    exact ⟨_, _, _, rfl, by simp, by simp⟩
theorem drawHolds_ok {c : List Int} (hc : U8 c) (k : Nat) (hk : 6000000 ≤ k) : ∃ v l m, spec_DrawHoldsAll.f k c = some (v, l, m) ∧ ClOk l 14 60 := by
  unfold spec_DrawHoldsAll.f
  obtain ⟨n, l, p1, s1, e, a1, b1, hl, v0, v1⟩ := clauses_ok hc 0 (p := 0) (by omega) (by omega) k (by omega)
  obtain ⟨r2, p2, s2, e2, a2, b2, r20, r21, _⟩ := pick_ok hc s1 20 (p := p1) (by omega) (by omega)
  obtain ⟨r3, p3, s3, e3, a3, b3, r30, r31, _⟩ := pick_ok hc s2 256 (p := p2) (by omega) (by omega)
  obtain ⟨r4, p4, s4, e4, a4, b4, r40, r41, _⟩ := pick_ok hc s3 256 (p := p3) (by omega) (by omega)
  replace r21 := r21 (by omega)
  rw [e]
  simp only [Option.bind_some]
  rw [e2]
  simp only [Option.bind_some]
  rw [e3]
  simp only [Option.bind_some]
  rw [e4]
  simp only [Option.bind_some]
  have hd : Int.tdiv r2 19 = r2 / 19 := Int.tdiv_eq_ediv_of_nonneg r20
  rw [hd, w64 (x := r2 / 19) (by omega) (by omega), w64 (x := n + r2 / 19) (by omega) (by omega)]
  obtain ⟨m, hm, _⟩ := specModel_gen (n + r2 / 19) (by omega) (by omega) (wrap64 (wrap64 (r3 * 256) + r4)) k (by omega)
  rw [hm]
  exact ⟨n, l, m, rfl, hl⟩
/-- What CleanClause returns. -/
def cleanClauseR (l : List Int) : List Int × Bool := if (l.length : Int) > 40 then ([], false) else if (l.any fun n => !litB n 12) = true then ([], false) else cleanL [] l
theorem implCleanR_val (l : List Int) (k : Nat) (hk : 3000000 ≤ k) : impl_CleanClause.f k l = some (cleanClauseR l) := by
  unfold impl_CleanClause.f cleanClauseR
  by_cases h : (l.length : Int) > 40
  · rw [if_pos h, if_pos h]
  · rw [if_neg h, if_neg h]
    cases hb : l.any fun n => !litB n 12 with
    | true => rfl
    | false =>
      rw [if_neg Bool.false_ne_true, if_neg Bool.false_ne_true, implClean_val l (by omega) k hk]
theorem specCleanR_val (l : List Int) (k : Nat) (hk : 3000000 ≤ k) : spec_CleanClause.f k l = some (cleanClauseR l) := by
  obtain ⟨r, ok, _, h1, h2⟩ := cleanClause_both l
  rw [h1 k hk, ← h2 k hk, implCleanR_val l k hk]
theorem cleanClauseR_length (l : List Int) : (cleanClauseR l).1.length ≤ 1048576 := by
  unfold cleanClauseR
  split
  · simp
  · split
    · simp
    · have := clean_length l []
      simp at this
      omega
theorem cleanClauseR_idem {l : List Int} (h : (cleanClauseR l).2 = true) : cleanClauseR (cleanClauseR l).1 = ((cleanClauseR l).1, true) ∧ (cleanClauseR l).1.length ≤ 1048576 := by
  have hlen := cleanClauseR_length l
  refine ⟨?_, hlen⟩
  have hfacts : ∃ x, (cleanClauseR l).1 = x ∧ x.length ≤ 40 ∧ LitsC x ∧ x.Nodup ∧ ∀ n ∈ x, -n ∉ x := by
    unfold cleanClauseR at h ⊢
    split at h
    · cases h
    · rename_i h1
      split at h
      · cases h
      · rename_i h2
        have hl : LitsC l := fun n hn => by
          have h3 : ¬ ((!litB n 12) = true) := fun e => h2 (List.any_eq_true.2 ⟨n, hn, e⟩)
          exact litB12.1 (by simpa using h3)
        obtain ⟨c1, c2, _, c4⟩ := cleanL_facts l [] (by simp [LitsC]) hl (by simp) (by simp) h
        have h4 := clean_length l []
        rw [if_neg h1, if_neg h2]
        exact ⟨_, rfl, by simp at h4; omega, c4, c1, c2⟩
  obtain ⟨x, hx, x1, x2, x3, x4⟩ := hfacts
  rw [hx]
  unfold cleanClauseR
  have hno : (x.any fun n => !litB n 12) = false := by
    rw [List.any_eq_false]
    intro n hn
    rw [litB12.2 (x2 n hn)]
    simp
  rw [if_neg (by omega), hno, if_neg Bool.false_ne_true, cleanL_id x [] x2 (by simpa using x3) (by simpa using x4)]
  simp
theorem resolved_j3 (l : List Int) (k : Nat) (hk : 5000000 ≤ k) : laws_FnResolved.j3 k (cleanClauseR l).1 (cleanClauseR l).2 false = some true := by
  obtain ⟨k, rfl⟩ : ∃ m, k = m + 1 := ⟨k - 1, by omega⟩
  simp only [laws_FnResolved.j3]
  rw [if_neg Bool.false_ne_true]
  cases hok : (cleanClauseR l).2 with
  | false =>
    rw [if_neg Bool.false_ne_true]
  | true =>
    rw [if_pos rfl, implCleanR_val _ k (by omega)]
    obtain ⟨h1, h2⟩ := cleanClauseR_idem hok
    rw [h1]
    simp only [Option.bind_some, if_true]
    rw [sameInts_refl _ h2 k (by omega)]
    rfl
theorem resolved_j2 {d : List Int} (hd : U8 d) (k : Nat) (hk : 9000000 ≤ k) : laws_FnResolved.j2 k d = some true := by
  obtain ⟨k, rfl⟩ : ∃ m, k = m + 1 := ⟨k - 1, by omega⟩
  obtain ⟨l, e1, hl⟩ := drawCleanClause_ok hd k (by omega)
  obtain ⟨v, w, p1, s1, e2, _, _, hw, v0, v1⟩ := clauses_ok hd 0 (p := 0) (by omega) (by omega) k (by omega)
  obtain ⟨hwb, hwi⟩ := clOk_bounds hw (by omega) (by omega)
  have hdraw : spec_DrawCountModels.f k d = some (v, w) := by
    unfold spec_DrawCountModels.f spec_DrawGoodClauses.f
    rw [e2]
    rfl
  obtain ⟨q, w2, m, e3, hw2⟩ := drawHolds_ok hd k (by omega)
  obtain ⟨hwb2, hwi2⟩ := clOk_bounds hw2 (by omega) (by omega)
  obtain ⟨r, h1, h2⟩ := holdsAll_both q w2 m hwb2 hwi2
  simp only [laws_FnResolved.j2]
  rw [e1]
  simp only [Option.bind_some]
  rw [implCleanR_val l k (by omega), specCleanR_val l k (by omega), hdraw]
  simp only [Option.bind_some]
  rw [implCount_val v w k (by omega), specCount_val v w hwb hwi k (by omega), e3]
  simp only [Option.bind_some]
  rw [h2, h1 k (by omega)]
  simp only [Option.bind_some, bne_self_eq_false]
  rw [if_neg Bool.false_ne_true, sameInts_refl _ (cleanClauseR_length l) k (by have := cleanClauseR_length l; omega)]
  simp only [Option.bind_some, if_true]
  rw [if_neg Bool.false_ne_true, if_neg Bool.false_ne_true]
  exact resolved_j3 l k (by omega)
theorem resolved_l0 {d : List Int} (hd : U8 d) (hdl : d.length ≤ 1048576) {a b r : List Int} {v : Int} (ha : isClauseB a 12 = true) (hb : isClauseB b 12 = true) (hr : isClauseB r 12 = true) (hv : 1 ≤ v ∧ v ≤ 12) (h1 : v ∉ r) (h2 : -v ∉ r)
    (himp : ∀ m, a.any (litAt m) = true → b.any (litAt m) = true → r.any (litAt m) = true) : ∀ (n : Nat) (x : Int) (k : Nat), x + n = 64 → 0 ≤ x → 9000000 + n < k → laws_FnResolved.l0 k d a b v r x = some true
  | 0, x, k, hx, hx0, hk => by
    obtain ⟨k, rfl⟩ : ∃ m, k = m + 1 := ⟨k - 1, by omega⟩
    have hrl := (isClause_facts hr).1
    simp only [laws_FnResolved.l0]
    rw [if_neg (by omega), lhas_val r v (by omega) k (by omega), hasB_no.2 h1]
    simp only [Option.bind_some]
    rw [if_neg Bool.false_ne_true, w64 (x := -v) (by omega) (by omega), lhas_val r (-v) (by omega) k (by omega), hasB_no.2 h2]
    simp only [Option.bind_some]
    rw [if_neg Bool.false_ne_true]
    exact resolved_j2 hd k (by omega)
  | n + 1, x, k, hx, hx0, hk => by
    obtain ⟨k, rfl⟩ : ∃ m, k = m + 1 := ⟨k - 1, by omega⟩
    have ih := resolved_l0 hd hdl ha hb hr hv h1 h2 himp n (x + 1) k (by omega) (by omega) (by omega)
    obtain ⟨t, ht, t0, t1⟩ := numberOf_ok d (by omega) hd k (by omega)
    simp only [laws_FnResolved.l0]
    rw [if_pos (by omega), ht]
    simp only [Option.bind_some]
    rw [modelOf_val 12 (by omega) (by omega) _ k (by omega)]
    simp only [Option.bind_some]
    have hml : ((modelL (12 : Int).toNat (wrap64 (wrap64 (t * 64) + x))).length : Int) = 12 := by rw [modelL_length]; rfl
    generalize modelL (12 : Int).toNat (wrap64 (wrap64 (t * 64) + x)) = m at hml
    rw [implHoldsAll_val (good12 (by simp) (fun c hc => by
      rcases List.mem_cons.1 hc with rfl | hc
      · exact ha
      · have : c = b := by simpa using hc
        exact this ▸ hb)) m hml, implHoldsAll_val (good12 (by simp) (fun c hc => by
      have : c = r := by simpa using hc
      exact this ▸ hr)) m hml]
    simp only [Option.bind_some, if_true]
    rw [w64 (x := x + 1) (by omega) (by omega)]
    cases hh : holdsB [a, b] m with
    | false =>
      rw [if_neg Bool.false_ne_true]
      exact ih
    | true =>
      have h3 := holds_iff.1 hh
      have : holdsB [r] m = true := holds_iff.2 fun c hc => by
        have : c = r := by simpa using hc
        subst this
        exact himp m (h3 a (by simp)) (h3 b (by simp))
      rw [if_pos rfl, this, if_pos rfl]
      exact ih

theorem FnResolved : laws_FnResolved.Pure := by
  intro c d hc0 hc1 hc2 hd0 hd1 hd2
  obtain ⟨k, hk⟩ : ∃ k : Nat, 20000000 ≤ k := ⟨_, Nat.le_refl _⟩
  refine ⟨k + 2, ?_⟩
  have hc := u8_of hc2
  have hd := u8_of hd2
  unfold laws_FnResolved.f
  by_cases hbig : wrap64 ((c.length : Int) + (d.length : Int)) > 1048576
  · rw [if_pos hbig]
  · rw [if_neg hbig]
    have hdl : d.length ≤ 1048576 := by
      rw [w64 (by omega) (by omega)] at hbig
      omega
    obtain ⟨a, b, v, e, hal, hbl⟩ := drawResolve_ok hc (k + 2) (by omega)
    have hrl := resolveR_length a b v (by omega) (by omega)
    rw [e]
    simp only [Option.bind_some]
    rw [implResolve_val a b v (k + 2) (by omega), specResolve_val a b v (by omega) (by omega) (k + 2) (by omega)]
    simp only [Option.bind_some, bne_self_eq_false]
    rw [if_neg Bool.false_ne_true, sameInts_refl _ hrl (k + 2) (by omega)]
    simp only [Option.bind_some, Bool.not_true, laws_FnResolved.j0]
    rw [if_neg Bool.false_ne_true]
    cases hok : (resolveR a b v).2 with
    | false =>
      rw [if_neg Bool.false_ne_true]
      exact resolved_j2 hd (k + 1) (by omega)
    | true =>
      obtain ⟨r1, r2, r3, r4, r5, r6, r7, r8⟩ := resolve_sem hok
      rw [if_pos rfl]
      exact resolved_l0 hd hdl r1 r2 r3 ⟨r4, r5⟩ r6 r7 r8 64 0 (k + 1) (by omega) (by omega) (by omega)

end Go.Proofs.Ytpkbjgmeejlchab.Pure
