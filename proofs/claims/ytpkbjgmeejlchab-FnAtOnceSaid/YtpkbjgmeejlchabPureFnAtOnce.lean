/- The pure statement of the law FnAtOnce: the printed functions of the program and of the reference give the same answers, at every input that the statement's guards let in. -/
import Derived.Test.YtpkbjgmeejlchabPFnAtOncex9
namespace Go.Proofs.Ytpkbjgmeejlchab.Pure
open Go.RowKit Go.Proofs.Ytpkbjgmeejlchab.PFnAtOnce Go.Proofs.YtpkbjgmeejlchabW.PrintWords Go.Proofs.YtpkbjgmeejlchabW.PrintLast Go.Proofs.YtpkbjgmeejlchabW.PrintMore
set_option linter.unusedSimpArgs false
set_option linter.unusedVariables false
theorem w64 {x : Int} (h0 : -9223372036854775808 ≤ x) (h1 : x ≤ 9223372036854775807) : wrap64 x = x := by
  unfold wrap64
  omega
theorem l64 {a : Int} (h : (Lit.int .i64 a).wf = true) : -9223372036854775808 ≤ a ∧ a ≤ 9223372036854775807 := by
  simp only [Lit.wf, IntKind.min, IntKind.max, IntKind.signed, IntKind.bits, Bool.and_eq_true, decide_eq_true_eq, if_true] at h
  omega
theorem rd_nat (l : List Int) (i : Nat) (h : i < l.length) : rd l (i : Int) = l[i] := by
  unfold rd
  rw [List.getD_eq_getElem?_getD, show ((i : Int).toNat) = i by omega, List.getElem?_eq_getElem h]
  rfl
theorem next64 {i : Nat} (h : i ≤ 4611686018427387904) : wrap64 ((i : Int) + 1) = ((i + 1 : Nat) : Int) := by
  rw [w64 (by omega) (by omega)]
  omega

def U8 (c : List Int) : Prop := ∀ x ∈ c, 0 ≤ x ∧ x ≤ 255
theorem u8_of {c : List Int} (h : ∀ x ∈ c, (Lit.int .u8 x).wf = true) : U8 c := fun x hx => by
  have := h x hx
  simp [Lit.wf, IntKind.min, IntKind.max, IntKind.signed, IntKind.bits] at this
  omega
theorem u64_range (x : Int) : 0 ≤ IntKind.u64.wrap x ∧ IntKind.u64.wrap x < 18446744073709551616 := by
  rw [show IntKind.u64.wrap x = x % 18446744073709551616 by simp [IntKind.wrap, IntKind.bits, IntKind.signed]]
  omega
theorem and255 {x : Int} (h0 : 0 ≤ x) (h1 : x < 18446744073709551616) : 0 ≤ Go.bits .and .u64 x 255 ∧ Go.bits .and .u64 x 255 ≤ 255 := by
  obtain ⟨n, rfl⟩ : ∃ n : Nat, x = n := ⟨x.toNat, by omega⟩
  have e : Go.bits .and .u64 (n : Int) 255 = ((n &&& 255 : Nat) : Int) := bits_and_u64_nat n 255 (by omega) (by omega)
  have : n &&& 255 ≤ 255 := Nat.and_le_right
  rw [e]
  omega
theorem next_ok {c : List Int} (hc : U8 c) {p : Int} (s : Int) (h0 : 0 ≤ p) (h1 : p ≤ 1000000000000) : ∃ b s', spec_l1Cur_next.f c p s = some (b, p + 1, s') ∧ 0 ≤ b ∧ b ≤ 255 := by
  unfold spec_l1Cur_next.f
  rw [w64 (x := p + 1) (by omega) (by omega)]
  by_cases h : p < (c.length : Int)
  · have hb : 0 ≤ rd c p ∧ rd c p ≤ 255 := by
      obtain ⟨i, rfl⟩ : ∃ i : Nat, p = i := ⟨p.toNat, by omega⟩
      rw [rd_nat c i (by omega)]
      exact hc _ (List.getElem_mem _)
    rw [if_pos h, if_pos h0, if_pos (by omega), w64 (x := rd c p) (by omega) (by omega)]
    exact ⟨_, _, rfl, hb.1, hb.2⟩
  · rw [if_neg h, if_neg (by omega)]
    have hr := u64_range (IntKind.u64.wrap (IntKind.u64.wrap (s * 6364136223846793005) + 0) + 1442695040888963407)
    have hb := and255 (x := IntKind.u64.wrap (IntKind.u64.wrap (IntKind.u64.wrap (s * 6364136223846793005) + 0) + 1442695040888963407) / 1099511627776) (by omega) (by omega)
    rw [w64 (x := Go.bits .and .u64 _ 255) (by omega) (by omega)]
    exact ⟨_, _, rfl, hb.1, hb.2⟩
theorem pick_ok {c : List Int} (hc : U8 c) {p : Int} (s : Int) (n : Int) (h0 : 0 ≤ p) (h1 : p ≤ 999999999000) : ∃ r p' s', spec_l1Cur_pick.f c p s n = some (r, p', s') ∧ p ≤ p' ∧ p' ≤ p + 2 ∧ 0 ≤ r ∧ (1 ≤ n → r < n) ∧ (n ≤ 1 → r = 0) := by
  unfold spec_l1Cur_pick.f
  by_cases h : n ≤ 1
  · rw [if_pos h]
    exact ⟨0, p, s, rfl, by omega, by omega, by omega, by omega, by omega⟩
  · rw [if_neg h]
    obtain ⟨b, s1, e1, b0, b1⟩ := next_ok hc s h0 (by omega)
    rw [e1]
    simp only [Option.bind_some]
    have ht : ∀ x : Int, 0 ≤ x → 0 ≤ Int.tmod x n ∧ Int.tmod x n < n := fun x hx => by
      rw [Int.tmod_eq_emod_of_nonneg hx]
      exact ⟨Int.emod_nonneg _ (by omega), Int.emod_lt_of_pos _ (by omega)⟩
    by_cases h2 : n > 200
    · rw [if_pos h2]
      obtain ⟨d, s2, e2, d0, d1⟩ := next_ok hc s1 (p := p + 1) (by omega) (by omega)
      rw [e2]
      simp only [Option.bind_some]
      rw [if_neg (by omega), w64 (x := b * 256) (by omega) (by omega), w64 (by omega) (by omega)]
      obtain ⟨a1, a2⟩ := ht (b * 256 + d) (by omega)
      exact ⟨_, _, _, rfl, by omega, by omega, a1, fun _ => a2, by omega⟩
    · rw [if_neg h2, if_neg (by omega)]
      obtain ⟨a1, a2⟩ := ht b b0
      exact ⟨_, _, _, rfl, by omega, by omega, a1, fun _ => a2, by omega⟩
theorem among_ok {c : List Int} (hc : U8 c) {p : Int} (s : Int) (l : List Int) (hl : 0 < l.length) (h0 : 0 ≤ p) (h1 : p ≤ 999999999000) : ∃ r p' s', spec_l1Cur_among.f c p s l = some (r, p', s') ∧ p ≤ p' ∧ p' ≤ p + 2 ∧ r ∈ l := by
  unfold spec_l1Cur_among.f
  obtain ⟨r, p', s', e, a, b, r0, r1, _⟩ := pick_ok hc s (l.length : Int) h0 h1
  have hr := r1 (by omega)
  rw [e]
  simp only [Option.bind_some]
  rw [if_pos r0, if_pos hr]
  obtain ⟨i, rfl⟩ : ∃ i : Nat, r = i := ⟨r.toNat, by omega⟩
  rw [rd_nat l i (by omega)]
  exact ⟨_, _, _, rfl, a, b, List.getElem_mem _⟩
theorem one_ok {c : List Int} (hc : U8 c) {p : Int} (s : Int) (n : Int) (h0 : 0 ≤ p) (h1 : p ≤ 999999999000) : ∃ r p' s', spec_l1Cur_one.f c p s n = some (r, p', s') ∧ p ≤ p' ∧ p' ≤ p + 2 := by
  unfold spec_l1Cur_one.f
  obtain ⟨r, p', s', e, a, b, _, _, _⟩ := pick_ok hc s n h0 h1
  rw [e]
  exact ⟨_, _, _, rfl, a, b⟩

theorem drop_at (l : List Int) (i : Nat) (h : i < l.length) : l.drop i = l[i] :: l.drop (i + 1) := List.drop_eq_getElem_cons h
theorem has_l (l : List Int) (x : Int) (hl : l.length ≤ 1099511627776) : ∀ (d i k : Nat), i + d = l.length → d < k → spec_l1Has.l0 k x l (l.length : Int) (i : Int) = some ((l.drop i).any (· == x))
  | 0, i, k, h1, hk => by
    obtain ⟨k, rfl⟩ : ∃ m, k = m + 1 := ⟨k - 1, by omega⟩
    simp only [spec_l1Has.l0]
    rw [if_neg (by omega), List.drop_of_length_le (by omega)]
    rfl
  | d + 1, i, k, h1, hk => by
    obtain ⟨k, rfl⟩ : ∃ m, k = m + 1 := ⟨k - 1, by omega⟩
    simp only [spec_l1Has.l0]
    rw [if_pos (by omega), if_pos (by omega), if_pos (by omega), rd_nat l i (by omega), next64 (by omega), drop_at l i (by omega)]
    by_cases e : l[i] = x
    · rw [if_pos e]
      rw [List.any_cons, show (l[i] == x) = true by simpa using e, Bool.true_or]
    · rw [if_neg e, has_l l x hl d (i + 1) k (by omega) (by omega), List.any_cons, show (l[i] == x) = false by simpa using e, Bool.false_or]
theorem has_val (l : List Int) (x : Int) (hl : l.length ≤ 1099511627776) (k : Nat) (hk : l.length < k) : spec_l1Has.f k l x = some (l.any (· == x)) := by
  unfold spec_l1Has.f
  have := has_l l x hl l.length 0 k (by omega) hk
  simpa using this

theorem specIn_val (n a b : Int) : spec_l1In.f n a b = some (decide (a ≤ n) && decide (n ≤ b)) := by
  unfold spec_l1In.f
  by_cases h : n ≥ a
  · rw [if_pos h]
    simp [h]
  · rw [if_neg h]
    simp [h]
theorem neg64 {n : Int} (h0 : -4611686018427387904 ≤ n) (h1 : n ≤ 4611686018427387904) : wrap64 (-n) = -n := w64 (by omega) (by omega)
theorem vab_small {n : Int} (h0 : -12 ≤ n) (h1 : n ≤ 12) : vab n = if n < -n then -n else n := by
  unfold vab
  rw [neg64 (by omega) (by omega)]
theorem vab_eq {n m : Int} (h0 : -12 ≤ n) (h1 : n ≤ 12) (h2 : -12 ≤ m) (h3 : m ≤ 12) : (vab n == vab m) = ((n == m) || (n == -m)) := by
  rw [vab_small h0 h1, vab_small h2 h3, Bool.eq_iff_iff]
  simp only [beq_iff_eq, Bool.or_eq_true]
  split <;> split <;> omega
theorem litB_small {n v : Int} (h0 : 0 ≤ v) (h1 : v ≤ 12) (h : litB n v = true) : n ≠ 0 ∧ -v ≤ n ∧ n ≤ v := by
  unfold litB at h
  rw [neg64 (by omega) (by omega)] at h
  simpa [Bool.and_eq_true] using h
theorem any_vab (l : List Int) (m : Int) (h2 : -12 ≤ m) (h3 : m ≤ 12) (hl : ∀ x ∈ l, -12 ≤ x ∧ x ≤ 12) : (l.any fun k => vab k == vab m) = (l.any (· == m) || l.any (· == -m)) := by
  induction l with
  | nil => rfl
  | cons a l ih =>
    have ha := hl a List.mem_cons_self
    rw [List.any_cons, List.any_cons, List.any_cons, ih (fun x hx => hl x (List.mem_cons_of_mem _ hx)), vab_eq ha.1 ha.2 h2 h3]
    cases (a == m) <;> cases (a == -m) <;> cases l.any (· == m) <;> simp

theorem any_flip (l : List Int) (a : Int) : (l.any fun y => a == y) = l.any (· == a) := by
  congr 1
  funext y
  rw [Bool.eq_iff_iff]
  simp only [beq_iff_eq]
  exact eq_comm

def cleanL : List Int → List Int → List Int × Bool
  | acc, [] => (acc, true)
  | acc, n :: r => if acc.any (· == wrap64 (-n)) = true then ([], false) else if acc.any (· == n) = true then cleanL acc r else cleanL (acc ++ [n]) r
def cleanS : List Int → List Int → List Int × Bool
  | acc, [] => (acc, true)
  | acc, n :: r => if (!litB n 12 || acc.any (· == wrap64 (-n))) = true then ([], false) else if acc.any (· == n) = true then cleanS acc r else cleanS (acc ++ [n]) r
theorem cleanS_bad : ∀ (l acc : List Int), (l.any fun n => !litB n 12) = true → cleanS acc l = ([], false)
  | [], acc, h => by simp at h
  | n :: r, acc, h => by
    unfold cleanS
    cases hb : litB n 12 with
    | false => simp
    | true =>
      have h2 : (r.any fun n => !litB n 12) = true := by simpa [hb] using h
      split
      · rfl
      · split
        · exact cleanS_bad r acc h2
        · exact cleanS_bad r _ h2
theorem cleanS_good : ∀ (l acc : List Int), (l.any fun n => !litB n 12) = false → cleanS acc l = cleanL acc l
  | [], acc, h => rfl
  | n :: r, acc, h => by
    have h1 : litB n 12 = true ∧ (r.any fun n => !litB n 12) = false := by simpa using h
    unfold cleanS cleanL
    rw [h1.1, cleanS_good r acc h1.2, cleanS_good r _ h1.2]
    simp
theorem clean_length : ∀ (l acc : List Int), (cleanL acc l).1.length ≤ acc.length + l.length
  | [], acc => by simp [cleanL]
  | n :: r, acc => by
    unfold cleanL
    split
    · simp
    · split
      · have := clean_length r acc
        simp
        omega
      · have := clean_length r (acc ++ [n])
        simp at this
        simp
        omega
theorem specClean_l (l : List Int) (hl : l.length ≤ 1000) : ∀ (d i k : Nat) (acc : List Int), i + d = l.length → acc.length ≤ i → 2 * d + 2000 ≤ k → spec_CleanClause.l0 k acc l (l.length : Int) (i : Int) = some (cleanS acc (l.drop i))
  | 0, i, k, acc, h1, h2, hk => by
    obtain ⟨k, rfl⟩ : ∃ m, k = m + 1 := ⟨k - 1, by omega⟩
    simp only [spec_CleanClause.l0]
    rw [if_neg (by omega), List.drop_of_length_le (by omega)]
    rfl
  | d + 1, i, k, acc, h1, h2, hk => by
    obtain ⟨k, rfl⟩ : ∃ m, k = m + 2 := ⟨k - 2, by omega⟩
    have hil : i < l.length := by omega
    simp only [spec_CleanClause.l0, spec_CleanClause.j1]
    rw [if_pos (by omega), if_pos (by omega), if_pos (by omega), rd_nat l i hil, next64 (by omega), drop_at l i hil]
    have hw : litB l[i] 12 = (decide (l[i] ≠ 0) && (decide (-12 ≤ l[i]) && decide (l[i] ≤ 12))) := by
      unfold litB
      rw [neg64 (n := 12) (by omega) (by omega)]
    unfold cleanS
    by_cases e0 : l[i] = 0
    · rw [if_pos e0, hw]
      simp [e0]
    · rw [if_neg e0, specIn_val]
      simp only [Option.bind_some]
      have hb : litB l[i] 12 = (decide (-12 ≤ l[i]) && decide (l[i] ≤ 12)) := by rw [hw]; simp [e0]
      rw [← hb]
      cases litB l[i] 12 with
      | false => simp
      | true =>
        first | rw [if_pos rfl] | rw [if_true]
        rw [has_val acc _ (by omega) _ (by omega)]
        simp only [Option.bind_some, Bool.not_true, Bool.false_or]
        cases acc.any (· == wrap64 (-l[i])) with
        | true => simp
        | false =>
          rw [if_neg Bool.false_ne_true, if_neg Bool.false_ne_true, has_val acc _ (by omega) _ (by omega)]
          simp only [Option.bind_some]
          cases acc.any (· == l[i]) with
          | true =>
            simp only [if_true]
            exact specClean_l l hl d (i + 1) k acc (by omega) (by omega) (by omega)
          | false =>
            rw [if_neg Bool.false_ne_true, if_neg Bool.false_ne_true, if_pos (by omega)]
            exact specClean_l l hl d (i + 1) k _ (by omega) (by simp; omega) (by omega)
theorem cleanClause_spec (l : List Int) (k : Nat) (hk : 3000000 ≤ k) : spec_CleanClause.f k l = some (if (l.length : Int) > 40 then ([], false) else cleanS [] l) := by
  unfold spec_CleanClause.f
  by_cases h : (l.length : Int) > 40
  · rw [if_pos h, if_pos h]
  · rw [if_neg h, if_neg h]
    have := specClean_l l (by omega) l.length 0 k [] (by omega) (by simp) (by omega)
    simpa using this

theorem cleanS_length : ∀ (l acc : List Int), (cleanS acc l).1.length ≤ acc.length + l.length
  | [], acc => by simp [cleanS]
  | n :: r, acc => by
    unfold cleanS
    split
    · simp
    · split
      · have := cleanS_length r acc
        simp
        omega
      · have := cleanS_length r (acc ++ [n])
        simp at this
        simp
        omega
theorem drawClean_ok (l : List Int) (hl : l.length ≤ 40) (k : Nat) (hk : 3000000 ≤ k) : ∃ r b, spec_CleanClause.f k l = some (r, b) ∧ r.length ≤ l.length := by
  rw [cleanClause_spec l k hk, if_neg (by omega)]
  have := cleanS_length l []
  exact ⟨_, _, rfl, by simpa using this⟩
theorem lit_ok {c : List Int} (hc : U8 c) {p : Int} (s n : Int) (h0 : 0 ≤ p) (h1 : p ≤ 999999998000) : ∃ r p' s', spec_l1Cur_lit.f c p s n = some (r, p', s') ∧ p ≤ p' ∧ p' ≤ p + 4 := by
  unfold spec_l1Cur_lit.f
  obtain ⟨r1, p1, s1, e1, a1, b1, c1, _, _⟩ := pick_ok hc s n h0 (by omega)
  obtain ⟨b, p2, s2, e2, a2, b2⟩ := one_ok hc s1 2 (p := p1) (by omega) (by omega)
  rw [e1]
  simp only [Option.bind_some]
  rw [e2]
  simp only [Option.bind_some]
  cases b with
  | true =>
    rw [if_pos rfl]
    exact ⟨_, _, _, rfl, by omega, by omega⟩
  | false =>
    rw [if_neg Bool.false_ne_true]
    exact ⟨_, _, _, rfl, by omega, by omega⟩
/-- What the drawing of clauses leaves. -/
def ClOk (l : List (List Int)) (n m : Nat) : Prop := l.length ≤ n ∧ ∀ x ∈ l, x.length ≤ m
theorem clOk_snoc {l : List (List Int)} {n m : Nat} (h : ClOk l n m) {x : List Int} (hx : x.length ≤ m) : ClOk (l ++ [x]) (n + 1) m := by
  refine ⟨by simp; exact h.1, fun y hy => ?_⟩
  rcases List.mem_append.1 hy with hy | hy
  · exact h.2 y hy
  · have : y = x := by simpa using hy
    exact this ▸ hx
theorem clOk_mono {l : List (List Int)} {n m n' m' : Nat} (h : ClOk l n m) (hn : n ≤ n') (hm : m ≤ m') : ClOk l n' m' := ⟨Nat.le_trans h.1 hn, fun x hx => Nat.le_trans (h.2 x hx) hm⟩
theorem clauses_l0 {c : List Int} (hc : U8 c) (v : Int) : ∀ (n : Nat) (l : List (List Int)) (k : Nat) (p s : Int), l.length + n ≤ 14 → (∀ x ∈ l, x.length ≤ 50) → 0 ≤ p → p + 20 * n ≤ 999999990000 → 3000100 + 10 * n ≤ k →
    ∃ l' p' s', spec_l1Cur_clauses.l0 k v l n c p s = some (v, l', p', s') ∧ p ≤ p' ∧ p' ≤ p + 20 * n + 10 ∧ ClOk l' 14 60
  | 0, l, k, p, s, hl, hr, h0, h1, hk => by
    obtain ⟨k, rfl⟩ : ∃ q, k = q + 1 := ⟨k - 1, by omega⟩
    simp only [spec_l1Cur_clauses.l0]
    rw [if_neg (by omega)]
    have hok : ClOk l 14 60 := ⟨by omega, fun x hx => by have := hr x hx; omega⟩
    by_cases h : (l.length : Int) > 0
    · rw [if_pos h]
      obtain ⟨b, p1, s1, e, a1, b1⟩ := one_ok hc s 30 h0 (by omega)
      rw [e]
      simp only [Option.bind_some]
      cases b with
      | false =>
        rw [if_neg Bool.false_ne_true]
        exact ⟨_, _, _, rfl, by omega, by omega, hok⟩
      | true =>
        rw [if_pos rfl, if_pos h]
        obtain ⟨r, p2, s2, e2, a2, b2, _⟩ := among_ok hc s1 [0, 13, 1] (p := p1) (by simp) (by omega) (by omega)
        rw [e2]
        simp only [Option.bind_some]
        have hx : (rd_L2 l 0).length ≤ 50 := by
          have hpos : 0 < l.length := by omega
          have : rd_L2 l 0 = l[0] := by
            unfold rd_L2
            rw [List.getD_eq_getElem?_getD, show ((0 : Int).toNat) = 0 from rfl, List.getElem?_eq_getElem hpos]
            rfl
          rw [this]
          exact hr _ (List.getElem_mem _)
        rw [if_pos (by omega)]
        refine ⟨_, _, _, rfl, by omega, by omega, by rw [List.length_set]; omega, fun x hx' => ?_⟩
        rcases List.mem_or_eq_of_mem_set hx' with hx' | hx'
        · have := hr x hx'
          omega
        · rw [hx', List.length_append, List.length_singleton]
          omega
    · rw [if_neg h]
      exact ⟨_, _, _, rfl, by omega, by omega, hok⟩
  | n + 1, l, k, p, s, hl, hr, h0, h1, hk => by
    have inner : ∀ (m : Nat) (acc : List Int) (k : Nat) (p s : Int), acc.length + m ≤ 3 → 0 ≤ p → p + 4 * m + 20 * n ≤ 999999990000 → 3000102 + 10 * n + m ≤ k →
        ∃ l' p' s', spec_l1Cur_clauses.l1 k v l ((n + 1 : Nat) : Int) acc m c p s = some (v, l', p', s') ∧ p ≤ p' ∧ p' ≤ p + 4 * m + 20 * n + 10 ∧ ClOk l' 14 60 := by
      intro m
      induction m with
      | zero =>
        intro acc k p s ha h0 h1 hk
        obtain ⟨k, rfl⟩ : ∃ q, k = q + 1 := ⟨k - 1, by omega⟩
        simp only [spec_l1Cur_clauses.l1]
        rw [if_neg (by omega)]
        obtain ⟨r, b, e, hrl⟩ := drawClean_ok acc (by omega) k (by omega)
        rw [e]
        simp only [Option.bind_some]
        rw [show wrap64 (((n + 1 : Nat) : Int) - 1) = (n : Int) by rw [w64 (by omega) (by omega)]; omega]
        cases b with
        | true =>
          rw [if_pos rfl, if_pos (by omega)]
          obtain ⟨l', p', s', e', a', b', c'⟩ := clauses_l0 hc v n (l ++ [r]) k p s (by simp; omega) (fun x hx => by
            rcases List.mem_append.1 hx with hx | hx
            · exact hr x hx
            · have : x = r := by simpa using hx
              subst this
              omega) h0 (by omega) (by omega)
          exact ⟨l', p', s', e', by omega, by omega, c'⟩
        | false =>
          rw [if_neg Bool.false_ne_true]
          obtain ⟨l', p', s', e', a', b', c'⟩ := clauses_l0 hc v n l k p s (by omega) hr h0 (by omega) (by omega)
          exact ⟨l', p', s', e', by omega, by omega, c'⟩
      | succ m ih =>
        intro acc k p s ha h0 h1 hk
        obtain ⟨k, rfl⟩ : ∃ q, k = q + 1 := ⟨k - 1, by omega⟩
        simp only [spec_l1Cur_clauses.l1]
        rw [if_pos (by omega)]
        obtain ⟨r, p1, s1, e, a1, b1⟩ := lit_ok hc s v h0 (by omega)
        rw [e]
        simp only [Option.bind_some]
        rw [if_pos (by omega), show wrap64 (((m + 1 : Nat) : Int) - 1) = (m : Int) by rw [w64 (by omega) (by omega)]; omega]
        obtain ⟨l', p', s', e', a', b', c'⟩ := ih (acc ++ [r]) k p1 s1 (by simp; omega) (by omega) (by omega) (by omega)
        exact ⟨l', p', s', e', by omega, by omega, c'⟩
    obtain ⟨k, rfl⟩ : ∃ q, k = q + 1 := ⟨k - 1, by omega⟩
    simp only [spec_l1Cur_clauses.l0]
    rw [if_pos (by omega)]
    obtain ⟨r, p1, s1, e, a1, b1, r0, r1, _⟩ := pick_ok hc s 3 h0 (by omega)
    replace r1 := r1 (by omega)
    rw [e]
    simp only [Option.bind_some]
    obtain ⟨m, hm⟩ : ∃ m : Nat, 1 + r = m := ⟨(1 + r).toNat, by omega⟩
    rw [w64 (x := 1 + r) (by omega) (by omega), hm]
    obtain ⟨l', p', s', e', a', b', c'⟩ := inner m [] k p1 s1 (by simp; omega) (by omega) (by omega) (by omega)
    exact ⟨l', p', s', e', by omega, by omega, c'⟩
theorem clauses_ok {c : List Int} (hc : U8 c) {p : Int} (s : Int) (h0 : 0 ≤ p) (h1 : p ≤ 999999980000) (k : Nat) (hk : 3000300 ≤ k) : ∃ v l p' s', spec_l1Cur_clauses.f k c p s = some (v, l, p', s') ∧ p ≤ p' ∧ p' ≤ p + 400 ∧ ClOk l 14 60 ∧ 0 ≤ v ∧ v ≤ 13 := by
  have hj : ∀ (v p s : Int), 0 ≤ v → v ≤ 13 → 0 ≤ p → p ≤ 999999980500 → ∃ l p' s', spec_l1Cur_clauses.j0 k v c p s = some (v, l, p', s') ∧ p ≤ p' ∧ p' ≤ p + 300 ∧ ClOk l 14 60 := by
    intro v p s hv0 hv1 h0 h1
    obtain ⟨k, rfl⟩ : ∃ q, k = q + 2 := ⟨k - 2, by omega⟩
    simp only [spec_l1Cur_clauses.j0]
    obtain ⟨r, p1, s1, e, a1, b1, r0, r1, _⟩ := pick_ok hc s 14 h0 (by omega)
    replace r1 := r1 (by omega)
    rw [e]
    simp only [Option.bind_some, spec_l1Cur_clauses.j1]
    by_cases hv : v = 0
    · rw [if_pos hv]
      obtain ⟨l', p', s', e', a', b', c'⟩ := clauses_l0 hc v 0 [] k p1 s1 (by simp) (by simp) (by omega) (by omega) (by omega)
      exact ⟨l', p', s', e', by omega, by omega, c'⟩
    · rw [if_neg hv]
      obtain ⟨n, rfl⟩ : ∃ n : Nat, r = n := ⟨r.toNat, by omega⟩
      obtain ⟨l', p', s', e', a', b', c'⟩ := clauses_l0 hc v n [] k p1 s1 (by simp; omega) (by simp) (by omega) (by omega) (by omega)
      exact ⟨l', p', s', e', by omega, by omega, c'⟩
  unfold spec_l1Cur_clauses.f
  obtain ⟨r, p1, s1, e, a1, b1, r0, r1, _⟩ := pick_ok hc s 6 h0 (by omega)
  replace r1 := r1 (by omega)
  obtain ⟨b, p2, s2, e2, a2, b2⟩ := one_ok hc s1 30 (p := p1) (by omega) (by omega)
  rw [e]
  simp only [Option.bind_some]
  rw [e2]
  simp only [Option.bind_some]
  cases b with
  | true =>
    rw [if_pos rfl]
    obtain ⟨v, p3, s3, e3, a3, b3, hm⟩ := among_ok hc s2 [0, 10, 13] (p := p2) (by simp) (by omega) (by omega)
    rw [e3]
    simp only [Option.bind_some]
    have hv : 0 ≤ v ∧ v ≤ 13 := by
      simp only [List.mem_cons, List.not_mem_nil, or_false] at hm
      omega
    obtain ⟨l, p', s', e', a', b', c'⟩ := hj v p3 s3 hv.1 hv.2 (by omega) (by omega)
    exact ⟨v, l, p', s', e', by omega, by omega, c', hv.1, hv.2⟩
  | false =>
    rw [if_neg Bool.false_ne_true, w64 (x := 1 + r) (by omega) (by omega)]
    obtain ⟨l, p', s', e', a', b', c'⟩ := hj (1 + r) p2 s2 (by omega) (by omega) (by omega) (by omega)
    exact ⟨1 + r, l, p', s', e', by omega, by omega, c', by omega, by omega⟩
theorem clOk_bounds {l : List (List Int)} {n m : Nat} (h : ClOk l n m) (hn : n ≤ 1048576) (hm : m ≤ 1048576) : l.length ≤ 1048576 ∧ ∀ x ∈ l, x.length ≤ 1048576 := ⟨Nat.le_trans h.1 hn, fun x hx => Nat.le_trans (h.2 x hx) hm⟩

theorem given_j1 {c : List Int} (hc : U8 c) (g : List Int) (hg : g.length ≤ 10) {p : Int} (s : Int) (h0 : 0 ≤ p) (h1 : p ≤ 999999980000) (k : Nat) (hk : 3000100 ≤ k) : ∃ g' p' s', spec_l1Cur_given.j1 k g c p s = some (g', p', s') ∧ g'.length ≤ 10 ∧ p ≤ p' ∧ p' ≤ p + 10 := by
  obtain ⟨k, rfl⟩ : ∃ m, k = m + 1 := ⟨k - 1, by omega⟩
  simp only [spec_l1Cur_given.j1]
  obtain ⟨r, b, e, hr⟩ := drawClean_ok g (by omega) k (by omega)
  rw [e]
  simp only [Option.bind_some]
  cases b with
  | false =>
    rw [if_neg Bool.false_ne_true]
    exact ⟨_, _, _, rfl, hg, by omega, by omega⟩
  | true =>
    rw [if_pos rfl]
    obtain ⟨b, p2, s2, e2, a2, b2⟩ := one_ok hc s 20 h0 (by omega)
    rw [e2]
    simp only [Option.bind_some]
    cases b with
    | true =>
      rw [if_pos rfl]
      exact ⟨_, _, _, rfl, hg, by omega, by omega⟩
    | false =>
      rw [if_neg Bool.false_ne_true]
      exact ⟨_, _, _, rfl, by omega, by omega, by omega⟩
theorem given_l0 {c : List Int} (hc : U8 c) (v : Int) : ∀ (n : Nat) (g : List Int) (k : Nat) (p s : Int), g.length + n ≤ 10 → 0 ≤ p → p + 4 * n ≤ 999999970000 → 3000200 + n ≤ k → ∃ g' p' s', spec_l1Cur_given.l0 k v g n c p s = some (g', p', s') ∧ g'.length ≤ 10 ∧ p ≤ p' ∧ p' ≤ p + 4 * n + 10
  | 0, g, k, p, s, hg, h0, h1, hk => by
    obtain ⟨k, rfl⟩ : ∃ m, k = m + 1 := ⟨k - 1, by omega⟩
    simp only [spec_l1Cur_given.l0]
    rw [if_neg (by omega)]
    obtain ⟨g', p', s', e, a, b, d⟩ := given_j1 hc g (by omega) s h0 (by omega) k (by omega)
    exact ⟨g', p', s', e, a, b, by omega⟩
  | n + 1, g, k, p, s, hg, h0, h1, hk => by
    obtain ⟨k, rfl⟩ : ∃ m, k = m + 1 := ⟨k - 1, by omega⟩
    simp only [spec_l1Cur_given.l0]
    rw [if_pos (by omega)]
    by_cases hv : v > 0
    · rw [if_pos hv]
      obtain ⟨r, p1, s1, e, a1, b1⟩ := lit_ok hc s v h0 (by omega)
      rw [e]
      simp only [Option.bind_some]
      rw [if_pos (by omega), show wrap64 (((n + 1 : Nat) : Int) - 1) = (n : Int) by rw [w64 (by omega) (by omega)]; omega]
      obtain ⟨g', p', s', e', a', b', d'⟩ := given_l0 hc v n (g ++ [r]) k p1 s1 (by simp; omega) (by omega) (by omega) (by omega)
      exact ⟨g', p', s', e', a', by omega, by omega⟩
    · rw [if_neg hv]
      obtain ⟨g', p', s', e, a, b, d⟩ := given_j1 hc g (by omega) s h0 (by omega) k (by omega)
      exact ⟨g', p', s', e, a, b, by omega⟩
theorem given_ok {c : List Int} (hc : U8 c) (v : Int) {p : Int} (s : Int) (h0 : 0 ≤ p) (h1 : p ≤ 999999960000) (k : Nat) (hk : 3000300 ≤ k) : ∃ g' p' s', spec_l1Cur_given.f k c p s v = some (g', p', s') ∧ g'.length ≤ 10 ∧ p ≤ p' ∧ p' ≤ p + 100 := by
  unfold spec_l1Cur_given.f
  obtain ⟨r, p1, s1, e, a1, b1, r0, r1, _⟩ := pick_ok hc s 3 h0 (by omega)
  replace r1 := r1 (by omega)
  obtain ⟨n, rfl⟩ : ∃ n : Nat, r = n := ⟨r.toNat, by omega⟩
  rw [e]
  simp only [Option.bind_some]
  obtain ⟨g', p', s', e', a', b', d'⟩ := given_l0 hc v n [] k p1 s1 (by simp; omega) (by omega) (by omega) (by omega)
  exact ⟨g', p', s', e', a', by omega, by omega⟩
theorem drawPropagate_ok {c : List Int} (hc : U8 c) (k : Nat) (hk : 3000400 ≤ k) : ∃ v l g, spec_DrawPropagate.f k c = some (v, l, g) ∧ ClOk l 14 60 ∧ g.length ≤ 10 ∧ 0 ≤ v ∧ v ≤ 13 := by
  unfold spec_DrawPropagate.f
  obtain ⟨v, l, p1, s1, e, a1, b1, hl, v0, v1⟩ := clauses_ok hc 0 (p := 0) (by omega) (by omega) k (by omega)
  obtain ⟨g, p2, s2, e2, hg, _, _⟩ := given_ok hc v s1 (p := p1) (by omega) (by omega) k (by omega)
  rw [e]
  simp only [Option.bind_some]
  rw [e2]
  exact ⟨v, l, g, rfl, hl, hg, v0, v1⟩


def hasB (l : List Int) (n : Int) : Bool := l.any (· == n)

theorem meets_cons (x : Int) (r out : List Int) : meetsB (x :: r) out = (hasB out x || meetsB r out) := by
  unfold meetsB hasB
  rw [List.any_cons, any_flip]
theorem without_cons (x : Int) (r out : List Int) : withoutL (x :: r) out = if hasB out (wrap64 (-x)) = true then withoutL r out else x :: withoutL r out := by
  unfold withoutL hasB
  rw [List.filter_cons, any_flip]
  cases out.any (· == wrap64 (-x)) <;> simp

theorem clause_l (v : Int) (hv0 : 0 ≤ v) (hv1 : v ≤ 12) (l : List Int) (hl : l.length ≤ 1099511627776) : ∀ (d i k : Nat), i + d = l.length → (∀ x ∈ l.take i, -12 ≤ x ∧ x ≤ 12) → d + l.length + 1 < k →
    spec_l4Clause.l0 k v l l (l.length : Int) (i : Int) = some (clauseFrom v (l.take i) (l.drop i) && decide (l.length ≤ 12))
  | 0, i, k, h1, hs, hk => by
    obtain ⟨k, rfl⟩ : ∃ m, k = m + 1 := ⟨k - 1, by omega⟩
    simp only [spec_l4Clause.l0]
    rw [if_neg (by omega), List.drop_of_length_le (by omega)]
    simp only [clauseFrom, Bool.true_and]
    congr 2
    exact propext (by omega)
  | d + 1, i, k, h1, hs, hk => by
    obtain ⟨k, rfl⟩ : ∃ m, k = m + 1 := ⟨k - 1, by omega⟩
    have hil : i < l.length := by omega
    have ht : (l.take i).length = i := by rw [List.length_take]; omega
    simp only [spec_l4Clause.l0]
    rw [if_pos (by omega), if_pos (by omega), if_pos (by omega), rd_nat l i hil, next64 (by omega), drop_at l i hil, show ((i : Int).toNat) = i by omega, if_pos (show (i : Int) ≤ (l.length : Int) by omega)]
    simp only [clauseFrom]
    by_cases e0 : l[i] = 0
    · rw [if_pos e0]
      have : litB l[i] v = false := by unfold litB; simp [e0]
      rw [this]
      rfl
    · rw [if_neg e0, specIn_val]
      simp only [Option.bind_some]
      have hlit : litB l[i] v = (decide (wrap64 (-v) ≤ l[i]) && decide (l[i] ≤ v)) := by unfold litB; simp [e0]
      rw [← hlit]
      cases hb : litB l[i] v with
      | false => rfl
      | true =>
        obtain ⟨_, h4, h5⟩ := litB_small hv0 hv1 hb
        rw [if_pos rfl, has_val _ _ (by omega) _ (by omega), neg64 (by omega) (by omega), has_val _ _ (by omega) _ (by omega), any_vab _ _ (by omega) (by omega) hs]
        simp only [Option.bind_some]
        cases (l.take i).any (· == l[i]) with
        | true => rfl
        | false =>
          cases (l.take i).any (· == -l[i]) with
          | true => rfl
          | false =>
            have hst : l.take (i + 1) = l.take i ++ [l[i]] := List.take_succ_eq_append_getElem hil
            have := clause_l v hv0 hv1 l hl d (i + 1) k (by omega) (fun x hx => by
              rw [hst] at hx
              rcases List.mem_append.1 hx with hx | hx
              · exact hs x hx
              · rw [List.mem_singleton.1 hx]
                omega) (by omega)
            rw [hst] at this
            simp only [Bool.false_eq_true, if_false, Bool.or_false, Bool.not_false, Bool.true_and]
            exact this
theorem clause_val (v : Int) (hv0 : 0 ≤ v) (hv1 : v ≤ 12) (l : List Int) (hl : l.length ≤ 1048576) (k : Nat) (hk : 3000000 ≤ k) : spec_l4Clause.f k v l = some (isClauseB l v) := by
  unfold spec_l4Clause.f isClauseB
  have := clause_l v hv0 hv1 l (by omega) l.length 0 k (by omega) (by simp) (by omega)
  simpa using this

theorem rdL_nat (l : List (List Int)) (i : Nat) (h : i < l.length) : rd_L2 l (i : Int) = l[i] := by
  unfold rd_L2
  rw [List.getD_eq_getElem?_getD, show ((i : Int).toNat) = i by omega, List.getElem?_eq_getElem h]
  rfl

def goodB (v : Int) (l : List (List Int)) : Bool := (decide (0 ≤ v) && decide (v ≤ 12)) && (decide (l.length ≤ 60) && l.all fun x => isClauseB x v)
theorem good_l (v : Int) (hv0 : 0 ≤ v) (hv1 : v ≤ 12) (l : List (List Int)) (hl : l.length ≤ 1048576) (hi : ∀ x ∈ l, x.length ≤ 1048576) : ∀ (d i k : Nat), i + d = l.length → d + 3000001 ≤ k → spec_l4Good.l0 k v l (l.length : Int) (i : Int) = some ((l.drop i).all fun x => isClauseB x v)
  | 0, i, k, h1, hk => by
    obtain ⟨k, rfl⟩ : ∃ m, k = m + 1 := ⟨k - 1, by omega⟩
    simp only [spec_l4Good.l0]
    rw [if_neg (by omega), List.drop_of_length_le (by omega)]
    rfl
  | d + 1, i, k, h1, hk => by
    obtain ⟨k, rfl⟩ : ∃ m, k = m + 1 := ⟨k - 1, by omega⟩
    have hil : i < l.length := by omega
    simp only [spec_l4Good.l0]
    rw [if_pos (by omega), if_pos (by omega), if_pos (by omega), rdL_nat l i hil, next64 (by omega), clause_val v hv0 hv1 l[i] (hi _ (List.getElem_mem _)) k (by omega), List.drop_eq_getElem_cons hil, List.all_cons]
    simp only [Option.bind_some]
    cases isClauseB l[i] v with
    | false => rfl
    | true =>
      first | rw [if_pos rfl] | rw [if_true]
      rw [good_l v hv0 hv1 l hl hi d (i + 1) k (by omega) (by omega)]
      rfl
theorem specGood_val (v : Int) (l : List (List Int)) (hl : l.length ≤ 1048576) (hi : ∀ x ∈ l, x.length ≤ 1048576) (k : Nat) (hk : 5000000 ≤ k) : spec_GoodClauses.f k v l = some (goodB v l) := by
  obtain ⟨k, rfl⟩ : ∃ m, k = m + 1 := ⟨k - 1, by omega⟩
  unfold spec_GoodClauses.f spec_l4Good.f goodB
  rw [specIn_val]
  simp only [Option.bind_some, spec_l4Good.j0]
  by_cases hv : 0 ≤ v ∧ v ≤ 12
  · rw [show (decide (0 ≤ v) && decide (v ≤ 12)) = true by simp [hv.1, hv.2], if_pos rfl]
    by_cases h60 : l.length ≤ 60
    · have : decide ((l.length : Int) > 60) = false := decide_eq_false (by omega)
      rw [this, if_neg Bool.false_ne_true]
      have h := good_l v hv.1 hv.2 l hl hi l.length 0 k (by omega) (by omega)
      simp only [List.drop_zero] at h
      rw [show ((0 : Nat) : Int) = 0 from rfl] at h
      rw [h]
      simp [h60]
    · have : decide ((l.length : Int) > 60) = true := decide_eq_true (by omega)
      rw [this]
      first | rw [if_pos rfl] | rw [if_true]
      simp [h60]
  · have hd : (decide (0 ≤ v) && decide (v ≤ 12)) = false := by
      rw [Bool.and_eq_false_iff]
      rcases Int.lt_or_le v 0 with h | h
      · exact .inl (decide_eq_false (by omega))
      · exact .inr (decide_eq_false (by omega))
    rw [hd, if_neg Bool.false_ne_true]
    first | rw [if_pos rfl] | rw [if_true]
    rfl
theorem implIn_val (n a b : Int) : impl_in.f n a b = some (decide (a ≤ n) && decide (n ≤ b)) := by
  unfold impl_in.f
  by_cases h : n ≥ a
  · rw [if_pos h]
    simp [h]
  · rw [if_neg h]
    simp [h]
theorem implGood_val (v : Int) (l : List (List Int)) : impl_GoodClauses.f v l = some (goodB v l) := by
  unfold impl_GoodClauses.f impl_areClauses.f goodB
  rw [implIn_val]
  simp only [Option.bind_some]
  cases (decide (0 ≤ v) && decide (v ≤ 12)) with
  | false => rfl
  | true =>
    first | rw [if_pos rfl] | rw [if_true]
    by_cases h60 : l.length ≤ 60
    · rw [if_pos (by omega)]
      simp [h60, List.all_eq_not_any_not]
    · rw [if_neg (by omega)]
      simp [h60]
theorem goodB_facts {v : Int} {l : List (List Int)} (h : goodB v l = true) : 0 ≤ v ∧ v ≤ 12 ∧ l.length ≤ 60 ∧ ∀ x ∈ l, isClauseB x v = true := by
  unfold goodB at h
  simp only [Bool.and_eq_true, decide_eq_true_eq, List.all_eq_true] at h
  exact ⟨h.1.1, h.1.2, h.2.1, h.2.2⟩

theorem clause_lits (v : Int) : ∀ (l seen : List Int), clauseFrom v seen l = true → ∀ n ∈ l, litB n v = true
  | [], _, _, n, hn => by simp at hn
  | a :: r, seen, h, n, hn => by
    unfold clauseFrom at h
    simp only [Bool.and_eq_true] at h
    rcases List.mem_cons.1 hn with rfl | hn
    · exact h.1
    · exact clause_lits v r _ h.2.2 n hn
theorem isClause_facts {v : Int} {c : List Int} (h : isClauseB c v = true) : c.length ≤ 12 ∧ ∀ n ∈ c, litB n v = true := by
  unfold isClauseB at h
  simp only [Bool.and_eq_true, decide_eq_true_eq] at h
  exact ⟨h.2, clause_lits v c [] h.1⟩

theorem goodB_lits {v : Int} {l : List (List Int)} (h : goodB v l = true) : ∀ c ∈ l, c.length ≤ 12 ∧ ∀ n ∈ c, n ≠ 0 ∧ -v ≤ n ∧ n ≤ v := by
  obtain ⟨h0, h1, _, h2⟩ := goodB_facts h
  intro c hc
  obtain ⟨a, b⟩ := isClause_facts (h2 c hc)
  exact ⟨a, fun n hn => litB_small h0 h1 (b n hn)⟩

theorem filter_lt {α : Type} (p q : α → Bool) : ∀ (l : List α), (∀ a, q a = true → p a = true) → (∃ a ∈ l, p a = true ∧ q a = false) → (l.filter q).length < (l.filter p).length
  | [], _, ⟨a, ha, _⟩ => by simp at ha
  | b :: l, h, ⟨a, ha, hp, hq⟩ => by
    have hle : ∀ l : List α, (l.filter q).length ≤ (l.filter p).length := by
      intro l
      induction l with
      | nil => simp
      | cons c l ih =>
        cases hqc : q c with
        | true =>
          rw [List.filter_cons_of_pos hqc, List.filter_cons_of_pos (h c hqc)]
          simpa using ih
        | false =>
          rw [List.filter_cons_of_neg (by simp [hqc])]
          cases hpc : p c with
          | true =>
            rw [List.filter_cons_of_pos hpc]
            simp
            omega
          | false =>
            rw [List.filter_cons_of_neg (by simp [hpc])]
            exact ih
    rcases List.mem_cons.1 ha with rfl | ha
    · rw [List.filter_cons_of_neg (by simp [hq]), List.filter_cons_of_pos hp]
      have := hle l
      simp
      omega
    · have ih := filter_lt p q l h ⟨a, ha, hp, hq⟩
      cases hqb : q b with
      | true =>
        rw [List.filter_cons_of_pos hqb, List.filter_cons_of_pos (h b hqb)]
        simpa using ih
      | false =>
        rw [List.filter_cons_of_neg (by simp [hqb])]
        cases hpb : p b with
        | true =>
          rw [List.filter_cons_of_pos hpb]
          simp
          omega
        | false =>
          rw [List.filter_cons_of_neg (by simp [hpb])]
          exact ih
theorem hasB_app (l : List Int) (x n : Int) : hasB (l ++ [x]) n = (hasB l n || x == n) := by simp [hasB]
/-- The variables (less 1) of which no literal is there. -/
def freeV (out : List Int) : Nat := ((List.range 12).filter fun (i : Nat) => !(hasB out ((i : Int) + 1) || hasB out (-((i : Int) + 1)))).length
theorem freeV_lt (out : List Int) (x : Int) (h0 : x ≠ 0) (h1 : -12 ≤ x) (h2 : x ≤ 12) (h3 : hasB out x = false) (h4 : hasB out (-x) = false) : freeV (out ++ [x]) < freeV out := by
  unfold freeV
  refine filter_lt _ _ _ (fun i hi => ?_) ⟨x.natAbs - 1, by rw [List.mem_range]; omega, ?_, ?_⟩
  · simp only [hasB_app] at hi
    cases ha : hasB out ((i : Int) + 1) <;> cases hb : hasB out (-((i : Int) + 1)) <;> simp_all
  · rcases Int.lt_or_le x 0 with h | h
    · have e : ((x.natAbs - 1 : Nat) : Int) + 1 = -x := by omega
      rw [e, h4, Int.neg_neg, h3]
      rfl
    · have e : ((x.natAbs - 1 : Nat) : Int) + 1 = x := by omega
      rw [e, h3, h4]
      rfl
  · simp only [hasB_app]
    rcases Int.lt_or_le x 0 with h | h
    · have e : ((x.natAbs - 1 : Nat) : Int) + 1 = -x := by omega
      rw [e, Int.neg_neg]
      simp
    · have e : ((x.natAbs - 1 : Nat) : Int) + 1 = x := by omega
      rw [e]
      simp
theorem freeV_le (out : List Int) : freeV out ≤ 12 := by
  unfold freeV
  exact Nat.le_trans (List.length_filter_le _ _) (by simp)
def unitS (out : List Int) : Int → Int → List Int → Int × Bool
  | left, many, [] => if many = 0 then (0, true) else if many = 1 then (left, false) else (0, false)
  | left, many, x :: r => if hasB out x = true then (0, false) else if hasB out (wrap64 (-x)) = true then unitS out left many r else unitS out x (many + 1) r
def unitP (out c : List Int) : Int × Bool := if meetsB c out = true then (0, false) else match withoutL c out with | [] => (0, true) | [x] => (x, false) | _ => (0, false)
theorem unitS_val (out : List Int) : ∀ (r : List Int) (left many : Int), 0 ≤ many → unitS out left many r = if meetsB r out = true then (0, false) else
    if many + ((withoutL r out).length : Int) = 0 then (0, true) else if many + ((withoutL r out).length : Int) = 1 then ((withoutL r out).getLast?.getD left, false) else (0, false)
  | [], left, many, h => by
    unfold unitS
    simp [meetsB, withoutL]
  | x :: r, left, many, h => by
    unfold unitS
    rw [meets_cons, without_cons]
    cases hasB out x with
    | true => simp
    | false =>
      rw [if_neg Bool.false_ne_true, Bool.false_or]
      cases hasB out (wrap64 (-x)) with
      | true =>
        simp only [if_true]
        exact unitS_val out r left many h
      | false =>
        rw [if_neg Bool.false_ne_true, if_neg Bool.false_ne_true, unitS_val out r x (many + 1) (by omega)]
        have e1 : ((x :: withoutL r out).length : Int) = ((withoutL r out).length : Int) + 1 := by simp
        rw [e1, show many + 1 + ((withoutL r out).length : Int) = many + (((withoutL r out).length : Int) + 1) by omega]
        cases hL : withoutL r out with
        | nil => simp
        | cons y t => simp [List.getLast?_cons]
theorem unitS_P (out c : List Int) : unitS out 0 0 c = unitP out c := by
  rw [unitS_val out c 0 0 (by omega)]
  unfold unitP
  cases meetsB c out with
  | true => rfl
  | false =>
    rw [if_neg Bool.false_ne_true, if_neg Bool.false_ne_true]
    match h : withoutL c out with
    | [] => simp
    | [x] => simp
    | x :: y :: t =>
      rw [if_neg (by simp; omega), if_neg (by simp; omega)]
theorem specUnit_l (out c : List Int) (ho : out.length ≤ 100000) (hc : c.length ≤ 1000) : ∀ (d j k : Nat) (left : Int) (many : Nat), j + d = c.length → many ≤ j → d + 200000 ≤ k → spec_l4Unit.l0 k out left (many : Int) c (c.length : Int) (j : Int) = some (unitS out left (many : Int) (c.drop j))
  | 0, j, k, left, many, h1, h2, hk => by
    obtain ⟨k, rfl⟩ : ∃ m, k = m + 1 := ⟨k - 1, by omega⟩
    simp only [spec_l4Unit.l0]
    rw [if_neg (by omega), List.drop_of_length_le (by omega)]
    unfold unitS
    split
    · rfl
    · split
      · rfl
      · rfl
  | d + 1, j, k, left, many, h1, h2, hk => by
    obtain ⟨k, rfl⟩ : ∃ m, k = m + 1 := ⟨k - 1, by omega⟩
    have hj : j < c.length := by omega
    simp only [spec_l4Unit.l0]
    rw [if_pos (by omega), if_pos (by omega), if_pos (by omega), rd_nat c j hj, next64 (by omega), has_val out _ (by omega) k (by omega), has_val out _ (by omega) k (by omega), drop_at c j hj]
    unfold unitS hasB
    simp only [Option.bind_some]
    cases out.any (· == c[j]) with
    | true => rfl
    | false =>
      rw [if_neg Bool.false_ne_true, if_neg Bool.false_ne_true]
      cases out.any (· == wrap64 (-c[j])) with
      | true =>
        simp only [if_true]
        exact specUnit_l out c ho hc d (j + 1) k left many (by omega) (by omega) (by omega)
      | false =>
        rw [if_neg Bool.false_ne_true, if_neg Bool.false_ne_true, next64 (by omega)]
        exact specUnit_l out c ho hc d (j + 1) k c[j] (many + 1) (by omega) (by omega) (by omega)
theorem specUnit_val (out c : List Int) (ho : out.length ≤ 100000) (hc : c.length ≤ 1000) (k : Nat) (hk : 300000 ≤ k) : spec_l4Unit.f k c out = some (unitP out c) := by
  unfold spec_l4Unit.f
  have := specUnit_l out c ho hc c.length 0 k 0 0 (by omega) (by omega) (by omega)
  rw [show ((0 : Nat) : Int) = 0 from rfl, List.drop_zero, unitS_P] at this
  exact this
/-- What one run through the clauses finds: nothing, a clause that is falsified, a literal. -/
def scanC (out : List Int) : List (List Int) → Option (Option Int)
  | [] => none
  | c :: r => if (unitP out c).2 = true then some none else if (unitP out c).1 = 0 then scanC out r else some (some (unitP out c).1)
def propL (l : List (List Int)) : Nat → List Int → List Int × Bool
  | 0, out => (out, false)
  | f + 1, out => match scanC out l with | none => (out, false) | some none => (out, true) | some (some x) => propL l f (out ++ [x])
def LitsOk (l : List (List Int)) : Prop := ∀ c ∈ l, c.length ≤ 1000 ∧ ∀ n ∈ c, n ≠ 0 ∧ -12 ≤ n ∧ n ≤ 12
theorem unitP_lit (out c : List Int) (hc : ∀ n ∈ c, n ≠ 0 ∧ -12 ≤ n ∧ n ≤ 12) (h : (unitP out c).1 ≠ 0) : (unitP out c).2 = false ∧ (unitP out c).1 ∈ c ∧ hasB out (unitP out c).1 = false ∧ hasB out (-(unitP out c).1) = false := by
  unfold unitP at h ⊢
  cases hm : meetsB c out with
  | true => rw [hm] at h; simp at h
  | false =>
    rw [hm] at h
    rw [if_neg Bool.false_ne_true] at h ⊢
    match hw : withoutL c out with
    | [] => rw [hw] at h; simp at h
    | x :: y :: t => rw [hw] at h; simp at h
    | [x] =>
      have hx : x ∈ withoutL c out := by rw [hw]; simp
      unfold withoutL at hx
      rw [List.mem_filter, any_flip] at hx
      obtain ⟨h1, h2⟩ := hx
      obtain ⟨_, b1, b2⟩ := hc x h1
      rw [neg64 (by omega) (by omega)] at h2
      refine ⟨rfl, h1, ?_, by simpa [hasB] using h2⟩
      unfold meetsB at hm
      have := List.any_eq_false.1 hm x h1
      rw [any_flip] at this
      exact Bool.eq_false_iff.mpr this
theorem scan_lit (out : List Int) : ∀ (l : List (List Int)) (x : Int), LitsOk l → scanC out l = some (some x) → x ≠ 0 ∧ -12 ≤ x ∧ x ≤ 12 ∧ hasB out x = false ∧ hasB out (-x) = false
  | [], x, _, h => by simp [scanC] at h
  | c :: r, x, hl, h => by
    unfold scanC at h
    have hc := (hl c List.mem_cons_self).2
    split at h
    · simp at h
    · split at h
      · exact scan_lit out r x (fun c' h' => hl c' (List.mem_cons_of_mem _ h')) h
      · rename_i h2
        injection h with h
        injection h with h
        subst h
        obtain ⟨_, hm, h3, h4⟩ := unitP_lit out c hc h2
        obtain ⟨a, b, d⟩ := hc _ hm
        exact ⟨a, b, d, h3, h4⟩
theorem prop_same (l : List (List Int)) (hl : LitsOk l) : ∀ (f f' : Nat) (out : List Int), freeV out < f → freeV out < f' → propL l f out = propL l f' out
  | 0, _, _, h, _ => by omega
  | _ + 1, 0, _, _, h => by omega
  | f + 1, f' + 1, out, h, h' => by
    unfold propL
    match hs : scanC out l with
    | none => rfl
    | some none => rfl
    | some (some x) =>
      obtain ⟨a, b, c, d, e⟩ := scan_lit out l x hl hs
      have := freeV_lt out x a b c d e
      exact prop_same l hl f f' _ (by omega) (by omega)
/-- The place of the clause at which a run ends. -/
def scanAt (out : List Int) : List (List Int) → Nat
  | [] => 0
  | c :: r => if (unitP out c).2 = true then 0 else if (unitP out c).1 = 0 then scanAt out r + 1 else 0
theorem specProp_scan (l : List (List Int)) (hl : LitsOk l) (hn : l.length ≤ 1048576) (out : List Int) (ho : out.length ≤ 100000) : ∀ (d i k : Nat), i + d = l.length → 300001 + d ≤ k →
    ∃ j, k - d - 1 ≤ j ∧ j < k ∧ spec_l4Propagate.l1 k l out false l (l.length : Int) (i : Int) = match scanC out (l.drop i) with | none => spec_l4Propagate.l0 j l out false | some none => some (out, true) | some (some x) => spec_l4Propagate.l0 j l (out ++ [x]) true
  | 0, i, k, h1, hk => by
    obtain ⟨k, rfl⟩ : ∃ m, k = m + 1 := ⟨k - 1, by omega⟩
    simp only [spec_l4Propagate.l1]
    rw [if_neg (by omega), List.drop_of_length_le (by omega)]
    exact ⟨k, by omega, by omega, rfl⟩
  | d + 1, i, k, h1, hk => by
    obtain ⟨k, rfl⟩ : ∃ m, k = m + 1 := ⟨k - 1, by omega⟩
    have hil : i < l.length := by omega
    obtain ⟨c1, c2⟩ := hl l[i] (List.getElem_mem _)
    simp only [spec_l4Propagate.l1]
    rw [if_pos (by omega), if_pos (by omega), if_pos (by omega), rdL_nat l i hil, next64 (by omega), specUnit_val out l[i] ho c1 k (by omega), List.drop_eq_getElem_cons hil]
    unfold scanC
    simp only [Option.bind_some]
    by_cases hb : (unitP out l[i]).2 = true
    · rw [if_pos hb, if_pos hb]
      exact ⟨k, by omega, by omega, rfl⟩
    · rw [if_neg hb, if_neg hb]
      by_cases h0 : (unitP out l[i]).1 = 0
      · rw [if_pos h0, if_pos h0]
        obtain ⟨j, hj1, hj2, hj⟩ := specProp_scan l hl hn out ho d (i + 1) k (by omega) (by omega)
        exact ⟨j, by omega, by omega, hj⟩
      · rw [if_neg h0, if_neg h0, if_pos (by omega)]
        exact ⟨k, by omega, by omega, rfl⟩
theorem specProp_l (l : List (List Int)) (hl : LitsOk l) (hn : l.length ≤ 1048576) : ∀ (f : Nat) (out : List Int) (k : Nat), freeV out < f → out.length + f ≤ 100000 → f * (l.length + 3) + 300010 ≤ k → spec_l4Propagate.l0 k l out true = some (propL l f out)
  | 0, _, _, h, _, _ => by omega
  | f + 1, out, k, h, ho, hk => by
    obtain ⟨k, rfl⟩ : ∃ m, k = m + 1 := ⟨k - 1, by omega⟩
    have hm : (f + 1) * (l.length + 3) = f * (l.length + 3) + (l.length + 3) := Nat.succ_mul _ _
    simp only [spec_l4Propagate.l0, if_true]
    obtain ⟨j, hj1, hj2, hj⟩ := specProp_scan l hl hn out (by omega) l.length 0 k (by omega) (by omega)
    rw [show ((0 : Nat) : Int) = 0 from rfl, List.drop_zero] at hj
    rw [hj]
    unfold propL
    match hs : scanC out l with
    | none =>
      obtain ⟨j', rfl⟩ : ∃ m, j = m + 1 := ⟨j - 1, by omega⟩
      simp [spec_l4Propagate.l0]
    | some none => rfl
    | some (some x) =>
      obtain ⟨a, b, c, d, e⟩ := scan_lit out l x hl hs
      have := freeV_lt out x a b c d e
      exact specProp_l l hl hn f (out ++ [x]) j (by omega) (by simp; omega) (by omega)
theorem implProp_scan (l : List (List Int)) (hl : LitsOk l) (hn : l.length ≤ 1048576) (out : List Int) (ho : out.length ≤ 100000) : ∀ (d i k : Nat), i + d = l.length → 1 + d ≤ k →
    ∃ j, k - d - 1 ≤ j ∧ j < k ∧ impl_propagate.l1 k l out false l (l.length : Int) (i : Int) = match scanC out (l.drop i) with | none => some (out, false) | some none => some (out, true) | some (some x) => impl_propagate.l0 j l (out ++ [x])
  | 0, i, k, h1, hk => by
    obtain ⟨k, rfl⟩ : ∃ m, k = m + 1 := ⟨k - 1, by omega⟩
    simp only [impl_propagate.l1]
    rw [if_neg (by omega), List.drop_of_length_le (by omega), if_neg Bool.false_ne_true]
    exact ⟨k, by omega, by omega, rfl⟩
  | d + 1, i, k, h1, hk => by
    obtain ⟨k, rfl⟩ : ∃ m, k = m + 1 := ⟨k - 1, by omega⟩
    have hil : i < l.length := by omega
    obtain ⟨c1, c2⟩ := hl l[i] (List.getElem_mem _)
    obtain ⟨j, hj1, hj2, hj⟩ := implProp_scan l hl hn out ho d (i + 1) k (by omega) (by omega)
    simp only [impl_propagate.l1, impl_meets.f, impl_without.f]
    rw [if_pos (by omega), if_pos (by omega), if_pos (by omega), rdL_nat l i hil, next64 (by omega), if_pos (by omega), List.drop_eq_getElem_cons hil]
    unfold scanC
    simp only [Option.bind_some]
    cases hm : meetsB l[i] out with
    | true =>
      have hu : unitP out l[i] = (0, false) := by unfold unitP; rw [hm]; rfl
      rw [hu]
      simp only [if_true]
      exact ⟨j, by omega, by omega, by simpa using hj⟩
    | false =>
      rw [if_neg Bool.false_ne_true]
      match hw : withoutL l[i] out with
      | [] =>
        have hu : unitP out l[i] = (0, true) := by unfold unitP; rw [hm, hw]; rfl
        rw [hu]
        exact ⟨k, by omega, by omega, by simp⟩
      | [x] =>
        have hu : unitP out l[i] = (x, false) := by unfold unitP; rw [hm, hw]; rfl
        have hx : x ∈ l[i] := by
          have : x ∈ withoutL l[i] out := by rw [hw]; simp
          unfold withoutL at this
          exact (List.mem_filter.1 this).1
        have h0 := (c2 x hx).1
        rw [hu]
        refine ⟨k, by omega, by omega, ?_⟩
        simp only [List.length_singleton]
        rw [if_neg (by decide), if_pos (by decide), if_pos (by decide), if_pos (by omega), if_neg Bool.false_ne_true, if_neg h0]
        rfl
      | x :: y :: t =>
        have hu : unitP out l[i] = (0, false) := by unfold unitP; rw [hm, hw]; rfl
        rw [hu]
        refine ⟨j, by omega, by omega, ?_⟩
        rw [if_neg (by simp; omega), if_neg (by simp; omega)]
        simpa using hj
theorem implProp_l (l : List (List Int)) (hl : LitsOk l) (hn : l.length ≤ 1048576) : ∀ (f : Nat) (out : List Int) (k : Nat), freeV out < f → out.length + f ≤ 100000 → f * (l.length + 3) + 10 ≤ k → impl_propagate.l0 k l out = some (propL l f out)
  | 0, _, _, h, _, _ => by omega
  | f + 1, out, k, h, ho, hk => by
    obtain ⟨k, rfl⟩ : ∃ m, k = m + 1 := ⟨k - 1, by omega⟩
    have hm : (f + 1) * (l.length + 3) = f * (l.length + 3) + (l.length + 3) := Nat.succ_mul _ _
    simp only [impl_propagate.l0]
    obtain ⟨j, hj1, hj2, hj⟩ := implProp_scan l hl hn out (by omega) l.length 0 k (by omega) (by omega)
    rw [show ((0 : Nat) : Int) = 0 from rfl, List.drop_zero] at hj
    rw [hj]
    unfold propL
    match hs : scanC out l with
    | none => rfl
    | some none => rfl
    | some (some x) =>
      obtain ⟨a, b, c, d, e⟩ := scan_lit out l x hl hs
      have := freeV_lt out x a b c d e
      exact implProp_l l hl hn f (out ++ [x]) j (by omega) (by simp; omega) (by omega)
/-- Unit propagation. -/
def propP (l : List (List Int)) (given : List Int) : List Int × Bool := propL l 13 given
theorem specProp_val (l : List (List Int)) (hl : LitsOk l) (hn : l.length ≤ 10000) (g : List Int) (hg : g.length ≤ 10000) (k : Nat) (hk : 3000000 ≤ k) : spec_l4Propagate.f k l g = some (propP l g) := by
  unfold spec_l4Propagate.f propP
  simp only [Option.bind_some, List.nil_append, List.length_nil]
  rw [if_pos (by omega)]
  exact specProp_l l hl (by omega) 13 g k (by have := freeV_le g; omega) (by omega) (by omega)
theorem implProp_val (l : List (List Int)) (hl : LitsOk l) (hn : l.length ≤ 10000) (g : List Int) (hg : g.length ≤ 10000) (k : Nat) (hk : 3000000 ≤ k) : impl_propagate.f k l g = some (propP l g) := by
  unfold impl_propagate.f slices_Clone_int_int.f propP
  rw [if_pos (by omega)]
  simp only [Option.bind_some]
  exact implProp_l l hl (by omega) 13 g k (by have := freeV_le g; omega) (by omega) (by omega)
theorem good_litsOk {v : Int} {l : List (List Int)} (h : goodB v l = true) : LitsOk l := by
  obtain ⟨h0, h1, _, _⟩ := goodB_facts h
  intro c hc
  obtain ⟨a, b⟩ := goodB_lits h c hc
  exact ⟨by omega, fun n hn => by have := b n hn; omega⟩

theorem hasB_mem {l : List Int} {n : Int} : hasB l n = true ↔ n ∈ l := by
  unfold hasB
  rw [List.any_eq_true]
  exact ⟨fun ⟨x, hx, he⟩ => by have : x = n := by simpa using he
                               exact this ▸ hx, fun h => ⟨n, h, by simp⟩⟩
theorem hasB_no {l : List Int} {n : Int} : hasB l n = false ↔ n ∉ l := by
  rw [← hasB_mem]
  simp
theorem scan_mem (out : List Int) : ∀ (l : List (List Int)) (x : Int), LitsOk l → scanC out l = some (some x) → ∃ c ∈ l, x ∈ c
  | [], x, _, h => by simp [scanC] at h
  | c :: r, x, hl, h => by
    unfold scanC at h
    have hc := (hl c List.mem_cons_self).2
    split at h
    · simp at h
    · split at h
      · obtain ⟨c', h1, h2⟩ := scan_mem out r x (fun c' h' => hl c' (List.mem_cons_of_mem _ h')) h
        exact ⟨c', List.mem_cons_of_mem _ h1, h2⟩
      · rename_i h2
        injection h with h
        injection h with h
        subst h
        exact ⟨c, List.mem_cons_self, (unitP_lit out c hc h2).2.1⟩
theorem propL_pre (l : List (List Int)) : ∀ (f : Nat) (out : List Int), ∃ t, (propL l f out).1 = out ++ t
  | 0, out => ⟨[], by simp [propL]⟩
  | f + 1, out => by
    unfold propL
    match scanC out l with
    | none => exact ⟨[], by simp⟩
    | some none => exact ⟨[], by simp⟩
    | some (some x) =>
      obtain ⟨t, ht⟩ := propL_pre l f (out ++ [x])
      exact ⟨x :: t, by simp only [ht]; simp⟩
/-- Whatever the given literals and those of the clauses are, the derived ones are. -/
theorem propL_all (P : Int → Prop) (l : List (List Int)) (hl : LitsOk l) (hP : ∀ c ∈ l, ∀ n ∈ c, P n) : ∀ (f : Nat) (out : List Int), (∀ n ∈ out, P n) → ∀ n ∈ (propL l f out).1, P n
  | 0, out, h => by simpa [propL] using h
  | f + 1, out, h => by
    unfold propL
    match hs : scanC out l with
    | none => exact h
    | some none => exact h
    | some (some x) =>
      obtain ⟨c, h1, h2⟩ := scan_mem out l x hl hs
      exact propL_all P l hl hP f (out ++ [x]) (fun n hn => by
        rcases List.mem_append.1 hn with hn | hn
        · exact h n hn
        · have : n = x := by simpa using hn
          exact this ▸ hP c h1 x h2)
/-- No variable both ways. -/
def Cons (out : List Int) : Prop := ∀ n ∈ out, hasB out (-n) = false
theorem cons_snoc {out : List Int} (h : Cons out) (x : Int) (h0 : x ≠ 0) (h1 : hasB out (-x) = false) : Cons (out ++ [x]) := by
  intro n hn
  rw [hasB_app]
  rcases List.mem_append.1 hn with hn | hn
  · rw [h n hn, Bool.false_or]
    cases e : x == -n with
    | false => rfl
    | true =>
      have : x = -n := by simpa using e
      have h2 : n = -x := by omega
      rw [h2] at hn
      rw [hasB_mem.2 hn] at h1
      cases h1
  · have : n = x := by simpa using hn
    subst this
    rw [h1, Bool.false_or]
    simp
    omega
theorem propL_cons (l : List (List Int)) (hl : LitsOk l) : ∀ (f : Nat) (out : List Int), Cons out → Cons (propL l f out).1
  | 0, out, h => by simpa [propL] using h
  | f + 1, out, h => by
    unfold propL
    match hs : scanC out l with
    | none => exact h
    | some none => exact h
    | some (some x) =>
      obtain ⟨a, b, c, d, e⟩ := scan_lit out l x hl hs
      exact propL_cons l hl f (out ++ [x]) (cons_snoc h x a e)

theorem vab_abs {n : Int} (h0 : -12 ≤ n) (h1 : n ≤ 12) : vab n = if 0 ≤ n then n else -n := by
  rw [vab_small h0 h1]
  by_cases h : 0 ≤ n
  · rw [if_pos h, if_neg (by omega)]
  · rw [if_neg h, if_pos (by omega)]

/-- A truth for each literal, the two of a variable told apart. -/
def Asg (a : Int → Bool) : Prop := ∀ n : Int, n ≠ 0 → -12 ≤ n → n ≤ 12 → a (-n) = !(a n)
def LitsC (c : List Int) : Prop := ∀ n ∈ c, n ≠ 0 ∧ -12 ≤ n ∧ n ≤ 12
theorem meets_iff {c out : List Int} : meetsB c out = true ↔ ∃ n, n ∈ c ∧ n ∈ out := by
  unfold meetsB
  rw [List.any_eq_true]
  constructor
  · rintro ⟨n, hn, h⟩
    rw [any_flip] at h
    exact ⟨n, hn, hasB_mem.1 h⟩
  · rintro ⟨n, hn, h⟩
    exact ⟨n, hn, by rw [any_flip]; exact hasB_mem.2 h⟩
theorem without_mem {c out : List Int} {n : Int} (h : -12 ≤ n ∧ n ≤ 12) : n ∈ withoutL c out ↔ n ∈ c ∧ -n ∉ out := by
  unfold withoutL
  rw [List.mem_filter, any_flip, neg64 (by omega) (by omega)]
  refine and_congr_right fun _ => ?_
  rw [← hasB_mem]
  unfold hasB
  cases out.any (· == -n) <;> simp
theorem unit_sound {a : Int → Bool} (ha : Asg a) {out c : List Int} (hc : LitsC c) (ho : ∀ x ∈ out, a x = true) (hs : c.any a = true) : (unitP out c).2 = false ∧ ((unitP out c).1 ≠ 0 → a (unitP out c).1 = true) := by
  obtain ⟨n, hn, han⟩ := List.any_eq_true.1 hs
  obtain ⟨n0, n1, n2⟩ := hc n hn
  have hw : n ∈ withoutL c out := (without_mem ⟨n1, n2⟩).2 ⟨hn, fun h => by
    have := ho _ h
    rw [ha n n0 n1 n2, han] at this
    cases this⟩
  cases hm : meetsB c out with
  | true =>
    have hu : unitP out c = (0, false) := by unfold unitP; rw [hm]; rfl
    rw [hu]
    exact ⟨rfl, fun h => absurd rfl h⟩
  | false =>
    match hw2 : withoutL c out with
    | [] => rw [hw2] at hw; cases hw
    | [x] =>
      have hu : unitP out c = (x, false) := by unfold unitP; rw [hm, hw2]; rfl
      rw [hw2] at hw
      have : n = x := by simpa using hw
      subst this
      rw [hu]
      exact ⟨rfl, fun _ => han⟩
    | x :: y :: t =>
      have hu : unitP out c = (0, false) := by unfold unitP; rw [hm, hw2]; rfl
      rw [hu]
      exact ⟨rfl, fun h => absurd rfl h⟩
theorem scan_sound {a : Int → Bool} (ha : Asg a) {out : List Int} (ho : ∀ x ∈ out, a x = true) : ∀ (l : List (List Int)), (∀ c ∈ l, LitsC c) → (∀ c ∈ l, c.any a = true) → scanC out l ≠ some none ∧ ∀ x, scanC out l = some (some x) → a x = true
  | [], _, _ => by simp [scanC]
  | c :: r, hl, hs => by
    obtain ⟨h1, h2⟩ := unit_sound ha (hl c List.mem_cons_self) ho (hs c List.mem_cons_self)
    unfold scanC
    rw [h1, if_neg Bool.false_ne_true]
    by_cases h0 : (unitP out c).1 = 0
    · rw [if_pos h0]
      exact scan_sound ha ho r (fun c' h' => hl c' (List.mem_cons_of_mem _ h')) (fun c' h' => hs c' (List.mem_cons_of_mem _ h'))
    · rw [if_neg h0]
      refine ⟨by simp, fun x hx => ?_⟩
      injection hx with hx
      injection hx with hx
      subst hx
      exact h2 h0
theorem prop_sound {a : Int → Bool} (ha : Asg a) {l : List (List Int)} (hl : ∀ c ∈ l, LitsC c) (hs : ∀ c ∈ l, c.any a = true) : ∀ (f : Nat) (out : List Int), (∀ x ∈ out, a x = true) → (propL l f out).2 = false ∧ ∀ x ∈ (propL l f out).1, a x = true
  | 0, out, ho => ⟨rfl, ho⟩
  | f + 1, out, ho => by
    obtain ⟨h1, h2⟩ := scan_sound ha ho l hl hs
    unfold propL
    match hsc : scanC out l with
    | none => exact ⟨rfl, ho⟩
    | some none => exact absurd hsc h1
    | some (some x) =>
      exact prop_sound ha hl hs f (out ++ [x]) (fun y hy => by
        rcases List.mem_append.1 hy with hy | hy
        · exact ho y hy
        · have : y = x := by simpa using hy
          exact this ▸ h2 x hsc)
/-- The propagation ends where nothing is left to find. -/
theorem prop_fix {l : List (List Int)} (hl : LitsOk l) : ∀ (f : Nat) (out : List Int), freeV out < f → (propL l f out).2 = false → scanC (propL l f out).1 l = none
  | 0, _, h, _ => by omega
  | f + 1, out, h, h2 => by
    unfold propL at h2 ⊢
    match hs : scanC out l with
    | none => exact hs
    | some none => rw [hs] at h2; cases h2
    | some (some x) =>
      rw [hs] at h2
      obtain ⟨a, b, c, d, e⟩ := scan_lit out l x hl hs
      have := freeV_lt out x a b c d e
      exact prop_fix hl f (out ++ [x]) (by omega) h2
theorem scan_none {out : List Int} : ∀ {l : List (List Int)}, scanC out l = none → ∀ c ∈ l, unitP out c = (0, false)
  | [], _ => by simp
  | c :: r, h => by
    unfold scanC at h
    split at h
    · cases h
    · rename_i h1
      split at h
      · rename_i h2
        intro c' hc'
        rcases List.mem_cons.1 hc' with rfl | hc'
        · exact Prod.ext h2 (by simpa using h1)
        · exact scan_none h c' hc'
      · cases h
theorem unit_full {out c : List Int} (hc : LitsC c) (hall : ∀ n ∈ c, n ∈ out ∨ -n ∈ out) (hu : unitP out c = (0, false)) : ∃ n ∈ c, n ∈ out := by
  cases hm : meetsB c out with
  | true => exact meets_iff.1 hm
  | false =>
    have hw : withoutL c out = [] := by
      rw [List.eq_nil_iff_forall_not_mem]
      intro n hn
      have hnc : n ∈ c := by
        unfold withoutL at hn
        exact (List.mem_filter.1 hn).1
      obtain ⟨_, h1, h2⟩ := hc n hnc
      obtain ⟨_, h3⟩ := (without_mem ⟨h1, h2⟩).1 hn
      rcases hall n hnc with h | h
      · have : meetsB c out = true := meets_iff.2 ⟨n, hnc, h⟩
        rw [hm] at this
        cases this
      · exact h3 h
    unfold unitP at hu
    rw [hm, hw] at hu
    simp at hu
theorem asg_lit (m : List Bool) : Asg (litAt m) := by
  intro n h0 h1 h2
  have e1 : vab (-n) = vab n := by
    rw [vab_abs (by omega) (by omega), vab_abs h1 h2]
    split <;> split <;> omega
  unfold litAt
  rw [e1]
  rcases Int.lt_or_gt_of_ne h0 with h | h
  · rw [decide_eq_true (show 0 < -n by omega), decide_eq_false (show ¬ 0 < n by omega)]
    cases rdOf false m (vab n - 1) <;> rfl
  · rw [decide_eq_false (show ¬ 0 < -n by omega), decide_eq_true (show 0 < n by omega)]
    cases rdOf false m (vab n - 1) <;> rfl
theorem holds_iff {l : List (List Int)} {m : List Bool} : holdsB l m = true ↔ ∀ c ∈ l, c.any (litAt m) = true := by
  unfold holdsB
  rw [List.all_eq_true]

/-- What is left of the clauses, given literals. -/
def reduceL (g : List Int) : List (List Int) → List (List Int)
  | [] => []
  | c :: r => if meetsB c g = true then reduceL g r else withoutL c g :: reduceL g r
theorem reduceL_length (g : List Int) : ∀ l : List (List Int), (reduceL g l).length ≤ l.length
  | [] => by simp [reduceL]
  | c :: r => by
    have := reduceL_length g r
    unfold reduceL
    split
    · simp only [List.length_cons]
      omega
    · simp only [List.length_cons]
      omega
theorem reduceL_rows (g : List Int) : ∀ l : List (List Int), (∀ x ∈ l, x.length ≤ 1000) → ∀ x ∈ reduceL g l, x.length ≤ 1000
  | [], _, x, hx => by simp [reduceL] at hx
  | c :: r, h, x, hx => by
    have ih := reduceL_rows g r (fun y hy => h y (List.mem_cons_of_mem _ hy))
    unfold reduceL at hx
    split at hx
    · exact ih x hx
    · rcases List.mem_cons.1 hx with e | hx
      · subst e
        have h1 := h c List.mem_cons_self
        have h2 : (withoutL c g).length ≤ c.length := List.length_filter_le _ _
        omega
      · exact ih x hx
theorem specReduce_in (g : List Int) (hg : g.length ≤ 1000) (l : List (List Int)) (n : Int) (c : List Int) (hc : c.length ≤ 1000) (out : List (List Int)) (ho : out.length ≤ 1000) : ∀ (d j K : Nat) (fl : Bool) (cur : List Int), j + d = c.length → cur.length ≤ j → 2000 ≤ K →
    spec_l4Reduce.l1 (K + d + 1) g out fl cur l (l.length : Int) n c (c.length : Int) (j : Int) = if (fl || meetsB (c.drop j) g) = true then spec_l4Reduce.l0 K g out l (l.length : Int) (wrap64 (n + 1)) else spec_l4Reduce.l0 K g (out ++ [cur ++ withoutL (c.drop j) g]) l (l.length : Int) (wrap64 (n + 1))
  | 0, j, K, fl, cur, h1, h2, hK => by
    rw [Nat.add_zero, spec_l4Reduce.l1, if_neg (by omega), List.drop_of_length_le (by omega)]
    cases fl with
    | true => simp
    | false =>
      rw [if_neg Bool.false_ne_true, if_pos (show out.length < 5864062014805 by omega)]
      simp [meetsB, withoutL]
  | d + 1, j, K, fl, cur, h1, h2, hK => by
    have hj : j < c.length := by omega
    have e : K + (d + 1) + 1 = (K + d + 1) + 1 := by omega
    rw [e, spec_l4Reduce.l1, if_pos (show (j : Int) < (c.length : Int) by omega), if_pos (show 0 ≤ (j : Int) by omega), if_pos (show (j : Int) < (c.length : Int) by omega), rd_nat c j hj, next64 (by omega), has_val g _ (by omega) (K + d + 1) (by omega), has_val g _ (by omega) (K + d + 1) (by omega)]
    simp only [Option.bind_some]
    have hcu : cur.length < 17592186044416 := by omega
    simp only [if_pos hcu]
    rw [drop_at c j hj, meets_cons, without_cons]
    rw [specReduce_in g hg l n c hc out ho d (j + 1) K true cur (by omega) (by omega) hK, specReduce_in g hg l n c hc out ho d (j + 1) K true (cur ++ [c[j]]) (by omega) (by simp; omega) hK]
    rw [specReduce_in g hg l n c hc out ho d (j + 1) K (g.any fun x => x == c[j]) cur (by omega) (by omega) hK, specReduce_in g hg l n c hc out ho d (j + 1) K (g.any fun x => x == c[j]) (cur ++ [c[j]]) (by omega) (by simp; omega) hK]
    unfold hasB
    cases fl <;> cases (g.any fun x => x == c[j]) <;> cases (g.any fun x => x == wrap64 (-c[j])) <;> simp
theorem specReduce_l (g : List Int) (hg : g.length ≤ 1000) (l : List (List Int)) (hn : l.length ≤ 1000) (hl : ∀ x ∈ l, x.length ≤ 1000) : ∀ (d i k : Nat) (out : List (List Int)), i + d = l.length → out.length ≤ i → 2000 + d * 1002 < k → spec_l4Reduce.l0 k g out l (l.length : Int) (i : Int) = some (out ++ reduceL g (l.drop i)) := by
  intro d
  induction d with
  | zero =>
    intro i k out h1 h2 hk
    obtain ⟨k, rfl⟩ : ∃ m, k = m + 1 := ⟨k - 1, by omega⟩
    rw [spec_l4Reduce.l0, if_neg (by omega), List.drop_of_length_le (by omega)]
    simp [reduceL]
  | succ d ih =>
    intro i k out h1 h2 hk
    rw [Nat.succ_mul] at hk
    have hi : i < l.length := by omega
    have hc := hl _ (List.getElem_mem hi)
    obtain ⟨c, hce⟩ : ∃ c, c = l[i] := ⟨_, rfl⟩
    rw [← hce] at hc
    obtain ⟨K, rfl⟩ : ∃ K, k = (K + c.length + 1) + 1 := ⟨k - c.length - 2, by omega⟩
    rw [spec_l4Reduce.l0, if_pos (by omega), if_pos (by omega), if_pos (by omega), rdL_nat l i hi, ← hce]
    generalize d * 1002 = dd at hk ih
    have hk2 : 2000 + dd < K := by omega
    have := specReduce_in g hg l (i : Int) c hc out (by omega) c.length 0 K false [] (by omega) (by simp) (by omega)
    rw [show ((0 : Nat) : Int) = 0 from rfl] at this
    rw [this, next64 (by omega), List.drop_eq_getElem_cons hi, ← hce]
    simp only [List.drop_zero, Bool.false_or, List.nil_append]
    rw [ih (i + 1) K out (by omega) (by omega) hk2, ih (i + 1) K (out ++ [withoutL c g]) (by omega) (by simp; omega) hk2]
    rw [reduceL]
    cases meetsB c g <;> simp
theorem specReduceIn_val (g : List Int) (hg : g.length ≤ 1000) (l : List (List Int)) (hn : l.length ≤ 1000) (hl : ∀ x ∈ l, x.length ≤ 1000) (k : Nat) (hk : 2000000 ≤ k) : spec_l4Reduce.f k l g = some (reduceL g l) := by
  have := specReduce_l g hg l hn hl l.length 0 k [] (by omega) (by simp) (by omega)
  unfold spec_l4Reduce.f
  simpa using this
theorem implReduce_l (g : List Int) (hg : g.length ≤ 1000) (l : List (List Int)) (hn : l.length ≤ 1000) (hl : ∀ x ∈ l, x.length ≤ 1000) : ∀ (d i k : Nat) (out : List (List Int)), i + d = l.length → out.length ≤ i → d < k → impl_reduce.l0 k g out l (l.length : Int) (i : Int) = some (out ++ reduceL g (l.drop i))
  | 0, i, k, out, h1, h2, hk => by
    obtain ⟨k, rfl⟩ : ∃ m, k = m + 1 := ⟨k - 1, by omega⟩
    simp only [impl_reduce.l0]
    rw [if_neg (by omega), List.drop_of_length_le (by omega)]
    simp [reduceL]
  | d + 1, i, k, out, h1, h2, hk => by
    obtain ⟨k, rfl⟩ : ∃ m, k = m + 1 := ⟨k - 1, by omega⟩
    have hi : i < l.length := by omega
    have hc := hl _ (List.getElem_mem hi)
    simp only [impl_reduce.l0]
    rw [if_pos (by omega), if_pos (by omega), if_pos (by omega), rdL_nat l i hi, next64 (by omega), List.drop_eq_getElem_cons hi]
    unfold impl_meets.f impl_without.f reduceL
    simp only [Option.bind_some]
    rw [if_pos (show (l[i]).length < 17592186044416 by omega)]
    simp only [Option.bind_some]
    rw [if_pos (show out.length < 5864062014805 by omega)]
    rw [implReduce_l g hg l hn hl d (i + 1) k out (by omega) (by omega) (by omega), implReduce_l g hg l hn hl d (i + 1) k (out ++ [withoutL l[i] g]) (by omega) (by simp; omega) (by omega)]
    cases meetsB l[i] g <;> simp
theorem implReduceIn_val (g : List Int) (hg : g.length ≤ 1000) (l : List (List Int)) (hn : l.length ≤ 1000) (hl : ∀ x ∈ l, x.length ≤ 1000) (k : Nat) (hk : 2000 ≤ k) : impl_reduce.f k l g = some (reduceL g l) := by
  have := implReduce_l g hg l hn hl l.length 0 k [] (by omega) (by simp) (by omega)
  unfold impl_reduce.f
  simpa using this
/-- What Reduce returns, for all arguments. -/
def reduceR (v : Int) (l : List (List Int)) (g : List Int) : List (List Int) × Bool := if goodB v l = true then (if isClauseB g v = true then (reduceL g l, true) else ([], false)) else ([], false)
theorem good_rows {v : Int} {l : List (List Int)} (h : goodB v l = true) : ∀ x ∈ l, x.length ≤ 1000 := fun x hx => by
  have := (goodB_lits h x hx).1
  omega
theorem specReduce_val (v : Int) (l : List (List Int)) (g : List Int) (hl : l.length ≤ 1048576) (hi : ∀ x ∈ l, x.length ≤ 1048576) (hc : g.length ≤ 1048576) (k : Nat) (hk : 5000000 ≤ k) : spec_Reduce.f k v l g = some (reduceR v l g) := by
  unfold spec_Reduce.f spec_l4Given.f reduceR
  rw [specGood_val v l hl hi k hk]
  simp only [Option.bind_some]
  cases hg : goodB v l with
  | false => rfl
  | true =>
    obtain ⟨h0, h1, h60, _⟩ := goodB_facts hg
    simp only [if_true]
    rw [clause_val v h0 h1 g hc k (by omega)]
    simp only [Option.bind_some]
    cases hcl : isClauseB g v with
    | false => rfl
    | true =>
      have := (isClause_facts hcl).1
      simp only [if_true]
      rw [specReduceIn_val g (by omega) l (by omega) (good_rows hg) k (by omega)]
      rfl
theorem implReduce_val (v : Int) (l : List (List Int)) (g : List Int) (k : Nat) (hk : 5000000 ≤ k) : impl_Reduce.f k v l g = some (reduceR v l g) := by
  unfold impl_Reduce.f impl_isClause.f reduceR
  rw [implGood_val]
  simp only [Option.bind_some]
  cases hg : goodB v l with
  | false => rfl
  | true =>
    obtain ⟨h0, h1, h60, _⟩ := goodB_facts hg
    simp only [if_true]
    cases hcl : isClauseB g v with
    | false => rfl
    | true =>
      have := (isClause_facts hcl).1
      simp only [if_true]
      rw [implReduceIn_val g (by omega) l (by omega) (good_rows hg) k (by omega)]
      rfl
theorem reduceR_bounds (v : Int) (l : List (List Int)) (g : List Int) : (reduceR v l g).1.length ≤ 1048576 ∧ ∀ x ∈ (reduceR v l g).1, x.length ≤ 1048576 := by
  unfold reduceR
  cases hg : goodB v l with
  | false => simp
  | true =>
    cases hcl : isClauseB g v with
    | false => simp
    | true =>
      simp only [if_true]
      have h1 := reduceL_length g l
      have h2 := (goodB_facts hg).2.2.1
      exact ⟨by omega, fun x hx => by have := reduceL_rows g l (good_rows hg) x hx; omega⟩

theorem clauseFrom_sub (v : Int) {l l' : List Int} (h : l'.Sublist l) : ∀ (seen seen' : List Int), (∀ k ∈ seen', k ∈ seen) → clauseFrom v seen l = true → clauseFrom v seen' l' = true := by
  induction h with
  | slnil => intro seen seen' _ _; rfl
  | cons a h ih =>
    intro seen seen' hs hc
    unfold clauseFrom at hc
    simp only [Bool.and_eq_true] at hc
    exact ih (seen ++ [a]) seen' (fun k hk => List.mem_append_left _ (hs k hk)) hc.2.2
  | cons_cons a h ih =>
    intro seen seen' hs hc
    unfold clauseFrom at hc ⊢
    simp only [Bool.and_eq_true] at hc ⊢
    refine ⟨hc.1, ?_, ih (seen ++ [a]) (seen' ++ [a]) (fun k hk => ?_) hc.2.2⟩
    · have h2 := hc.2.1
      rw [Bool.not_eq_true', List.any_eq_false] at h2 ⊢
      exact fun k hk => h2 k (hs k hk)
    · rcases List.mem_append.1 hk with hk | hk
      · exact List.mem_append_left _ (hs k hk)
      · exact List.mem_append_right _ hk
theorem isClause_sub {v : Int} {l l' : List Int} (h : l'.Sublist l) (hc : isClauseB l v = true) : isClauseB l' v = true := by
  unfold isClauseB at hc ⊢
  simp only [Bool.and_eq_true, decide_eq_true_eq] at hc ⊢
  exact ⟨clauseFrom_sub v h [] [] (fun k hk => hk) hc.1, Nat.le_trans h.length_le hc.2⟩
theorem reduceL_mem (g : List Int) : ∀ (l : List (List Int)) (x : List Int), x ∈ reduceL g l → ∃ c ∈ l, x = withoutL c g
  | [], x, h => by simp [reduceL] at h
  | c :: r, x, h => by
    unfold reduceL at h
    split at h
    · obtain ⟨c', h1, h2⟩ := reduceL_mem g r x h
      exact ⟨c', List.mem_cons_of_mem _ h1, h2⟩
    · rcases List.mem_cons.1 h with rfl | h
      · exact ⟨c, List.mem_cons_self, rfl⟩
      · obtain ⟨c', h1, h2⟩ := reduceL_mem g r x h
        exact ⟨c', List.mem_cons_of_mem _ h1, h2⟩
theorem reduce_good {v : Int} {l : List (List Int)} (g : List Int) (h : goodB v l = true) : goodB v (reduceL g l) = true := by
  obtain ⟨h0, h1, h2, h3⟩ := goodB_facts h
  have hl := reduceL_length g l
  unfold goodB
  rw [decide_eq_true h0, decide_eq_true h1, decide_eq_true (by omega : (reduceL g l).length ≤ 60)]
  simp only [Bool.true_and, List.all_eq_true]
  intro x hx
  obtain ⟨c, hc, rfl⟩ := reduceL_mem g l x hx
  exact isClause_sub (List.filter_sublist) (h3 c hc)
theorem reduce_holds {a : Int → Bool} (ha : Asg a) {g : List Int} (hg : ∀ x ∈ g, a x = true) : ∀ (l : List (List Int)), (∀ c ∈ l, LitsC c) → ((reduceL g l).all fun c => c.any a) = l.all fun c => c.any a
  | [], _ => rfl
  | c :: r, hl => by
    have ih := reduce_holds ha hg r (fun c' h' => hl c' (List.mem_cons_of_mem _ h'))
    have hc := hl c List.mem_cons_self
    unfold reduceL
    cases hm : meetsB c g with
    | true =>
      obtain ⟨n, hn, hng⟩ := meets_iff.1 hm
      have : c.any a = true := List.any_eq_true.2 ⟨n, hn, hg n hng⟩
      rw [if_pos rfl, ih, List.all_cons, this, Bool.true_and]
    | false =>
      have : (withoutL c g).any a = c.any a := by
        rw [Bool.eq_iff_iff, List.any_eq_true, List.any_eq_true]
        constructor
        · rintro ⟨n, hn, h⟩
          refine ⟨n, ?_, h⟩
          unfold withoutL at hn
          exact (List.mem_filter.1 hn).1
        · rintro ⟨n, hn, h⟩
          obtain ⟨n0, n1, n2⟩ := hc n hn
          refine ⟨n, (without_mem ⟨n1, n2⟩).2 ⟨hn, fun h' => ?_⟩, h⟩
          have := hg _ h'
          rw [ha n n0 n1 n2, h] at this
          cases this
      rw [if_neg Bool.false_ne_true, List.all_cons, List.all_cons, this, ih]

/-- What Propagate returns, for all arguments. -/
def propagateR (v : Int) (l : List (List Int)) (g : List Int) : List Int × Bool × Bool := if goodB v l = true then (if isClauseB g v = true then ((propP l g).1, (propP l g).2, true) else ([], false, false)) else ([], false, false)
theorem specPropagate_val (v : Int) (l : List (List Int)) (g : List Int) (hl : l.length ≤ 1048576) (hi : ∀ x ∈ l, x.length ≤ 1048576) (hc : g.length ≤ 1048576) (k : Nat) (hk : 5000000 ≤ k) : spec_Propagate.f k v l g = some (propagateR v l g) := by
  unfold spec_Propagate.f spec_l4Given.f propagateR
  rw [specGood_val v l hl hi k hk]
  simp only [Option.bind_some]
  cases hg : goodB v l with
  | false => rfl
  | true =>
    obtain ⟨h0, h1, h60, _⟩ := goodB_facts hg
    simp only [if_true]
    rw [clause_val v h0 h1 g hc k (by omega)]
    simp only [Option.bind_some]
    cases hcl : isClauseB g v with
    | false => rfl
    | true =>
      have := (isClause_facts hcl).1
      simp only [if_true]
      rw [specProp_val l (good_litsOk hg) (by omega) g (by omega) k (by omega)]
      rfl
theorem implPropagate_val (v : Int) (l : List (List Int)) (g : List Int) (k : Nat) (hk : 5000000 ≤ k) : impl_Propagate.f k v l g = some (propagateR v l g) := by
  unfold impl_Propagate.f impl_isClause.f propagateR
  rw [implGood_val]
  simp only [Option.bind_some]
  cases hg : goodB v l with
  | false => rfl
  | true =>
    obtain ⟨h0, h1, h60, _⟩ := goodB_facts hg
    simp only [if_true]
    cases hcl : isClauseB g v with
    | false => rfl
    | true =>
      have := (isClause_facts hcl).1
      simp only [if_true]
      rw [implProp_val l (good_litsOk hg) (by omega) g (by omega) k (by omega)]
      rfl

def bitAt (num : Int) (i : Nat) : Bool := (Go.bits .and .i64 (shr .i64 num (i : Int)) 1) == 1
def modelL (v : Nat) (num : Int) : List Bool := (List.range v).map fun i => bitAt num i
theorem modelL_length (v : Nat) (num : Int) : (modelL v num).length = v := by simp [modelL]
theorem u64_small {x : Int} (h0 : 0 ≤ x) (h1 : x ≤ 1000) : IntKind.u64.wrap x = x := by
  simp [IntKind.wrap, IntKind.bits, IntKind.signed]
  omega

theorem modelOf_l (num : Int) : ∀ (d i k : Nat) (y : List Bool), i + d = y.length → y.length ≤ 1000 → (∀ j, j < i → y[j]? = some (bitAt num j)) → d < k → laws_modelOf.l0 k num y (y.length : Int) (i : Int) = some (modelL y.length num)
  | 0, i, k, y, h1, h2, h3, hk => by
    obtain ⟨k, rfl⟩ : ∃ m, k = m + 1 := ⟨k - 1, by omega⟩
    simp only [laws_modelOf.l0]
    rw [if_neg (by omega)]
    congr 1
    apply List.ext_getElem?
    intro j
    by_cases hj : j < y.length
    · rw [h3 j (by omega)]
      simp [modelL, hj]
    · rw [List.getElem?_eq_none (by omega), List.getElem?_eq_none (by rw [modelL_length]; omega)]
  | d + 1, i, k, y, h1, h2, h3, hk => by
    obtain ⟨k, rfl⟩ : ∃ m, k = m + 1 := ⟨k - 1, by omega⟩
    simp only [laws_modelOf.l0]
    rw [u64_small (x := (i : Int)) (by omega) (by omega), if_pos (by omega), if_pos (by omega), if_pos (by omega), if_pos (by omega), next64 (by omega), show ((i : Int).toNat) = i by omega]
    have ih := modelOf_l num d (i + 1) k (y.set i (bitAt num i)) (by rw [List.length_set]; omega) (by rw [List.length_set]; omega) (fun j hj => by
      rw [List.getElem?_set]
      by_cases e : i = j
      · subst e
        rw [if_pos rfl, if_pos (by omega)]
      · rw [if_neg e]
        exact h3 j (by omega)) (by omega)
    rw [List.length_set] at ih
    exact ih
theorem modelOf_val (v : Int) (h0 : 0 ≤ v) (h1 : v ≤ 12) (num : Int) (k : Nat) (hk : 1000 ≤ k) : laws_modelOf.f k v num = some (modelL v.toNat num) := by
  unfold laws_modelOf.f
  rw [if_pos h0, if_pos (by omega)]
  simp only [Option.bind_some]
  have := modelOf_l num v.toNat 0 k (List.replicate v.toNat false) (by simp) (by simp; omega) (fun j hj => absurd hj (by omega)) (by omega)
  rw [List.length_replicate] at this ⊢
  exact this

theorem bits_one (n : Nat) (h : n < 9223372036854775808) : Go.bits .and .i64 (n : Int) 1 = ((n % 2 : Nat) : Int) := by
  have e : (BitVec.ofInt 64 (n : Int) &&& BitVec.ofInt 64 1).toNat = n % 2 := by
    rw [BitVec.toNat_and, show (BitVec.ofInt 64 (1 : Int)).toNat = 1 by decide, BitVec.toNat_ofInt, Nat.and_one_is_mod]
    omega
  show IntKind.i64.wrap ((BitVec.ofInt 64 (n : Int) &&& BitVec.ofInt 64 1).toNat : Int) = _
  rw [e, IntKind.wrap_i64]
  omega
theorem bitAt_nat (x i : Nat) (hx : x < 4096) (hi : i < 64) : bitAt (x : Int) i = x.testBit i := by
  unfold bitAt shr
  rw [show min ((i : Int).toNat) IntKind.i64.bits = i by simp [IntKind.bits]; omega, show ((2 : Int) ^ i) = ((2 ^ i : Nat) : Int) by simp, ← Int.natCast_ediv]
  have hle : x / 2 ^ i ≤ x := Nat.div_le_self _ _
  generalize hq : x / 2 ^ i = q at *
  rw [bits_one _ (by omega), Nat.testBit_eq_decide_div_mod_eq, hq, Bool.eq_iff_iff]
  simp only [beq_iff_eq, decide_eq_true_eq]
  omega
def numOf : List Bool → Nat
  | [] => 0
  | b :: r => (if b = true then 1 else 0) + 2 * numOf r
theorem numOf_lt : ∀ m : List Bool, numOf m < 2 ^ m.length
  | [] => by simp [numOf]
  | b :: r => by
    have := numOf_lt r
    rw [List.length_cons, Nat.pow_succ]
    unfold numOf
    split <;> omega
theorem numOf_bit : ∀ (m : List Bool) (i : Nat), (numOf m).testBit i = m.getD i false
  | [], i => by simp [numOf]
  | b :: r, 0 => by
    rw [Nat.testBit_zero]
    unfold numOf
    cases b with
    | true => simp
    | false => simp
  | b :: r, i + 1 => by
    rw [Nat.testBit_succ]
    have : numOf (b :: r) / 2 = numOf r := by
      rw [numOf]
      split <;> omega
    rw [this, numOf_bit r i]
    simp
theorem model_of (m : List Bool) (hm : m.length ≤ 12) : numOf m < 2 ^ m.length ∧ modelL m.length (numOf m : Int) = m := by
  have h1 := numOf_lt m
  have h2 : 2 ^ m.length ≤ 2 ^ 12 := Nat.pow_le_pow_right (by decide) hm
  refine ⟨h1, ?_⟩
  apply List.ext_getElem?
  intro j
  unfold modelL
  rw [List.getElem?_map]
  by_cases hj : j < m.length
  · rw [List.getElem?_range hj, List.getElem?_eq_getElem hj]
    simp only [Option.map_some]
    rw [bitAt_nat _ _ (by omega) (by omega), numOf_bit, List.getD_eq_getElem?_getD, List.getElem?_eq_getElem hj]
    rfl
  · rw [List.getElem?_eq_none (by simp; omega), List.getElem?_eq_none (by omega)]
    rfl

theorem allIn_l (m : List Bool) (hm : m.length ≤ 12) (l : List Int) (hl : l.length ≤ 100000) (hr : ∀ n ∈ l, n ≠ 0 ∧ -(m.length : Int) ≤ n ∧ n ≤ (m.length : Int)) : ∀ (d i k : Nat), i + d = l.length → d < k → laws_allIn.l0 k m l (l.length : Int) (i : Int) = some ((l.drop i).all (litAt m))
  | 0, i, k, h1, hk => by
    obtain ⟨k, rfl⟩ : ∃ m, k = m + 1 := ⟨k - 1, by omega⟩
    simp only [laws_allIn.l0]
    rw [if_neg (by omega), List.drop_of_length_le (by omega)]
    rfl
  | d + 1, i, k, h1, hk => by
    obtain ⟨k, rfl⟩ : ∃ m, k = m + 1 := ⟨k - 1, by omega⟩
    have hil : i < l.length := by omega
    obtain ⟨n0, n1, n2⟩ := hr l[i] (List.getElem_mem hil)
    have ih := allIn_l m hm l hl hr d (i + 1) k (by omega) (by omega)
    simp only [laws_allIn.l0]
    rw [if_pos (by omega), if_pos (by omega), if_pos (by omega), rd_nat l i hil, next64 (by omega), drop_at l i hil, List.all_cons, ih]
    generalize l[i] = n at n0 n1 n2
    rw [w64 (x := -n) (by omega) (by omega), w64 (x := n - 1) (by omega) (by omega), w64 (x := -n - 1) (by omega) (by omega)]
    have hv := vab_abs (n := n) (by omega) (by omega)
    unfold litAt
    rcases Int.lt_or_gt_of_ne n0 with h | h
    · rw [if_neg (by omega)] at hv
      rw [if_neg (by omega), if_pos h, if_pos (by omega), if_pos (by omega), hv, decide_eq_false (by omega)]
      cases rdOf false m (-n - 1) with
      | true => simp
      | false => simp
    · rw [if_pos (by omega)] at hv
      rw [if_pos h, if_pos (by omega), if_pos (by omega), hv, decide_eq_true (by omega)]
      cases rdOf false m (n - 1) with
      | true =>
        rw [if_pos rfl, if_neg (by omega)]
        simp
      | false =>
        rw [if_neg Bool.false_ne_true]
        simp
theorem allIn_val (m : List Bool) (hm : m.length ≤ 12) (l : List Int) (hl : l.length ≤ 100000) (hr : ∀ n ∈ l, n ≠ 0 ∧ -(m.length : Int) ≤ n ∧ n ≤ (m.length : Int)) (k : Nat) (hk : l.length < k) : laws_allIn.f k l m = some (l.all (litAt m)) := by
  unfold laws_allIn.f
  have := allIn_l m hm l hl hr l.length 0 k (by omega) hk
  simpa using this

theorem rdB_nat (l : List Bool) (i : Nat) (h : i < l.length) : rdOf false l (i : Int) = l[i] := by
  unfold rdOf
  rw [List.getD_eq_getElem?_getD, show ((i : Int).toNat) = i by omega, List.getElem?_eq_getElem h]
  rfl

theorem fits_good {v : Int} {l : List (List Int)} (h : goodB v l = true) (m : List Bool) (hm : (m.length : Int) = v) : fitsModel l m = true := by
  obtain ⟨h0, h1, h2, _⟩ := goodB_facts h
  unfold fitsModel
  rw [List.all_eq_true]
  intro c hc
  rw [List.all_eq_true]
  intro n hn
  obtain ⟨a0, a1, a2⟩ := (goodB_lits h c hc).2 n hn
  rw [vab_small (by omega) (by omega)]
  simp only [Bool.and_eq_true, decide_eq_true_eq]
  split <;> omega
theorem implHolds_val {v : Int} {l : List (List Int)} (h : goodB v l = true) (m : List Bool) (hm : (m.length : Int) = v) : impl_holds.f l m = some (holdsB l m) := by
  unfold impl_holds.f
  rw [if_pos (fits_good h m hm)]

theorem implHoldsAll_val {v : Int} {l : List (List Int)} (hg : goodB v l = true) (m : List Bool) (hm : (m.length : Int) = v) : impl_HoldsAll.f v l m = some (holdsB l m, true) := by
  unfold impl_HoldsAll.f
  rw [implGood_val, hg]
  simp only [Option.bind_some, if_true]
  rw [if_pos hm, implHolds_val hg m hm]
  rfl

theorem sameInts_l (l : List Int) (hl : l.length ≤ 1048576) : ∀ (d i k : Nat), i + d = l.length → d < k → laws_sameInts.l0 k l l (l.length : Int) (i : Int) = some true
  | 0, i, k, h1, hk => by
    obtain ⟨k, rfl⟩ : ∃ m, k = m + 1 := ⟨k - 1, by omega⟩
    simp only [laws_sameInts.l0]
    rw [if_neg (by omega)]
  | d + 1, i, k, h1, hk => by
    obtain ⟨k, rfl⟩ : ∃ m, k = m + 1 := ⟨k - 1, by omega⟩
    simp only [laws_sameInts.l0, if_true]
    rw [if_pos (by omega), if_pos (by omega), if_pos (by omega), if_pos (by omega), next64 (by omega)]
    exact sameInts_l l hl d (i + 1) k (by omega) (by omega)
theorem sameInts_refl (l : List Int) (hl : l.length ≤ 1048576) (k : Nat) (hk : l.length < k) : laws_sameInts.f k l l = some true := by
  unfold laws_sameInts.f
  rw [if_pos rfl]
  exact sameInts_l l hl l.length 0 k (by omega) hk

theorem sameRows_l (l : List (List Int)) (hl : l.length ≤ 1048576) (hi : ∀ x ∈ l, x.length ≤ 1048576) : ∀ (d i k : Nat), i + d = l.length → d + 1048577 < k → laws_sameRows.l0 k l l (l.length : Int) (i : Int) = some true
  | 0, i, k, h1, hk => by
    obtain ⟨k, rfl⟩ : ∃ m, k = m + 1 := ⟨k - 1, by omega⟩
    simp only [laws_sameRows.l0]
    rw [if_neg (by omega)]
  | d + 1, i, k, h1, hk => by
    obtain ⟨k, rfl⟩ : ∃ m, k = m + 1 := ⟨k - 1, by omega⟩
    have hil : i < l.length := by omega
    have hx : (rd_L2 l (i : Int)).length ≤ 1048576 := by
      unfold rd_L2
      rw [List.getD_eq_getElem?_getD, show ((i : Int).toNat) = i by omega, List.getElem?_eq_getElem hil]
      exact hi _ (List.getElem_mem _)
    simp only [laws_sameRows.l0]
    rw [if_pos (by omega), if_pos (by omega), if_pos (by omega), if_pos (by omega), sameInts_refl _ hx k (by omega), next64 (by omega)]
    simp only [Option.bind_some, if_true]
    exact sameRows_l l hl hi d (i + 1) k (by omega) (by omega)
theorem sameRows_refl (l : List (List Int)) (hl : l.length ≤ 1048576) (hi : ∀ x ∈ l, x.length ≤ 1048576) (k : Nat) (hk : 3000000 ≤ k) : laws_sameRows.f k l l = some true := by
  unfold laws_sameRows.f
  rw [if_pos rfl]
  exact sameRows_l l hl hi l.length 0 k (by omega) (by omega)

theorem propL_length (l : List (List Int)) : ∀ (f : Nat) (out : List Int), (propL l f out).1.length ≤ out.length + f
  | 0, out => by simp [propL]
  | f + 1, out => by
    unfold propL
    split
    · simp
    · simp
    · have := propL_length l f (out ++ [‹Int›])
      simp only [List.length_append, List.length_cons, List.length_nil] at this
      omega
theorem propagateR_length (v : Int) (l : List (List Int)) (g : List Int) : (propagateR v l g).1.length ≤ 1048576 := by
  unfold propagateR
  split
  · split
    · rename_i h
      have h1 := (isClause_facts h).1
      have h2 := propL_length l 13 g
      unfold propP
      simp only
      omega
    · simp
  · simp

theorem pow_shl (v : Int) (h0 : 0 ≤ v) (h1 : v ≤ 12) : shl .i64 1 v = ((2 ^ v.toNat : Nat) : Int) := by
  unfold shl
  have h : v.toNat ≤ 12 := by omega
  rw [Nat.min_eq_left (show v.toNat ≤ IntKind.i64.bits by simp [IntKind.bits]; omega), IntKind.wrap_i64]
  have hp : 2 ^ v.toNat ≤ 2 ^ 12 := Nat.pow_le_pow_right (by decide) h
  have e : ((2 : Int) ^ v.toNat) = ((2 ^ v.toNat : Nat) : Int) := by simp
  rw [Int.one_mul, e]
  generalize 2 ^ v.toNat = p at hp
  omega
theorem atOnce_j4 {d : List Int} (hd : U8 d) (k : Nat) (hk : 6000000 ≤ k) : laws_FnAtOnce.j4 k d = some true := by
  obtain ⟨k, rfl⟩ : ∃ m, k = m + 1 := ⟨k - 1, by omega⟩
  obtain ⟨v, l, g, e, hl, hg, v0, v1⟩ := drawPropagate_ok hd k (by omega)
  obtain ⟨hlb, hli⟩ := clOk_bounds hl (by omega) (by omega)
  have hdraw : spec_DrawReduce.f k d = some (v, l, g) := by
    unfold spec_DrawReduce.f
    rw [e]
    rfl
  obtain ⟨hb1, hb2⟩ := reduceR_bounds v l g
  simp only [laws_FnAtOnce.j4]
  rw [hdraw]
  simp only [Option.bind_some]
  rw [implReduce_val v l g k (by omega), specReduce_val v l g hlb hli (by omega) k (by omega)]
  simp only [Option.bind_some, BEq.rfl, if_true]
  rw [sameRows_refl _ hb1 hb2 k (by omega)]
  rfl
theorem atOnce_l0 {d : List Int} (hd : U8 d) {v : Int} (hv : v ≤ 8) {l r : List (List Int)} {g p : List Int} {bad : Bool} (hgl : goodB v l = true) (hgr : goodB v r = true)
    (hg : g.length ≤ 10000 ∧ ∀ n ∈ g, n ≠ 0 ∧ -v ≤ n ∧ n ≤ v) (hp : p.length ≤ 10000 ∧ ∀ n ∈ p, n ≠ 0 ∧ -v ≤ n ∧ n ≤ v)
    (h1 : ∀ m : List Bool, g.all (litAt m) = true → holdsB l m = true → bad = false ∧ p.all (litAt m) = true) (h2 : ∀ m : List Bool, g.all (litAt m) = true → holdsB r m = holdsB l m) :
    ∀ (n : Nat) (x : Int) (k : Nat), x + n = ((2 ^ v.toNat : Nat) : Int) → 0 ≤ x → 6000000 + 2 * n < k → laws_FnAtOnce.l0 k d v l g p bad r x = some true := by
  obtain ⟨v0, v1, _, _⟩ := goodB_facts hgl
  have hpw : 2 ^ v.toNat ≤ 2 ^ 12 := Nat.pow_le_pow_right (by decide) (by omega)
  intro n
  induction n with
  | zero =>
    intro x k hx hx0 hk
    obtain ⟨k, rfl⟩ : ∃ m, k = m + 1 := ⟨k - 1, by omega⟩
    simp only [laws_FnAtOnce.l0]
    rw [u64_small v0 (by omega), if_pos v0, pow_shl v v0 v1, if_neg (by omega)]
    exact atOnce_j4 hd k (by omega)
  | succ n ih =>
    intro x k hx hx0 hk
    obtain ⟨k, rfl⟩ : ∃ m, k = m + 1 := ⟨k - 1, by omega⟩
    have hml : ((modelL v.toNat x).length : Int) = v := by rw [modelL_length]; omega
    simp only [laws_FnAtOnce.l0]
    rw [u64_small v0 (by omega), if_pos v0, pow_shl v v0 v1, if_pos (by omega), modelOf_val v v0 v1 x k (by omega)]
    simp only [Option.bind_some]
    generalize hm : modelL v.toNat x = m at hml
    rw [implHoldsAll_val hgl m hml]
    simp only [Option.bind_some, if_true]
    rw [allIn_val m (by omega) g (by omega) (fun y hy => by rw [hml]; exact hg.2 y hy) k (by omega)]
    simp only [Option.bind_some]
    rw [w64 (x := x + 1) (by omega) (by omega)]
    cases hga : g.all (litAt m) with
    | false =>
      rw [if_neg Bool.false_ne_true]
      exact ih (x + 1) k (by omega) (by omega) (by omega)
    | true =>
      rw [if_pos rfl]
      have hr := h2 m hga
      have hj : laws_FnAtOnce.j3 k d v l g p bad r x m (holdsB l m) false = some true := by
        obtain ⟨k, rfl⟩ : ∃ m, k = m + 1 := ⟨k - 1, by omega⟩
        simp only [laws_FnAtOnce.j3]
        rw [if_neg Bool.false_ne_true, implHoldsAll_val hgr m hml]
        simp only [Option.bind_some, if_true]
        rw [hr, bne_self_eq_false, if_neg Bool.false_ne_true, w64 (x := x + 1) (by omega) (by omega)]
        exact ih (x + 1) k (by omega) (by omega) (by omega)
      cases hh : holdsB l m with
      | false =>
        rw [if_neg Bool.false_ne_true]
        rw [hh] at hj
        exact hj
      | true =>
        obtain ⟨hb, hpa⟩ := h1 m hga hh
        rw [hh] at hj
        rw [if_pos rfl, hb, if_neg Bool.false_ne_true, allIn_val m (by omega) p (by omega) (fun y hy => by rw [hml]; exact hp.2 y hy) k (by omega), hpa]
        rw [hb] at hj
        exact hj

theorem FnAtOnce : laws_FnAtOnce.Pure := by
  intro c d hc0 hc1 hc2 hd0 hd1 hd2
  obtain ⟨k, hk⟩ : ∃ k : Nat, 20000000 ≤ k := ⟨_, Nat.le_refl _⟩
  refine ⟨k + 2, ?_⟩
  have hc := u8_of hc2
  have hd := u8_of hd2
  unfold laws_FnAtOnce.f
  by_cases hbig : wrap64 ((c.length : Int) + (d.length : Int)) > 1048576
  · rw [if_pos hbig]
  · rw [if_neg hbig]
    obtain ⟨v, l, g, e, hl, hg, v0, v1⟩ := drawPropagate_ok hc (k + 2) (by omega)
    obtain ⟨hlb, hli⟩ := clOk_bounds hl (by omega) (by omega)
    rw [e]
    simp only [Option.bind_some]
    rw [implPropagate_val v l g (k + 2) (by omega), specPropagate_val v l g hlb hli (by omega) (k + 2) (by omega)]
    simp only [Option.bind_some, bne_self_eq_false]
    rw [if_neg Bool.false_ne_true, if_neg Bool.false_ne_true, sameInts_refl _ (propagateR_length v l g) (k + 2) (by have := propagateR_length v l g; omega)]
    simp only [Option.bind_some, if_true]
    rw [implGood_val, specGood_val v l hlb hli (k + 2) (by omega)]
    simp only [Option.bind_some, bne_self_eq_false, laws_FnAtOnce.j0]
    rw [if_neg Bool.false_ne_true]
    cases hok : (propagateR v l g).2.2 with
    | false =>
      rw [if_neg Bool.false_ne_true]
      exact atOnce_j4 hd (k + 1) (by omega)
    | true =>
      have hgc : goodB v l = true ∧ isClauseB g v = true := by
        unfold propagateR at hok
        cases h1 : goodB v l with
        | false => rw [h1] at hok; cases hok
        | true =>
          cases h2 : isClauseB g v with
          | false => rw [h1, h2] at hok; cases hok
          | true => exact ⟨rfl, rfl⟩
      obtain ⟨hgo, hcl⟩ := hgc
      obtain ⟨_, v12, h60, _⟩ := goodB_facts hgo
      obtain ⟨g12, glit⟩ := isClause_facts hcl
      have hgl : ∀ n ∈ g, n ≠ 0 ∧ -v ≤ n ∧ n ≤ v := fun n hn => litB_small v0 v12 (glit n hn)
      have hpr : propagateR v l g = ((propP l g).1, (propP l g).2, true) := by
        unfold propagateR
        rw [if_pos hgo, if_pos hcl]
      have hrr : reduceR v l g = (reduceL g l, true) := by
        unfold reduceR
        rw [if_pos hgo, if_pos hcl]
      have hpl := propL_length l 13 g
      obtain ⟨t, ht⟩ := propL_pre l 13 g
      have hp1 : (propP l g).1 = g ++ t := ht
      have hpa : ∀ n ∈ (propP l g).1, n ≠ 0 ∧ -v ≤ n ∧ n ≤ v := propL_all (fun n => n ≠ 0 ∧ -v ≤ n ∧ n ≤ v) l (good_litsOk hgo) (fun c hc n hn => (goodB_lits hgo c hc).2 n hn) 13 g hgl
      have hplen : (propP l g).1.length ≤ 100 := by
        unfold propP
        omega
      have hle : g.length ≤ (propP l g).1.length := by
        rw [hp1, List.length_append]
        omega
      rw [if_pos rfl, implReduce_val v l g (k + 1) (by omega), hrr, hpr]
      simp only [Option.bind_some, if_true]
      rw [if_neg (by omega), if_pos (by omega), if_pos (by omega), show ((propP l g).1.take (g.length : Int).toNat) = g by rw [hp1, show ((g.length : Int).toNat) = g.length by omega, List.take_left'] ; rfl, sameInts_refl g (by omega) (k + 1) (by omega)]
      simp only [Option.bind_some, Bool.not_true, laws_FnAtOnce.j1]
      rw [if_neg Bool.false_ne_true]
      by_cases h8 : v ≤ 8
      · rw [if_pos h8]
        refine atOnce_l0 hd h8 hgo (reduce_good g hgo) ⟨by omega, hgl⟩ ⟨by omega, hpa⟩ (fun m hga hh => ?_) (fun m hga => ?_) (2 ^ v.toNat) 0 k (by omega) (by omega) (by
          have hpw : 2 ^ v.toNat ≤ 2 ^ 12 := Nat.pow_le_pow_right (by decide) (by omega)
          omega)
        · obtain ⟨a, b⟩ := prop_sound (asg_lit m) (l := l) (fun c hc n hn => ((good_litsOk hgo) c hc).2 n hn) (holds_iff.1 hh) 13 g (fun x hx => List.all_eq_true.1 hga x hx)
          exact ⟨a, List.all_eq_true.2 b⟩
        · exact reduce_holds (asg_lit m) (fun x hx => List.all_eq_true.1 hga x hx) l (fun c hc n hn => ((good_litsOk hgo) c hc).2 n hn)
      · rw [if_neg h8]
        exact atOnce_j4 hd k (by omega)

end Go.Proofs.Ytpkbjgmeejlchab.Pure
