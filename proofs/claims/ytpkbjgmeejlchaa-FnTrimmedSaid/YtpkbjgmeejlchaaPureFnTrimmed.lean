/- The pure statement of the law FnTrimmed: the printed functions of the program and of the reference give the same answers, at every input that the statement's guards let in. -/
import Derived.Test.YtpkbjgmeejlchaaPFnTrimmedx15
namespace Go.Proofs.Ytpkbjgmeejlchaa.Pure
open Go.RowKit Go.Proofs.Ytpkbjgmeejlchaa.PFnTrimmed Go.Proofs.YtpkbjgmeejlchaaW.PrintWords Go.Proofs.YtpkbjgmeejlchaaW.PrintLast Go.Proofs.YtpkbjgmeejlchaaW.PrintMore
set_option linter.unusedSimpArgs false
set_option linter.unusedVariables false
def litAt (m : List Bool) (n : Int) : Bool := rdOf false m (vab n - 1) == decide (0 < n)
def holdsB (l : List (List Int)) (m : List Bool) : Bool := l.all fun c => c.any (litAt m)
theorem rowIn_mem_ {α : Type} {l : List (List α)} {i : Int} (h0 : 0 ≤ i) (h1 : i < (l.length : Int)) : rowIn_ l i ∈ l := by
  unfold rowIn_
  rw [List.getD_eq_getElem?_getD, List.getElem?_eq_getElem (show i.toNat < l.length by omega)]
  exact List.getElem_mem _

theorem w64 {x : Int} (h0 : -9223372036854775808 ≤ x) (h1 : x ≤ 9223372036854775807) : wrap64 x = x := by
  unfold wrap64
  omega
theorem rd_nat (l : List Int) (i : Nat) (h : i < l.length) : rd l (i : Int) = l[i] := by
  unfold rd
  rw [List.getD_eq_getElem?_getD, show ((i : Int).toNat) = i by omega, List.getElem?_eq_getElem h]
  rfl
theorem next64 {i : Nat} (h : i ≤ 4611686018427387904) : wrap64 ((i : Int) + 1) = ((i + 1 : Nat) : Int) := by
  rw [w64 (by omega) (by omega)]
  omega

def U8 (c : List Int) : Prop := ∀ x ∈ c, 0 ≤ x ∧ x ≤ 255
theorem u8_of {c : List Int} (h : ∀ x ∈ c, (Lit.int .u8 x).wf = true) : U8 c := fun x hx => by
  have := h x hx
  simp [Lit.wf, IntKind.min, IntKind.max, IntKind.signed, IntKind.bits] at this
  omega
theorem u64_range (x : Int) : 0 ≤ IntKind.u64.wrap x ∧ IntKind.u64.wrap x < 18446744073709551616 := by
  rw [show IntKind.u64.wrap x = x % 18446744073709551616 by simp [IntKind.wrap, IntKind.bits, IntKind.signed]]
  omega
theorem and255 {x : Int} (h0 : 0 ≤ x) (h1 : x < 18446744073709551616) : 0 ≤ Go.bits .and .u64 x 255 ∧ Go.bits .and .u64 x 255 ≤ 255 := by
  obtain ⟨n, rfl⟩ : ∃ n : Nat, x = n := ⟨x.toNat, by omega⟩
  have e : Go.bits .and .u64 (n : Int) 255 = ((n &&& 255 : Nat) : Int) := bits_and_u64_nat n 255 (by omega) (by omega)
  have : n &&& 255 ≤ 255 := Nat.and_le_right
  rw [e]
  omega
theorem next_ok {c : List Int} (hc : U8 c) {p : Int} (s : Int) (h0 : 0 ≤ p) (h1 : p ≤ 1000000000000) : ∃ b s', spec_l1Cur_next.f c p s = some (b, p + 1, s') ∧ 0 ≤ b ∧ b ≤ 255 := by
  unfold spec_l1Cur_next.f
  rw [w64 (x := p + 1) (by omega) (by omega)]
  by_cases h : p < (c.length : Int)
  · have hb : 0 ≤ rd c p ∧ rd c p ≤ 255 := by
      obtain ⟨i, rfl⟩ : ∃ i : Nat, p = i := ⟨p.toNat, by omega⟩
      rw [rd_nat c i (by omega)]
      exact hc _ (List.getElem_mem _)
    rw [if_pos h, if_pos h0, if_pos (by omega), w64 (x := rd c p) (by omega) (by omega)]
    exact ⟨_, _, rfl, hb.1, hb.2⟩
  · rw [if_neg h, if_neg (by omega)]
    have hr := u64_range (IntKind.u64.wrap (IntKind.u64.wrap (s * 6364136223846793005) + 0) + 1442695040888963407)
    have hb := and255 (x := IntKind.u64.wrap (IntKind.u64.wrap (IntKind.u64.wrap (s * 6364136223846793005) + 0) + 1442695040888963407) / 1099511627776) (by omega) (by omega)
    rw [w64 (x := Go.bits .and .u64 _ 255) (by omega) (by omega)]
    exact ⟨_, _, rfl, hb.1, hb.2⟩
theorem pick_ok {c : List Int} (hc : U8 c) {p : Int} (s : Int) (n : Int) (h0 : 0 ≤ p) (h1 : p ≤ 999999999000) : ∃ r p' s', spec_l1Cur_pick.f c p s n = some (r, p', s') ∧ p ≤ p' ∧ p' ≤ p + 2 ∧ 0 ≤ r ∧ (1 ≤ n → r < n) ∧ (n ≤ 1 → r = 0) := by
  unfold spec_l1Cur_pick.f
  by_cases h : n ≤ 1
  · rw [if_pos h]
    exact ⟨0, p, s, rfl, by omega, by omega, by omega, by omega, by omega⟩
  · rw [if_neg h]
    obtain ⟨b, s1, e1, b0, b1⟩ := next_ok hc s h0 (by omega)
    rw [e1]
    simp only [Option.bind_some]
    have ht : ∀ x : Int, 0 ≤ x → 0 ≤ Int.tmod x n ∧ Int.tmod x n < n := fun x hx => by
      rw [Int.tmod_eq_emod_of_nonneg hx]
      exact ⟨Int.emod_nonneg _ (by omega), Int.emod_lt_of_pos _ (by omega)⟩
    by_cases h2 : n > 200
    · rw [if_pos h2]
      obtain ⟨d, s2, e2, d0, d1⟩ := next_ok hc s1 (p := p + 1) (by omega) (by omega)
      rw [e2]
      simp only [Option.bind_some]
      rw [if_neg (by omega), w64 (x := b * 256) (by omega) (by omega), w64 (by omega) (by omega)]
      obtain ⟨a1, a2⟩ := ht (b * 256 + d) (by omega)
      exact ⟨_, _, _, rfl, by omega, by omega, a1, fun _ => a2, by omega⟩
    · rw [if_neg h2, if_neg (by omega)]
      obtain ⟨a1, a2⟩ := ht b b0
      exact ⟨_, _, _, rfl, by omega, by omega, a1, fun _ => a2, by omega⟩
theorem among_ok {c : List Int} (hc : U8 c) {p : Int} (s : Int) (l : List Int) (hl : 0 < l.length) (h0 : 0 ≤ p) (h1 : p ≤ 999999999000) : ∃ r p' s', spec_l1Cur_among.f c p s l = some (r, p', s') ∧ p ≤ p' ∧ p' ≤ p + 2 ∧ r ∈ l := by
  unfold spec_l1Cur_among.f
  obtain ⟨r, p', s', e, a, b, r0, r1, _⟩ := pick_ok hc s (l.length : Int) h0 h1
  have hr := r1 (by omega)
  rw [e]
  simp only [Option.bind_some]
  rw [if_pos r0, if_pos hr]
  obtain ⟨i, rfl⟩ : ∃ i : Nat, r = i := ⟨r.toNat, by omega⟩
  rw [rd_nat l i (by omega)]
  exact ⟨_, _, _, rfl, a, b, List.getElem_mem _⟩
theorem one_ok {c : List Int} (hc : U8 c) {p : Int} (s : Int) (n : Int) (h0 : 0 ≤ p) (h1 : p ≤ 999999999000) : ∃ r p' s', spec_l1Cur_one.f c p s n = some (r, p', s') ∧ p ≤ p' ∧ p' ≤ p + 2 := by
  unfold spec_l1Cur_one.f
  obtain ⟨r, p', s', e, a, b, _, _, _⟩ := pick_ok hc s n h0 h1
  rw [e]
  exact ⟨_, _, _, rfl, a, b⟩

theorem drop_at (l : List Int) (i : Nat) (h : i < l.length) : l.drop i = l[i] :: l.drop (i + 1) := List.drop_eq_getElem_cons h
theorem has_l (l : List Int) (x : Int) (hl : l.length ≤ 1099511627776) : ∀ (d i k : Nat), i + d = l.length → d < k → spec_l1Has.l0 k x l (l.length : Int) (i : Int) = some ((l.drop i).any (· == x))
  | 0, i, k, h1, hk => by
    obtain ⟨k, rfl⟩ : ∃ m, k = m + 1 := ⟨k - 1, by omega⟩
    simp only [spec_l1Has.l0]
    rw [if_neg (by omega), List.drop_of_length_le (by omega)]
    rfl
  | d + 1, i, k, h1, hk => by
    obtain ⟨k, rfl⟩ : ∃ m, k = m + 1 := ⟨k - 1, by omega⟩
    simp only [spec_l1Has.l0]
    rw [if_pos (by omega), if_pos (by omega), if_pos (by omega), rd_nat l i (by omega), next64 (by omega), drop_at l i (by omega)]
    by_cases e : l[i] = x
    · rw [if_pos e]
      rw [List.any_cons, show (l[i] == x) = true by simpa using e, Bool.true_or]
    · rw [if_neg e, has_l l x hl d (i + 1) k (by omega) (by omega), List.any_cons, show (l[i] == x) = false by simpa using e, Bool.false_or]
theorem has_val (l : List Int) (x : Int) (hl : l.length ≤ 1099511627776) (k : Nat) (hk : l.length < k) : spec_l1Has.f k l x = some (l.any (· == x)) := by
  unfold spec_l1Has.f
  have := has_l l x hl l.length 0 k (by omega) hk
  simpa using this

theorem specIn_val (n a b : Int) : spec_l1In.f n a b = some (decide (a ≤ n) && decide (n ≤ b)) := by
  unfold spec_l1In.f
  by_cases h : n ≥ a
  · rw [if_pos h]
    simp [h]
  · rw [if_neg h]
    simp [h]
theorem neg64 {n : Int} (h0 : -4611686018427387904 ≤ n) (h1 : n ≤ 4611686018427387904) : wrap64 (-n) = -n := w64 (by omega) (by omega)
theorem vab_small {n : Int} (h0 : -12 ≤ n) (h1 : n ≤ 12) : vab n = if n < -n then -n else n := by
  unfold vab
  rw [neg64 (by omega) (by omega)]
theorem vab_eq {n m : Int} (h0 : -12 ≤ n) (h1 : n ≤ 12) (h2 : -12 ≤ m) (h3 : m ≤ 12) : (vab n == vab m) = ((n == m) || (n == -m)) := by
  rw [vab_small h0 h1, vab_small h2 h3, Bool.eq_iff_iff]
  simp only [beq_iff_eq, Bool.or_eq_true]
  split <;> split <;> omega
theorem litB_small {n v : Int} (h0 : 0 ≤ v) (h1 : v ≤ 12) (h : litB n v = true) : n ≠ 0 ∧ -v ≤ n ∧ n ≤ v := by
  unfold litB at h
  rw [neg64 (by omega) (by omega)] at h
  simpa [Bool.and_eq_true] using h
theorem any_vab (l : List Int) (m : Int) (h2 : -12 ≤ m) (h3 : m ≤ 12) (hl : ∀ x ∈ l, -12 ≤ x ∧ x ≤ 12) : (l.any fun k => vab k == vab m) = (l.any (· == m) || l.any (· == -m)) := by
  induction l with
  | nil => rfl
  | cons a l ih =>
    have ha := hl a List.mem_cons_self
    rw [List.any_cons, List.any_cons, List.any_cons, ih (fun x hx => hl x (List.mem_cons_of_mem _ hx)), vab_eq ha.1 ha.2 h2 h3]
    cases (a == m) <;> cases (a == -m) <;> cases l.any (· == m) <;> simp

theorem any_flip (l : List Int) (a : Int) : (l.any fun y => a == y) = l.any (· == a) := by
  congr 1
  funext y
  rw [Bool.eq_iff_iff]
  simp only [beq_iff_eq]
  exact eq_comm

def cleanS : List Int → List Int → List Int × Bool
  | acc, [] => (acc, true)
  | acc, n :: r => if (!litB n 12 || acc.any (· == wrap64 (-n))) = true then ([], false) else if acc.any (· == n) = true then cleanS acc r else cleanS (acc ++ [n]) r
theorem specClean_l (l : List Int) (hl : l.length ≤ 1000) : ∀ (d i k : Nat) (acc : List Int), i + d = l.length → acc.length ≤ i → 2 * d + 2000 ≤ k → spec_CleanClause.l0 k acc l (l.length : Int) (i : Int) = some (cleanS acc (l.drop i))
  | 0, i, k, acc, h1, h2, hk => by
    obtain ⟨k, rfl⟩ : ∃ m, k = m + 1 := ⟨k - 1, by omega⟩
    simp only [spec_CleanClause.l0]
    rw [if_neg (by omega), List.drop_of_length_le (by omega)]
    rfl
  | d + 1, i, k, acc, h1, h2, hk => by
    obtain ⟨k, rfl⟩ : ∃ m, k = m + 2 := ⟨k - 2, by omega⟩
    have hil : i < l.length := by omega
    simp only [spec_CleanClause.l0, spec_CleanClause.j1]
    rw [if_pos (by omega), if_pos (by omega), if_pos (by omega), rd_nat l i hil, next64 (by omega), drop_at l i hil]
    have hw : litB l[i] 12 = (decide (l[i] ≠ 0) && (decide (-12 ≤ l[i]) && decide (l[i] ≤ 12))) := by
      unfold litB
      rw [neg64 (n := 12) (by omega) (by omega)]
    unfold cleanS
    by_cases e0 : l[i] = 0
    · rw [if_pos e0, hw]
      simp [e0]
    · rw [if_neg e0, specIn_val]
      simp only [Option.bind_some]
      have hb : litB l[i] 12 = (decide (-12 ≤ l[i]) && decide (l[i] ≤ 12)) := by rw [hw]; simp [e0]
      rw [← hb]
      cases litB l[i] 12 with
      | false => simp
      | true =>
        first | rw [if_pos rfl] | rw [if_true]
        rw [has_val acc _ (by omega) _ (by omega)]
        simp only [Option.bind_some, Bool.not_true, Bool.false_or]
        cases acc.any (· == wrap64 (-l[i])) with
        | true => simp
        | false =>
          rw [if_neg Bool.false_ne_true, if_neg Bool.false_ne_true, has_val acc _ (by omega) _ (by omega)]
          simp only [Option.bind_some]
          cases acc.any (· == l[i]) with
          | true =>
            simp only [if_true]
            exact specClean_l l hl d (i + 1) k acc (by omega) (by omega) (by omega)
          | false =>
            rw [if_neg Bool.false_ne_true, if_neg Bool.false_ne_true, if_pos (by omega)]
            exact specClean_l l hl d (i + 1) k _ (by omega) (by simp; omega) (by omega)
theorem cleanClause_spec (l : List Int) (k : Nat) (hk : 3000000 ≤ k) : spec_CleanClause.f k l = some (if (l.length : Int) > 40 then ([], false) else cleanS [] l) := by
  unfold spec_CleanClause.f
  by_cases h : (l.length : Int) > 40
  · rw [if_pos h, if_pos h]
  · rw [if_neg h, if_neg h]
    have := specClean_l l (by omega) l.length 0 k [] (by omega) (by simp) (by omega)
    simpa using this

theorem cleanS_length : ∀ (l acc : List Int), (cleanS acc l).1.length ≤ acc.length + l.length
  | [], acc => by simp [cleanS]
  | n :: r, acc => by
    unfold cleanS
    split
    · simp
    · split
      · have := cleanS_length r acc
        simp
        omega
      · have := cleanS_length r (acc ++ [n])
        simp at this
        simp
        omega
theorem drawClean_gen (l : List Int) (k : Nat) (hk : 3000000 ≤ k) : ∃ r b, spec_CleanClause.f k l = some (r, b) ∧ r.length ≤ l.length := by
  rw [cleanClause_spec l k hk]
  by_cases h : (l.length : Int) > 40
  · rw [if_pos h]
    exact ⟨_, _, rfl, by simp⟩
  · rw [if_neg h]
    have := cleanS_length l []
    exact ⟨_, _, rfl, by simpa using this⟩
theorem drawClean_ok (l : List Int) (_hl : l.length ≤ 40) (k : Nat) (hk : 3000000 ≤ k) : ∃ r b, spec_CleanClause.f k l = some (r, b) ∧ r.length ≤ l.length := drawClean_gen l k hk
theorem lit_ok {c : List Int} (hc : U8 c) {p : Int} (s n : Int) (h0 : 0 ≤ p) (h1 : p ≤ 999999998000) : ∃ r p' s', spec_l1Cur_lit.f c p s n = some (r, p', s') ∧ p ≤ p' ∧ p' ≤ p + 4 := by
  unfold spec_l1Cur_lit.f
  obtain ⟨r1, p1, s1, e1, a1, b1, c1, _, _⟩ := pick_ok hc s n h0 (by omega)
  obtain ⟨b, p2, s2, e2, a2, b2⟩ := one_ok hc s1 2 (p := p1) (by omega) (by omega)
  rw [e1]
  simp only [Option.bind_some]
  rw [e2]
  simp only [Option.bind_some]
  cases b with
  | true =>
    rw [if_pos rfl]
    exact ⟨_, _, _, rfl, by omega, by omega⟩
  | false =>
    rw [if_neg Bool.false_ne_true]
    exact ⟨_, _, _, rfl, by omega, by omega⟩
/-- What the drawing of clauses leaves. -/
def ClOk (l : List (List Int)) (n m : Nat) : Prop := l.length ≤ n ∧ ∀ x ∈ l, x.length ≤ m
theorem clOk_mono {l : List (List Int)} {n m n' m' : Nat} (h : ClOk l n m) (hn : n ≤ n') (hm : m ≤ m') : ClOk l n' m' := ⟨Nat.le_trans h.1 hn, fun x hx => Nat.le_trans (h.2 x hx) hm⟩
theorem clauses_l0 {c : List Int} (hc : U8 c) (v : Int) : ∀ (n : Nat) (l : List (List Int)) (k : Nat) (p s : Int), l.length + n ≤ 14 → (∀ x ∈ l, x.length ≤ 50) → 0 ≤ p → p + 20 * n ≤ 999999990000 → 3000100 + 10 * n ≤ k →
    ∃ l' p' s', spec_l1Cur_clauses.l0 k v l n c p s = some (v, l', p', s') ∧ p ≤ p' ∧ p' ≤ p + 20 * n + 10 ∧ ClOk l' 14 60
  | 0, l, k, p, s, hl, hr, h0, h1, hk => by
    obtain ⟨k, rfl⟩ : ∃ q, k = q + 1 := ⟨k - 1, by omega⟩
    simp only [spec_l1Cur_clauses.l0]
    rw [if_neg (by omega)]
    have hok : ClOk l 14 60 := ⟨by omega, fun x hx => by have := hr x hx; omega⟩
    by_cases h : (l.length : Int) > 0
    · rw [if_pos h]
      obtain ⟨b, p1, s1, e, a1, b1⟩ := one_ok hc s 30 h0 (by omega)
      rw [e]
      simp only [Option.bind_some]
      cases b with
      | false =>
        rw [if_neg Bool.false_ne_true]
        exact ⟨_, _, _, rfl, by omega, by omega, hok⟩
      | true =>
        rw [if_pos rfl, if_pos h]
        obtain ⟨r, p2, s2, e2, a2, b2, _⟩ := among_ok hc s1 [0, 13, 1] (p := p1) (by simp) (by omega) (by omega)
        rw [e2]
        simp only [Option.bind_some]
        have hx : (rd_L1 l 0).length ≤ 50 := by
          have hpos : 0 < l.length := by omega
          have : rd_L1 l 0 = l[0] := by
            unfold rd_L1
            rw [List.getD_eq_getElem?_getD, show ((0 : Int).toNat) = 0 from rfl, List.getElem?_eq_getElem hpos]
            rfl
          rw [this]
          exact hr _ (List.getElem_mem _)
        rw [if_pos (by omega)]
        refine ⟨_, _, _, rfl, by omega, by omega, by rw [List.length_set]; omega, fun x hx' => ?_⟩
        rcases List.mem_or_eq_of_mem_set hx' with hx' | hx'
        · have := hr x hx'
          omega
        · rw [hx', List.length_append, List.length_singleton]
          omega
    · rw [if_neg h]
      exact ⟨_, _, _, rfl, by omega, by omega, hok⟩
  | n + 1, l, k, p, s, hl, hr, h0, h1, hk => by
    have inner : ∀ (m : Nat) (acc : List Int) (k : Nat) (p s : Int), acc.length + m ≤ 3 → 0 ≤ p → p + 4 * m + 20 * n ≤ 999999990000 → 3000102 + 10 * n + m ≤ k →
        ∃ l' p' s', spec_l1Cur_clauses.l1 k v l ((n + 1 : Nat) : Int) acc m c p s = some (v, l', p', s') ∧ p ≤ p' ∧ p' ≤ p + 4 * m + 20 * n + 10 ∧ ClOk l' 14 60 := by
      intro m
      induction m with
      | zero =>
        intro acc k p s ha h0 h1 hk
        obtain ⟨k, rfl⟩ : ∃ q, k = q + 1 := ⟨k - 1, by omega⟩
        simp only [spec_l1Cur_clauses.l1]
        rw [if_neg (by omega)]
        obtain ⟨r, b, e, hrl⟩ := drawClean_ok acc (by omega) k (by omega)
        rw [e]
        simp only [Option.bind_some]
        rw [show wrap64 (((n + 1 : Nat) : Int) - 1) = (n : Int) by rw [w64 (by omega) (by omega)]; omega]
        cases b with
        | true =>
          rw [if_pos rfl, if_pos (by omega)]
          obtain ⟨l', p', s', e', a', b', c'⟩ := clauses_l0 hc v n (l ++ [r]) k p s (by simp; omega) (fun x hx => by
            rcases List.mem_append.1 hx with hx | hx
            · exact hr x hx
            · have : x = r := by simpa using hx
              subst this
              omega) h0 (by omega) (by omega)
          exact ⟨l', p', s', e', by omega, by omega, c'⟩
        | false =>
          rw [if_neg Bool.false_ne_true]
          obtain ⟨l', p', s', e', a', b', c'⟩ := clauses_l0 hc v n l k p s (by omega) hr h0 (by omega) (by omega)
          exact ⟨l', p', s', e', by omega, by omega, c'⟩
      | succ m ih =>
        intro acc k p s ha h0 h1 hk
        obtain ⟨k, rfl⟩ : ∃ q, k = q + 1 := ⟨k - 1, by omega⟩
        simp only [spec_l1Cur_clauses.l1]
        rw [if_pos (by omega)]
        obtain ⟨r, p1, s1, e, a1, b1⟩ := lit_ok hc s v h0 (by omega)
        rw [e]
        simp only [Option.bind_some]
        rw [if_pos (by omega), show wrap64 (((m + 1 : Nat) : Int) - 1) = (m : Int) by rw [w64 (by omega) (by omega)]; omega]
        obtain ⟨l', p', s', e', a', b', c'⟩ := ih (acc ++ [r]) k p1 s1 (by simp; omega) (by omega) (by omega) (by omega)
        exact ⟨l', p', s', e', by omega, by omega, c'⟩
    obtain ⟨k, rfl⟩ : ∃ q, k = q + 1 := ⟨k - 1, by omega⟩
    simp only [spec_l1Cur_clauses.l0]
    rw [if_pos (by omega)]
    obtain ⟨r, p1, s1, e, a1, b1, r0, r1, _⟩ := pick_ok hc s 3 h0 (by omega)
    replace r1 := r1 (by omega)
    rw [e]
    simp only [Option.bind_some]
    obtain ⟨m, hm⟩ : ∃ m : Nat, 1 + r = m := ⟨(1 + r).toNat, by omega⟩
    rw [w64 (x := 1 + r) (by omega) (by omega), hm]
    obtain ⟨l', p', s', e', a', b', c'⟩ := inner m [] k p1 s1 (by simp; omega) (by omega) (by omega) (by omega)
    exact ⟨l', p', s', e', by omega, by omega, c'⟩
theorem clauses_ok {c : List Int} (hc : U8 c) {p : Int} (s : Int) (h0 : 0 ≤ p) (h1 : p ≤ 999999980000) (k : Nat) (hk : 3000300 ≤ k) : ∃ v l p' s', spec_l1Cur_clauses.f k c p s = some (v, l, p', s') ∧ p ≤ p' ∧ p' ≤ p + 400 ∧ ClOk l 14 60 ∧ 0 ≤ v ∧ v ≤ 13 := by
  have hj : ∀ (v p s : Int), 0 ≤ v → v ≤ 13 → 0 ≤ p → p ≤ 999999980500 → ∃ l p' s', spec_l1Cur_clauses.j0 k v c p s = some (v, l, p', s') ∧ p ≤ p' ∧ p' ≤ p + 300 ∧ ClOk l 14 60 := by
    intro v p s hv0 hv1 h0 h1
    obtain ⟨k, rfl⟩ : ∃ q, k = q + 2 := ⟨k - 2, by omega⟩
    simp only [spec_l1Cur_clauses.j0]
    obtain ⟨r, p1, s1, e, a1, b1, r0, r1, _⟩ := pick_ok hc s 14 h0 (by omega)
    replace r1 := r1 (by omega)
    rw [e]
    simp only [Option.bind_some, spec_l1Cur_clauses.j1]
    by_cases hv : v = 0
    · rw [if_pos hv]
      obtain ⟨l', p', s', e', a', b', c'⟩ := clauses_l0 hc v 0 [] k p1 s1 (by simp) (by simp) (by omega) (by omega) (by omega)
      exact ⟨l', p', s', e', by omega, by omega, c'⟩
    · rw [if_neg hv]
      obtain ⟨n, rfl⟩ : ∃ n : Nat, r = n := ⟨r.toNat, by omega⟩
      obtain ⟨l', p', s', e', a', b', c'⟩ := clauses_l0 hc v n [] k p1 s1 (by simp; omega) (by simp) (by omega) (by omega) (by omega)
      exact ⟨l', p', s', e', by omega, by omega, c'⟩
  unfold spec_l1Cur_clauses.f
  obtain ⟨r, p1, s1, e, a1, b1, r0, r1, _⟩ := pick_ok hc s 6 h0 (by omega)
  replace r1 := r1 (by omega)
  obtain ⟨b, p2, s2, e2, a2, b2⟩ := one_ok hc s1 30 (p := p1) (by omega) (by omega)
  rw [e]
  simp only [Option.bind_some]
  rw [e2]
  simp only [Option.bind_some]
  cases b with
  | true =>
    rw [if_pos rfl]
    obtain ⟨v, p3, s3, e3, a3, b3, hm⟩ := among_ok hc s2 [0, 10, 13] (p := p2) (by simp) (by omega) (by omega)
    rw [e3]
    simp only [Option.bind_some]
    have hv : 0 ≤ v ∧ v ≤ 13 := by
      simp only [List.mem_cons, List.not_mem_nil, or_false] at hm
      omega
    obtain ⟨l, p', s', e', a', b', c'⟩ := hj v p3 s3 hv.1 hv.2 (by omega) (by omega)
    exact ⟨v, l, p', s', e', by omega, by omega, c', hv.1, hv.2⟩
  | false =>
    rw [if_neg Bool.false_ne_true, w64 (x := 1 + r) (by omega) (by omega)]
    obtain ⟨l, p', s', e', a', b', c'⟩ := hj (1 + r) p2 s2 (by omega) (by omega) (by omega) (by omega)
    exact ⟨1 + r, l, p', s', e', by omega, by omega, c', by omega, by omega⟩
theorem clOk_bounds {l : List (List Int)} {n m : Nat} (h : ClOk l n m) (hn : n ≤ 1048576) (hm : m ≤ 1048576) : l.length ≤ 1048576 ∧ ∀ x ∈ l, x.length ≤ 1048576 := ⟨Nat.le_trans h.1 hn, fun x hx => Nat.le_trans (h.2 x hx) hm⟩

theorem hard_l0 {c : List Int} (hc : U8 c) (v : Int) : ∀ (n : Nat) (l : List (List Int)) (k : Nat) (p s : Int), l.length + n ≤ 60 → (∀ x ∈ l, x.length ≤ 60) → 0 ≤ p → p + 10 * n ≤ 999999985000 → 3000100 + n ≤ k →
    ∃ l' p' s', spec_l1Cur_hard.l0 k v l n c p s = some (v, l', p', s') ∧ p ≤ p' ∧ p' ≤ p + 10 * n ∧ ClOk l' 60 60
  | 0, l, k, p, s, hl, hr, h0, h1, hk => by
    obtain ⟨k, rfl⟩ : ∃ q, k = q + 1 := ⟨k - 1, by omega⟩
    simp only [spec_l1Cur_hard.l0]
    rw [if_neg (by omega)]
    exact ⟨_, _, _, rfl, by omega, by omega, by omega, hr⟩
  | n + 1, l, k, p, s, hl, hr, h0, h1, hk => by
    obtain ⟨k, rfl⟩ : ∃ q, k = q + 1 := ⟨k - 1, by omega⟩
    simp only [spec_l1Cur_hard.l0]
    rw [if_pos (by omega)]
    obtain ⟨r1, p1, s1, e1, a1, b1⟩ := lit_ok hc s v h0 (by omega)
    obtain ⟨r2, p2, s2, e2, a2, b2⟩ := lit_ok hc s1 v (p := p1) (by omega) (by omega)
    obtain ⟨r, b, e3, hrl⟩ := drawClean_ok [r1, r2] (by simp) k (by omega)
    simp only [List.length_cons, List.length_nil] at hrl
    rw [e1]
    simp only [Option.bind_some]
    rw [e2]
    simp only [Option.bind_some]
    rw [e3]
    simp only [Option.bind_some]
    rw [show wrap64 (((n + 1 : Nat) : Int) - 1) = (n : Int) by rw [w64 (by omega) (by omega)]; omega]
    obtain ⟨l1, p3, s3, e4, a4, b4, c4⟩ := hard_l0 hc v n l k p2 s2 (by omega) hr (by omega) (by omega) (by omega)
    obtain ⟨l2, p5, s5, e5, a5, b5, c5⟩ := hard_l0 hc v n (l ++ [r]) k p2 s2 (by simp; omega) (fun x hx => by
      rcases List.mem_append.1 hx with hx | hx
      · exact hr x hx
      · have : x = r := by simpa using hx
        subst this
        omega) (by omega) (by omega) (by omega)
    cases b with
    | true =>
      rw [if_pos rfl, if_pos (by omega), if_pos (by omega)]
      exact ⟨l2, p5, s5, e5, by omega, by omega, c5⟩
    | false =>
      rw [if_neg Bool.false_ne_true]
      exact ⟨l1, p3, s3, e4, by omega, by omega, c4⟩
theorem hard_ok {c : List Int} (hc : U8 c) {p : Int} (s : Int) (h0 : 0 ≤ p) (h1 : p ≤ 999999970000) (k : Nat) (hk : 3000400 ≤ k) : ∃ v l p' s', spec_l1Cur_hard.f k c p s = some (v, l, p', s') ∧ p ≤ p' ∧ p' ≤ p + 1000 ∧ ClOk l 60 60 ∧ 0 ≤ v ∧ v ≤ 13 := by
  have hj : ∀ (v : Int) (l : List (List Int)) (b : Bool) (p s : Int), ClOk l 14 60 → 0 ≤ p → p ≤ 999999980000 → ∃ l' p' s', spec_l1Cur_hard.j0 k v l b c p s = some (v, l', p', s') ∧ p ≤ p' ∧ p' ≤ p + 300 ∧ ClOk l' 60 60 := by
    intro v l b p s hl h0 h1
    obtain ⟨k, rfl⟩ : ∃ q, k = q + 1 := ⟨k - 1, by omega⟩
    simp only [spec_l1Cur_hard.j0]
    have hll := hl.1
    cases b with
    | true =>
      rw [if_pos rfl]
      exact ⟨_, _, _, rfl, by omega, by omega, clOk_mono hl (by omega) (by omega)⟩
    | false =>
      rw [if_neg Bool.false_ne_true]
      obtain ⟨r, p1, s1, e, a1, b1, r0, r1, _⟩ := pick_ok hc s 10 h0 (by omega)
      replace r1 := r1 (by omega)
      rw [e]
      simp only [Option.bind_some]
      obtain ⟨n, hn⟩ : ∃ n : Nat, 12 + r = n := ⟨(12 + r).toNat, by omega⟩
      rw [w64 (x := 12 + r) (by omega) (by omega), hn]
      obtain ⟨l2, p5, s5, e5, a5, b5, c5⟩ := hard_l0 hc v n l k p1 s1 (by omega) hl.2 (by omega) (by omega) (by omega)
      exact ⟨l2, p5, s5, e5, by omega, by omega, c5⟩
  unfold spec_l1Cur_hard.f
  obtain ⟨v, l, p1, s1, e, a1, b1, hl, v0, v1⟩ := clauses_ok hc s h0 (by omega) k (by omega)
  rw [e]
  simp only [Option.bind_some]
  by_cases h2 : v < 2
  · rw [if_pos h2]
    obtain ⟨l2, p5, s5, e5, a5, b5, c5⟩ := hj v l true p1 s1 hl (by omega) (by omega)
    exact ⟨v, l2, p5, s5, e5, by omega, by omega, c5, v0, v1⟩
  · rw [if_neg h2]
    by_cases h6 : v > 6
    · rw [if_pos h6]
      obtain ⟨l2, p5, s5, e5, a5, b5, c5⟩ := hj v l true p1 s1 hl (by omega) (by omega)
      exact ⟨v, l2, p5, s5, e5, by omega, by omega, c5, v0, v1⟩
    · rw [if_neg h6]
      obtain ⟨b, p2, s2, e2, a2, b2⟩ := one_ok hc s1 3 (p := p1) (by omega) (by omega)
      rw [e2]
      simp only [Option.bind_some]
      obtain ⟨l2, p5, s5, e5, a5, b5, c5⟩ := hj v l b p2 s2 hl (by omega) (by omega)
      exact ⟨v, l2, p5, s5, e5, by omega, by omega, c5, v0, v1⟩


def hasB (l : List Int) (n : Int) : Bool := l.any (· == n)

theorem meets_cons (x : Int) (r out : List Int) : meetsB (x :: r) out = (hasB out x || meetsB r out) := by
  unfold meetsB hasB
  rw [List.any_cons, any_flip]
theorem without_cons (x : Int) (r out : List Int) : withoutL (x :: r) out = if hasB out (wrap64 (-x)) = true then withoutL r out else x :: withoutL r out := by
  unfold withoutL hasB
  rw [List.filter_cons, any_flip]
  cases out.any (· == wrap64 (-x)) <;> simp

theorem clause_l (v : Int) (hv0 : 0 ≤ v) (hv1 : v ≤ 12) (l : List Int) (hl : l.length ≤ 1099511627776) : ∀ (d i k : Nat), i + d = l.length → (∀ x ∈ l.take i, -12 ≤ x ∧ x ≤ 12) → d + l.length + 1 < k →
    spec_l4Clause.l0 k v l l (l.length : Int) (i : Int) = some (clauseFrom v (l.take i) (l.drop i) && decide (l.length ≤ 12))
  | 0, i, k, h1, hs, hk => by
    obtain ⟨k, rfl⟩ : ∃ m, k = m + 1 := ⟨k - 1, by omega⟩
    simp only [spec_l4Clause.l0]
    rw [if_neg (by omega), List.drop_of_length_le (by omega)]
    simp only [clauseFrom, Bool.true_and]
    congr 2
    exact propext (by omega)
  | d + 1, i, k, h1, hs, hk => by
    obtain ⟨k, rfl⟩ : ∃ m, k = m + 1 := ⟨k - 1, by omega⟩
    have hil : i < l.length := by omega
    have ht : (l.take i).length = i := by rw [List.length_take]; omega
    simp only [spec_l4Clause.l0]
    rw [if_pos (by omega), if_pos (by omega), if_pos (by omega), rd_nat l i hil, next64 (by omega), drop_at l i hil, show ((i : Int).toNat) = i by omega, if_pos (show (i : Int) ≤ (l.length : Int) by omega)]
    simp only [clauseFrom]
    by_cases e0 : l[i] = 0
    · rw [if_pos e0]
      have : litB l[i] v = false := by unfold litB; simp [e0]
      rw [this]
      rfl
    · rw [if_neg e0, specIn_val]
      simp only [Option.bind_some]
      have hlit : litB l[i] v = (decide (wrap64 (-v) ≤ l[i]) && decide (l[i] ≤ v)) := by unfold litB; simp [e0]
      rw [← hlit]
      cases hb : litB l[i] v with
      | false => rfl
      | true =>
        obtain ⟨_, h4, h5⟩ := litB_small hv0 hv1 hb
        rw [if_pos rfl, has_val _ _ (by omega) _ (by omega), neg64 (by omega) (by omega), has_val _ _ (by omega) _ (by omega), any_vab _ _ (by omega) (by omega) hs]
        simp only [Option.bind_some]
        cases (l.take i).any (· == l[i]) with
        | true => rfl
        | false =>
          cases (l.take i).any (· == -l[i]) with
          | true => rfl
          | false =>
            have hst : l.take (i + 1) = l.take i ++ [l[i]] := List.take_succ_eq_append_getElem hil
            have := clause_l v hv0 hv1 l hl d (i + 1) k (by omega) (fun x hx => by
              rw [hst] at hx
              rcases List.mem_append.1 hx with hx | hx
              · exact hs x hx
              · rw [List.mem_singleton.1 hx]
                omega) (by omega)
            rw [hst] at this
            simp only [Bool.false_eq_true, if_false, Bool.or_false, Bool.not_false, Bool.true_and]
            exact this
theorem clause_val (v : Int) (hv0 : 0 ≤ v) (hv1 : v ≤ 12) (l : List Int) (hl : l.length ≤ 1048576) (k : Nat) (hk : 3000000 ≤ k) : spec_l4Clause.f k v l = some (isClauseB l v) := by
  unfold spec_l4Clause.f isClauseB
  have := clause_l v hv0 hv1 l (by omega) l.length 0 k (by omega) (by simp) (by omega)
  simpa using this

theorem rdL_nat (l : List (List Int)) (i : Nat) (h : i < l.length) : rd_L1 l (i : Int) = l[i] := by
  unfold rd_L1
  rw [List.getD_eq_getElem?_getD, show ((i : Int).toNat) = i by omega, List.getElem?_eq_getElem h]
  rfl

def goodB (v : Int) (l : List (List Int)) : Bool := (decide (0 ≤ v) && decide (v ≤ 12)) && (decide (l.length ≤ 60) && l.all fun x => isClauseB x v)
theorem good_l (v : Int) (hv0 : 0 ≤ v) (hv1 : v ≤ 12) (l : List (List Int)) (hl : l.length ≤ 1048576) (hi : ∀ x ∈ l, x.length ≤ 1048576) : ∀ (d i k : Nat), i + d = l.length → d + 3000001 ≤ k → spec_l4Good.l0 k v l (l.length : Int) (i : Int) = some ((l.drop i).all fun x => isClauseB x v)
  | 0, i, k, h1, hk => by
    obtain ⟨k, rfl⟩ : ∃ m, k = m + 1 := ⟨k - 1, by omega⟩
    simp only [spec_l4Good.l0]
    rw [if_neg (by omega), List.drop_of_length_le (by omega)]
    rfl
  | d + 1, i, k, h1, hk => by
    obtain ⟨k, rfl⟩ : ∃ m, k = m + 1 := ⟨k - 1, by omega⟩
    have hil : i < l.length := by omega
    simp only [spec_l4Good.l0]
    rw [if_pos (by omega), if_pos (by omega), if_pos (by omega), rdL_nat l i hil, next64 (by omega), clause_val v hv0 hv1 l[i] (hi _ (List.getElem_mem _)) k (by omega), List.drop_eq_getElem_cons hil, List.all_cons]
    simp only [Option.bind_some]
    cases isClauseB l[i] v with
    | false => rfl
    | true =>
      first | rw [if_pos rfl] | rw [if_true]
      rw [good_l v hv0 hv1 l hl hi d (i + 1) k (by omega) (by omega)]
      rfl
theorem specGood_val (v : Int) (l : List (List Int)) (hl : l.length ≤ 1048576) (hi : ∀ x ∈ l, x.length ≤ 1048576) (k : Nat) (hk : 5000000 ≤ k) : spec_GoodClauses.f k v l = some (goodB v l) := by
  obtain ⟨k, rfl⟩ : ∃ m, k = m + 1 := ⟨k - 1, by omega⟩
  unfold spec_GoodClauses.f spec_l4Good.f goodB
  rw [specIn_val]
  simp only [Option.bind_some, spec_l4Good.j0]
  by_cases hv : 0 ≤ v ∧ v ≤ 12
  · rw [show (decide (0 ≤ v) && decide (v ≤ 12)) = true by simp [hv.1, hv.2], if_pos rfl]
    by_cases h60 : l.length ≤ 60
    · have : decide ((l.length : Int) > 60) = false := decide_eq_false (by omega)
      rw [this, if_neg Bool.false_ne_true]
      have h := good_l v hv.1 hv.2 l hl hi l.length 0 k (by omega) (by omega)
      simp only [List.drop_zero] at h
      rw [show ((0 : Nat) : Int) = 0 from rfl] at h
      rw [h]
      simp [h60]
    · have : decide ((l.length : Int) > 60) = true := decide_eq_true (by omega)
      rw [this]
      first | rw [if_pos rfl] | rw [if_true]
      simp [h60]
  · have hd : (decide (0 ≤ v) && decide (v ≤ 12)) = false := by
      rw [Bool.and_eq_false_iff]
      rcases Int.lt_or_le v 0 with h | h
      · exact .inl (decide_eq_false (by omega))
      · exact .inr (decide_eq_false (by omega))
    rw [hd, if_neg Bool.false_ne_true]
    first | rw [if_pos rfl] | rw [if_true]
    rfl
theorem implIn_val (n a b : Int) : impl_in.f n a b = some (decide (a ≤ n) && decide (n ≤ b)) := by
  unfold impl_in.f
  by_cases h : n ≥ a
  · rw [if_pos h]
    simp [h]
  · rw [if_neg h]
    simp [h]
theorem implGood_val (v : Int) (l : List (List Int)) : impl_GoodClauses.f v l = some (goodB v l) := by
  unfold impl_GoodClauses.f impl_areClauses.f goodB
  rw [implIn_val]
  simp only [Option.bind_some]
  cases (decide (0 ≤ v) && decide (v ≤ 12)) with
  | false => rfl
  | true =>
    first | rw [if_pos rfl] | rw [if_true]
    by_cases h60 : l.length ≤ 60
    · rw [if_pos (by omega)]
      simp [h60, List.all_eq_not_any_not]
    · rw [if_neg (by omega)]
      simp [h60]
theorem goodB_facts {v : Int} {l : List (List Int)} (h : goodB v l = true) : 0 ≤ v ∧ v ≤ 12 ∧ l.length ≤ 60 ∧ ∀ x ∈ l, isClauseB x v = true := by
  unfold goodB at h
  simp only [Bool.and_eq_true, decide_eq_true_eq, List.all_eq_true] at h
  exact ⟨h.1.1, h.1.2, h.2.1, h.2.2⟩

theorem clause_lits (v : Int) : ∀ (l seen : List Int), clauseFrom v seen l = true → ∀ n ∈ l, litB n v = true
  | [], _, _, n, hn => by simp at hn
  | a :: r, seen, h, n, hn => by
    unfold clauseFrom at h
    simp only [Bool.and_eq_true] at h
    rcases List.mem_cons.1 hn with rfl | hn
    · exact h.1
    · exact clause_lits v r _ h.2.2 n hn
theorem isClause_facts {v : Int} {c : List Int} (h : isClauseB c v = true) : c.length ≤ 12 ∧ ∀ n ∈ c, litB n v = true := by
  unfold isClauseB at h
  simp only [Bool.and_eq_true, decide_eq_true_eq] at h
  exact ⟨h.2, clause_lits v c [] h.1⟩

theorem goodB_lits {v : Int} {l : List (List Int)} (h : goodB v l = true) : ∀ c ∈ l, c.length ≤ 12 ∧ ∀ n ∈ c, n ≠ 0 ∧ -v ≤ n ∧ n ≤ v := by
  obtain ⟨h0, h1, _, h2⟩ := goodB_facts h
  intro c hc
  obtain ⟨a, b⟩ := isClause_facts (h2 c hc)
  exact ⟨a, fun n hn => litB_small h0 h1 (b n hn)⟩

theorem filter_lt {α : Type} (p q : α → Bool) : ∀ (l : List α), (∀ a, q a = true → p a = true) → (∃ a ∈ l, p a = true ∧ q a = false) → (l.filter q).length < (l.filter p).length
  | [], _, ⟨a, ha, _⟩ => by simp at ha
  | b :: l, h, ⟨a, ha, hp, hq⟩ => by
    have hle : ∀ l : List α, (l.filter q).length ≤ (l.filter p).length := by
      intro l
      induction l with
      | nil => simp
      | cons c l ih =>
        cases hqc : q c with
        | true =>
          rw [List.filter_cons_of_pos hqc, List.filter_cons_of_pos (h c hqc)]
          simpa using ih
        | false =>
          rw [List.filter_cons_of_neg (by simp [hqc])]
          cases hpc : p c with
          | true =>
            rw [List.filter_cons_of_pos hpc]
            simp
            omega
          | false =>
            rw [List.filter_cons_of_neg (by simp [hpc])]
            exact ih
    rcases List.mem_cons.1 ha with rfl | ha
    · rw [List.filter_cons_of_neg (by simp [hq]), List.filter_cons_of_pos hp]
      have := hle l
      simp
      omega
    · have ih := filter_lt p q l h ⟨a, ha, hp, hq⟩
      cases hqb : q b with
      | true =>
        rw [List.filter_cons_of_pos hqb, List.filter_cons_of_pos (h b hqb)]
        simpa using ih
      | false =>
        rw [List.filter_cons_of_neg (by simp [hqb])]
        cases hpb : p b with
        | true =>
          rw [List.filter_cons_of_pos hpb]
          simp
          omega
        | false =>
          rw [List.filter_cons_of_neg (by simp [hpb])]
          exact ih
theorem hasB_app (l : List Int) (x n : Int) : hasB (l ++ [x]) n = (hasB l n || x == n) := by simp [hasB]
/-- The variables (less 1) of which no literal is there. -/
def freeV (out : List Int) : Nat := ((List.range 12).filter fun (i : Nat) => !(hasB out ((i : Int) + 1) || hasB out (-((i : Int) + 1)))).length
theorem freeV_lt (out : List Int) (x : Int) (h0 : x ≠ 0) (h1 : -12 ≤ x) (h2 : x ≤ 12) (h3 : hasB out x = false) (h4 : hasB out (-x) = false) : freeV (out ++ [x]) < freeV out := by
  unfold freeV
  refine filter_lt _ _ _ (fun i hi => ?_) ⟨x.natAbs - 1, by rw [List.mem_range]; omega, ?_, ?_⟩
  · simp only [hasB_app] at hi
    cases ha : hasB out ((i : Int) + 1) <;> cases hb : hasB out (-((i : Int) + 1)) <;> simp_all
  · rcases Int.lt_or_le x 0 with h | h
    · have e : ((x.natAbs - 1 : Nat) : Int) + 1 = -x := by omega
      rw [e, h4, Int.neg_neg, h3]
      rfl
    · have e : ((x.natAbs - 1 : Nat) : Int) + 1 = x := by omega
      rw [e, h3, h4]
      rfl
  · simp only [hasB_app]
    rcases Int.lt_or_le x 0 with h | h
    · have e : ((x.natAbs - 1 : Nat) : Int) + 1 = -x := by omega
      rw [e, Int.neg_neg]
      simp
    · have e : ((x.natAbs - 1 : Nat) : Int) + 1 = x := by omega
      rw [e]
      simp
theorem freeV_le (out : List Int) : freeV out ≤ 12 := by
  unfold freeV
  exact Nat.le_trans (List.length_filter_le _ _) (by simp)

def unitS (out : List Int) : Int → Int → List Int → Int × Bool
  | left, many, [] => if many = 0 then (0, true) else if many = 1 then (left, false) else (0, false)
  | left, many, x :: r => if hasB out x = true then (0, false) else if hasB out (wrap64 (-x)) = true then unitS out left many r else unitS out x (many + 1) r
def unitP (out c : List Int) : Int × Bool := if meetsB c out = true then (0, false) else match withoutL c out with | [] => (0, true) | [x] => (x, false) | _ => (0, false)
theorem unitS_val (out : List Int) : ∀ (r : List Int) (left many : Int), 0 ≤ many → unitS out left many r = if meetsB r out = true then (0, false) else
    if many + ((withoutL r out).length : Int) = 0 then (0, true) else if many + ((withoutL r out).length : Int) = 1 then ((withoutL r out).getLast?.getD left, false) else (0, false)
  | [], left, many, h => by
    unfold unitS
    simp [meetsB, withoutL]
  | x :: r, left, many, h => by
    unfold unitS
    rw [meets_cons, without_cons]
    cases hasB out x with
    | true => simp
    | false =>
      rw [if_neg Bool.false_ne_true, Bool.false_or]
      cases hasB out (wrap64 (-x)) with
      | true =>
        simp only [if_true]
        exact unitS_val out r left many h
      | false =>
        rw [if_neg Bool.false_ne_true, if_neg Bool.false_ne_true, unitS_val out r x (many + 1) (by omega)]
        have e1 : ((x :: withoutL r out).length : Int) = ((withoutL r out).length : Int) + 1 := by simp
        rw [e1, show many + 1 + ((withoutL r out).length : Int) = many + (((withoutL r out).length : Int) + 1) by omega]
        cases hL : withoutL r out with
        | nil => simp
        | cons y t => simp [List.getLast?_cons]
theorem unitS_P (out c : List Int) : unitS out 0 0 c = unitP out c := by
  rw [unitS_val out c 0 0 (by omega)]
  unfold unitP
  cases meetsB c out with
  | true => rfl
  | false =>
    rw [if_neg Bool.false_ne_true, if_neg Bool.false_ne_true]
    match h : withoutL c out with
    | [] => simp
    | [x] => simp
    | x :: y :: t =>
      rw [if_neg (by simp; omega), if_neg (by simp; omega)]
theorem specUnit_l (out c : List Int) (ho : out.length ≤ 100000) (hc : c.length ≤ 1000) : ∀ (d j k : Nat) (left : Int) (many : Nat), j + d = c.length → many ≤ j → d + 200000 ≤ k → spec_l4Unit.l0 k out left (many : Int) c (c.length : Int) (j : Int) = some (unitS out left (many : Int) (c.drop j))
  | 0, j, k, left, many, h1, h2, hk => by
    obtain ⟨k, rfl⟩ : ∃ m, k = m + 1 := ⟨k - 1, by omega⟩
    simp only [spec_l4Unit.l0]
    rw [if_neg (by omega), List.drop_of_length_le (by omega)]
    unfold unitS
    split
    · rfl
    · split
      · rfl
      · rfl
  | d + 1, j, k, left, many, h1, h2, hk => by
    obtain ⟨k, rfl⟩ : ∃ m, k = m + 1 := ⟨k - 1, by omega⟩
    have hj : j < c.length := by omega
    simp only [spec_l4Unit.l0]
    rw [if_pos (by omega), if_pos (by omega), if_pos (by omega), rd_nat c j hj, next64 (by omega), has_val out _ (by omega) k (by omega), has_val out _ (by omega) k (by omega), drop_at c j hj]
    unfold unitS hasB
    simp only [Option.bind_some]
    cases out.any (· == c[j]) with
    | true => rfl
    | false =>
      rw [if_neg Bool.false_ne_true, if_neg Bool.false_ne_true]
      cases out.any (· == wrap64 (-c[j])) with
      | true =>
        simp only [if_true]
        exact specUnit_l out c ho hc d (j + 1) k left many (by omega) (by omega) (by omega)
      | false =>
        rw [if_neg Bool.false_ne_true, if_neg Bool.false_ne_true, next64 (by omega)]
        exact specUnit_l out c ho hc d (j + 1) k c[j] (many + 1) (by omega) (by omega) (by omega)
theorem specUnit_val (out c : List Int) (ho : out.length ≤ 100000) (hc : c.length ≤ 1000) (k : Nat) (hk : 300000 ≤ k) : spec_l4Unit.f k c out = some (unitP out c) := by
  unfold spec_l4Unit.f
  have := specUnit_l out c ho hc c.length 0 k 0 0 (by omega) (by omega) (by omega)
  rw [show ((0 : Nat) : Int) = 0 from rfl, List.drop_zero, unitS_P] at this
  exact this
/-- What one run through the clauses finds: nothing, a clause that is falsified, a literal. -/
def scanC (out : List Int) : List (List Int) → Option (Option Int)
  | [] => none
  | c :: r => if (unitP out c).2 = true then some none else if (unitP out c).1 = 0 then scanC out r else some (some (unitP out c).1)
def propL (l : List (List Int)) : Nat → List Int → List Int × Bool
  | 0, out => (out, false)
  | f + 1, out => match scanC out l with | none => (out, false) | some none => (out, true) | some (some x) => propL l f (out ++ [x])
def LitsOk (l : List (List Int)) : Prop := ∀ c ∈ l, c.length ≤ 1000 ∧ ∀ n ∈ c, n ≠ 0 ∧ -12 ≤ n ∧ n ≤ 12
theorem unitP_lit (out c : List Int) (hc : ∀ n ∈ c, n ≠ 0 ∧ -12 ≤ n ∧ n ≤ 12) (h : (unitP out c).1 ≠ 0) : (unitP out c).2 = false ∧ (unitP out c).1 ∈ c ∧ hasB out (unitP out c).1 = false ∧ hasB out (-(unitP out c).1) = false := by
  unfold unitP at h ⊢
  cases hm : meetsB c out with
  | true => rw [hm] at h; simp at h
  | false =>
    rw [hm] at h
    rw [if_neg Bool.false_ne_true] at h ⊢
    match hw : withoutL c out with
    | [] => rw [hw] at h; simp at h
    | x :: y :: t => rw [hw] at h; simp at h
    | [x] =>
      have hx : x ∈ withoutL c out := by rw [hw]; simp
      unfold withoutL at hx
      rw [List.mem_filter, any_flip] at hx
      obtain ⟨h1, h2⟩ := hx
      obtain ⟨_, b1, b2⟩ := hc x h1
      rw [neg64 (by omega) (by omega)] at h2
      refine ⟨rfl, h1, ?_, by simpa [hasB] using h2⟩
      unfold meetsB at hm
      have := List.any_eq_false.1 hm x h1
      rw [any_flip] at this
      exact Bool.eq_false_iff.mpr this
theorem scan_lit (out : List Int) : ∀ (l : List (List Int)) (x : Int), LitsOk l → scanC out l = some (some x) → x ≠ 0 ∧ -12 ≤ x ∧ x ≤ 12 ∧ hasB out x = false ∧ hasB out (-x) = false
  | [], x, _, h => by simp [scanC] at h
  | c :: r, x, hl, h => by
    unfold scanC at h
    have hc := (hl c List.mem_cons_self).2
    split at h
    · simp at h
    · split at h
      · exact scan_lit out r x (fun c' h' => hl c' (List.mem_cons_of_mem _ h')) h
      · rename_i h2
        injection h with h
        injection h with h
        subst h
        obtain ⟨_, hm, h3, h4⟩ := unitP_lit out c hc h2
        obtain ⟨a, b, d⟩ := hc _ hm
        exact ⟨a, b, d, h3, h4⟩
theorem specProp_scan (l : List (List Int)) (hl : LitsOk l) (hn : l.length ≤ 1048576) (out : List Int) (ho : out.length ≤ 100000) : ∀ (d i k : Nat), i + d = l.length → 300001 + d ≤ k →
    ∃ j, k - d - 1 ≤ j ∧ j < k ∧ spec_l4Propagate.l1 k l out false l (l.length : Int) (i : Int) = match scanC out (l.drop i) with | none => spec_l4Propagate.l0 j l out false | some none => some (out, true) | some (some x) => spec_l4Propagate.l0 j l (out ++ [x]) true
  | 0, i, k, h1, hk => by
    obtain ⟨k, rfl⟩ : ∃ m, k = m + 1 := ⟨k - 1, by omega⟩
    simp only [spec_l4Propagate.l1]
    rw [if_neg (by omega), List.drop_of_length_le (by omega)]
    exact ⟨k, by omega, by omega, rfl⟩
  | d + 1, i, k, h1, hk => by
    obtain ⟨k, rfl⟩ : ∃ m, k = m + 1 := ⟨k - 1, by omega⟩
    have hil : i < l.length := by omega
    obtain ⟨c1, c2⟩ := hl l[i] (List.getElem_mem _)
    simp only [spec_l4Propagate.l1]
    rw [if_pos (by omega), if_pos (by omega), if_pos (by omega), rdL_nat l i hil, next64 (by omega), specUnit_val out l[i] ho c1 k (by omega), List.drop_eq_getElem_cons hil]
    unfold scanC
    simp only [Option.bind_some]
    by_cases hb : (unitP out l[i]).2 = true
    · rw [if_pos hb, if_pos hb]
      exact ⟨k, by omega, by omega, rfl⟩
    · rw [if_neg hb, if_neg hb]
      by_cases h0 : (unitP out l[i]).1 = 0
      · rw [if_pos h0, if_pos h0]
        obtain ⟨j, hj1, hj2, hj⟩ := specProp_scan l hl hn out ho d (i + 1) k (by omega) (by omega)
        exact ⟨j, by omega, by omega, hj⟩
      · rw [if_neg h0, if_neg h0, if_pos (by omega)]
        exact ⟨k, by omega, by omega, rfl⟩
theorem specProp_l (l : List (List Int)) (hl : LitsOk l) (hn : l.length ≤ 1048576) : ∀ (f : Nat) (out : List Int) (k : Nat), freeV out < f → out.length + f ≤ 100000 → f * (l.length + 3) + 300010 ≤ k → spec_l4Propagate.l0 k l out true = some (propL l f out)
  | 0, _, _, h, _, _ => by omega
  | f + 1, out, k, h, ho, hk => by
    obtain ⟨k, rfl⟩ : ∃ m, k = m + 1 := ⟨k - 1, by omega⟩
    have hm : (f + 1) * (l.length + 3) = f * (l.length + 3) + (l.length + 3) := Nat.succ_mul _ _
    simp only [spec_l4Propagate.l0, if_true]
    obtain ⟨j, hj1, hj2, hj⟩ := specProp_scan l hl hn out (by omega) l.length 0 k (by omega) (by omega)
    rw [show ((0 : Nat) : Int) = 0 from rfl, List.drop_zero] at hj
    rw [hj]
    unfold propL
    match hs : scanC out l with
    | none =>
      obtain ⟨j', rfl⟩ : ∃ m, j = m + 1 := ⟨j - 1, by omega⟩
      simp [spec_l4Propagate.l0]
    | some none => rfl
    | some (some x) =>
      obtain ⟨a, b, c, d, e⟩ := scan_lit out l x hl hs
      have := freeV_lt out x a b c d e
      exact specProp_l l hl hn f (out ++ [x]) j (by omega) (by simp; omega) (by omega)
theorem implProp_scan (l : List (List Int)) (hl : LitsOk l) (hn : l.length ≤ 1048576) (out : List Int) (ho : out.length ≤ 100000) : ∀ (d i k : Nat), i + d = l.length → 1 + d ≤ k →
    ∃ j, k - d - 1 ≤ j ∧ j < k ∧ impl_propagate.l1 k l out false l (l.length : Int) (i : Int) = match scanC out (l.drop i) with | none => some (out, false) | some none => some (out, true) | some (some x) => impl_propagate.l0 j l (out ++ [x])
  | 0, i, k, h1, hk => by
    obtain ⟨k, rfl⟩ : ∃ m, k = m + 1 := ⟨k - 1, by omega⟩
    simp only [impl_propagate.l1]
    rw [if_neg (by omega), List.drop_of_length_le (by omega), if_neg Bool.false_ne_true]
    exact ⟨k, by omega, by omega, rfl⟩
  | d + 1, i, k, h1, hk => by
    obtain ⟨k, rfl⟩ : ∃ m, k = m + 1 := ⟨k - 1, by omega⟩
    have hil : i < l.length := by omega
    obtain ⟨c1, c2⟩ := hl l[i] (List.getElem_mem _)
    obtain ⟨j, hj1, hj2, hj⟩ := implProp_scan l hl hn out ho d (i + 1) k (by omega) (by omega)
    simp only [impl_propagate.l1, impl_meets.f, impl_without.f]
    rw [if_pos (by omega), if_pos (by omega), if_pos (by omega), rdL_nat l i hil, next64 (by omega), if_pos (by omega), List.drop_eq_getElem_cons hil]
    unfold scanC
    simp only [Option.bind_some]
    cases hm : meetsB l[i] out with
    | true =>
      have hu : unitP out l[i] = (0, false) := by unfold unitP; rw [hm]; rfl
      rw [hu]
      simp only [if_true]
      exact ⟨j, by omega, by omega, by simpa using hj⟩
    | false =>
      rw [if_neg Bool.false_ne_true]
      match hw : withoutL l[i] out with
      | [] =>
        have hu : unitP out l[i] = (0, true) := by unfold unitP; rw [hm, hw]; rfl
        rw [hu]
        exact ⟨k, by omega, by omega, by simp⟩
      | [x] =>
        have hu : unitP out l[i] = (x, false) := by unfold unitP; rw [hm, hw]; rfl
        have hx : x ∈ l[i] := by
          have : x ∈ withoutL l[i] out := by rw [hw]; simp
          unfold withoutL at this
          exact (List.mem_filter.1 this).1
        have h0 := (c2 x hx).1
        rw [hu]
        refine ⟨k, by omega, by omega, ?_⟩
        simp only [List.length_singleton]
        rw [if_neg (by decide), if_pos (by decide), if_pos (by decide), if_pos (by omega), if_neg Bool.false_ne_true, if_neg h0]
        rfl
      | x :: y :: t =>
        have hu : unitP out l[i] = (0, false) := by unfold unitP; rw [hm, hw]; rfl
        rw [hu]
        refine ⟨j, by omega, by omega, ?_⟩
        rw [if_neg (by simp; omega), if_neg (by simp; omega)]
        simpa using hj
theorem implProp_l (l : List (List Int)) (hl : LitsOk l) (hn : l.length ≤ 1048576) : ∀ (f : Nat) (out : List Int) (k : Nat), freeV out < f → out.length + f ≤ 100000 → f * (l.length + 3) + 10 ≤ k → impl_propagate.l0 k l out = some (propL l f out)
  | 0, _, _, h, _, _ => by omega
  | f + 1, out, k, h, ho, hk => by
    obtain ⟨k, rfl⟩ : ∃ m, k = m + 1 := ⟨k - 1, by omega⟩
    have hm : (f + 1) * (l.length + 3) = f * (l.length + 3) + (l.length + 3) := Nat.succ_mul _ _
    simp only [impl_propagate.l0]
    obtain ⟨j, hj1, hj2, hj⟩ := implProp_scan l hl hn out (by omega) l.length 0 k (by omega) (by omega)
    rw [show ((0 : Nat) : Int) = 0 from rfl, List.drop_zero] at hj
    rw [hj]
    unfold propL
    match hs : scanC out l with
    | none => rfl
    | some none => rfl
    | some (some x) =>
      obtain ⟨a, b, c, d, e⟩ := scan_lit out l x hl hs
      have := freeV_lt out x a b c d e
      exact implProp_l l hl hn f (out ++ [x]) j (by omega) (by simp; omega) (by omega)
/-- Unit propagation. -/
def propP (l : List (List Int)) (given : List Int) : List Int × Bool := propL l 13 given
theorem specProp_val (l : List (List Int)) (hl : LitsOk l) (hn : l.length ≤ 10000) (g : List Int) (hg : g.length ≤ 10000) (k : Nat) (hk : 3000000 ≤ k) : spec_l4Propagate.f k l g = some (propP l g) := by
  unfold spec_l4Propagate.f propP
  simp only [Option.bind_some, List.nil_append, List.length_nil]
  rw [if_pos (by omega)]
  exact specProp_l l hl (by omega) 13 g k (by have := freeV_le g; omega) (by omega) (by omega)
theorem implProp_val (l : List (List Int)) (hl : LitsOk l) (hn : l.length ≤ 10000) (g : List Int) (hg : g.length ≤ 10000) (k : Nat) (hk : 3000000 ≤ k) : impl_propagate.f k l g = some (propP l g) := by
  unfold impl_propagate.f slices_Clone_int_int.f propP
  rw [if_pos (by omega)]
  simp only [Option.bind_some]
  exact implProp_l l hl (by omega) 13 g k (by have := freeV_le g; omega) (by omega) (by omega)
theorem good_litsOk {v : Int} {l : List (List Int)} (h : goodB v l = true) : LitsOk l := by
  obtain ⟨h0, h1, _, _⟩ := goodB_facts h
  intro c hc
  obtain ⟨a, b⟩ := goodB_lits h c hc
  exact ⟨by omega, fun n hn => by have := b n hn; omega⟩

theorem propL_length (l : List (List Int)) : ∀ (f : Nat) (out : List Int), (propL l f out).1.length ≤ out.length + f
  | 0, out => by simp [propL]
  | f + 1, out => by
    unfold propL
    match scanC out l with
    | none => simp
    | some none => simp
    | some (some x) =>
      have := propL_length l f (out ++ [x])
      simp at this
      simp
      omega
/-- The first variable from x on of which literals tell neither way; 0 if none. -/
def firstV (out : List Int) : Nat → Int → Int
  | 0, _ => 0
  | d + 1, x => if hasB out x = true then firstV out d (x + 1) else if hasB out (-x) = true then firstV out d (x + 1) else x
theorem specFirst_l (v : Int) (out : List Int) (ho : out.length ≤ 100000) (hv : v ≤ 12) : ∀ (d : Nat) (x : Int) (k : Nat), x + d = v + 1 → 1 ≤ x → d + 200000 ≤ k → spec_l5First.l0 k v out x = some (firstV out d x)
  | 0, x, k, h1, h2, hk => by
    obtain ⟨k, rfl⟩ : ∃ m, k = m + 1 := ⟨k - 1, by omega⟩
    simp only [spec_l5First.l0]
    rw [if_neg (by omega)]
    rfl
  | d + 1, x, k, h1, h2, hk => by
    obtain ⟨k, rfl⟩ : ∃ m, k = m + 1 := ⟨k - 1, by omega⟩
    simp only [spec_l5First.l0]
    rw [if_pos (by omega), has_val out x (by omega) k (by omega), neg64 (by omega) (by omega), has_val out (-x) (by omega) k (by omega), w64 (by omega) (by omega)]
    unfold firstV hasB
    simp only [Option.bind_some]
    have ih := specFirst_l v out ho hv d (x + 1) k (by omega) (by omega) (by omega)
    cases out.any (· == x) with
    | true => simpa using ih
    | false =>
      rw [if_neg Bool.false_ne_true, if_neg Bool.false_ne_true]
      cases out.any (· == -x) with
      | true => simpa using ih
      | false => simp
theorem implDecide_l (v : Int) (out : List Int) (hv : v ≤ 12) : ∀ (d : Nat) (x : Int) (k : Nat), x + d = v + 1 → 1 ≤ x → d < k → impl_decide.l0 k v out x = some (firstV out d x, decide (firstV out d x ≠ 0))
  | 0, x, k, h1, h2, hk => by
    obtain ⟨k, rfl⟩ : ∃ m, k = m + 1 := ⟨k - 1, by omega⟩
    simp only [impl_decide.l0]
    rw [if_neg (by omega)]
    rfl
  | d + 1, x, k, h1, h2, hk => by
    obtain ⟨k, rfl⟩ : ∃ m, k = m + 1 := ⟨k - 1, by omega⟩
    simp only [impl_decide.l0, slices_Contains_int_int.f, any_flip, Option.bind_some]
    rw [if_pos (by omega), neg64 (by omega) (by omega), w64 (by omega) (by omega)]
    unfold firstV hasB
    have ih := implDecide_l v out hv d (x + 1) k (by omega) (by omega) (by omega)
    cases out.any (· == x) with
    | true => simpa using ih
    | false =>
      rw [if_neg Bool.false_ne_true, if_neg Bool.false_ne_true]
      cases out.any (· == -x) with
      | true => simpa using ih
      | false =>
        have : x ≠ 0 := by omega
        simp [this]
theorem specFirst_val (v : Int) (out : List Int) (ho : out.length ≤ 100000) (h0 : 0 ≤ v) (hv : v ≤ 12) (k : Nat) (hk : 3000000 ≤ k) : spec_l5First.f k v out = some (firstV out v.toNat 1) := by
  unfold spec_l5First.f
  exact specFirst_l v out ho hv v.toNat 1 k (by omega) (by omega) (by omega)
theorem implDecide_val (v : Int) (out : List Int) (h0 : 0 ≤ v) (hv : v ≤ 12) (k : Nat) (hk : 3000000 ≤ k) : impl_decide.f k v out = some (firstV out v.toNat 1, decide (firstV out v.toNat 1 ≠ 0)) := by
  unfold impl_decide.f
  exact implDecide_l v out hv v.toNat 1 k (by omega) (by omega) (by omega)

theorem negate_l (l : List Int) (hl : l.length ≤ 1048576) : ∀ (d i k : Nat) (y : List Int), i + d = l.length → y.length = i → d < k → spec_l5Negate.l0 k y l (l.length : Int) (i : Int) = some (y ++ (l.drop i).map fun x => wrap64 (-x))
  | 0, i, k, y, h1, h2, hk => by
    obtain ⟨k, rfl⟩ : ∃ m, k = m + 1 := ⟨k - 1, by omega⟩
    simp only [spec_l5Negate.l0]
    rw [if_neg (by omega), List.drop_of_length_le (by omega)]
    simp
  | d + 1, i, k, y, h1, h2, hk => by
    obtain ⟨k, rfl⟩ : ∃ m, k = m + 1 := ⟨k - 1, by omega⟩
    simp only [spec_l5Negate.l0]
    rw [if_pos (by omega), if_pos (by omega), if_pos (by omega), if_pos (by omega), rd_nat l i (by omega), next64 (by omega), negate_l l hl d (i + 1) k _ (by omega) (by simp [h2]) (by omega), drop_at l i (by omega), List.map_cons, List.append_assoc]
    rfl
theorem negate_val (l : List Int) (hl : l.length ≤ 1048576) (k : Nat) (hk : l.length < k) : spec_l5Negate.f k l = some (l.map fun x => wrap64 (-x)) := by
  unfold spec_l5Negate.f
  have := negate_l l hl l.length 0 k [] (by omega) rfl hk
  simpa using this

theorem learn_same : ∀ (k : Nat) (a b : List Int) (c d : Int), impl_learn.l0 k a b c d = spec_l5Negate.l0 k a b c d
  | 0, _, _, _, _ => rfl
  | k + 1, a, b, c, d => by
    simp only [impl_learn.l0, spec_l5Negate.l0, learn_same k]
theorem learn_val (l : List Int) (hl : l.length ≤ 1048576) (k : Nat) (hk : l.length < k) : impl_learn.f k l = some (l.map fun x => wrap64 (-x)) :=
  (learn_same ..).trans (negate_val l hl k hk)

def negL (l : List Int) : List Int := l.map fun x => wrap64 (-x)

theorem hasB_mem {l : List Int} {n : Int} : hasB l n = true ↔ n ∈ l := by
  unfold hasB
  rw [List.any_eq_true]
  exact ⟨fun ⟨x, hx, he⟩ => by have : x = n := by simpa using he
                               exact this ▸ hx, fun h => ⟨n, h, by simp⟩⟩
theorem hasB_no {l : List Int} {n : Int} : hasB l n = false ↔ n ∉ l := by
  rw [← hasB_mem]
  simp

theorem scan_mem (out : List Int) : ∀ (l : List (List Int)) (x : Int), LitsOk l → scanC out l = some (some x) → ∃ c ∈ l, x ∈ c
  | [], x, _, h => by simp [scanC] at h
  | c :: r, x, hl, h => by
    unfold scanC at h
    have hc := (hl c List.mem_cons_self).2
    split at h
    · simp at h
    · split at h
      · obtain ⟨c', h1, h2⟩ := scan_mem out r x (fun c' h' => hl c' (List.mem_cons_of_mem _ h')) h
        exact ⟨c', List.mem_cons_of_mem _ h1, h2⟩
      · rename_i h2
        injection h with h
        injection h with h
        subst h
        exact ⟨c, List.mem_cons_self, (unitP_lit out c hc h2).2.1⟩
theorem propL_pre (l : List (List Int)) : ∀ (f : Nat) (out : List Int), ∃ t, (propL l f out).1 = out ++ t
  | 0, out => ⟨[], by simp [propL]⟩
  | f + 1, out => by
    unfold propL
    match scanC out l with
    | none => exact ⟨[], by simp⟩
    | some none => exact ⟨[], by simp⟩
    | some (some x) =>
      obtain ⟨t, ht⟩ := propL_pre l f (out ++ [x])
      exact ⟨x :: t, by simp only [ht]; simp⟩
/-- Whatever the given literals and those of the clauses are, the derived ones are. -/
theorem propL_all (P : Int → Prop) (l : List (List Int)) (hl : LitsOk l) (hP : ∀ c ∈ l, ∀ n ∈ c, P n) : ∀ (f : Nat) (out : List Int), (∀ n ∈ out, P n) → ∀ n ∈ (propL l f out).1, P n
  | 0, out, h => by simpa [propL] using h
  | f + 1, out, h => by
    unfold propL
    match hs : scanC out l with
    | none => exact h
    | some none => exact h
    | some (some x) =>
      obtain ⟨c, h1, h2⟩ := scan_mem out l x hl hs
      exact propL_all P l hl hP f (out ++ [x]) (fun n hn => by
        rcases List.mem_append.1 hn with hn | hn
        · exact h n hn
        · have : n = x := by simpa using hn
          exact this ▸ hP c h1 x h2)
/-- No variable both ways. -/
def Cons (out : List Int) : Prop := ∀ n ∈ out, hasB out (-n) = false
theorem cons_snoc {out : List Int} (h : Cons out) (x : Int) (h0 : x ≠ 0) (h1 : hasB out (-x) = false) : Cons (out ++ [x]) := by
  intro n hn
  rw [hasB_app]
  rcases List.mem_append.1 hn with hn | hn
  · rw [h n hn, Bool.false_or]
    cases e : x == -n with
    | false => rfl
    | true =>
      have : x = -n := by simpa using e
      have h2 : n = -x := by omega
      rw [h2] at hn
      rw [hasB_mem.2 hn] at h1
      cases h1
  · have : n = x := by simpa using hn
    subst this
    rw [h1, Bool.false_or]
    simp
    omega
theorem propL_cons (l : List (List Int)) (hl : LitsOk l) : ∀ (f : Nat) (out : List Int), Cons out → Cons (propL l f out).1
  | 0, out, h => by simpa [propL] using h
  | f + 1, out, h => by
    unfold propL
    match hs : scanC out l with
    | none => exact h
    | some none => exact h
    | some (some x) =>
      obtain ⟨a, b, c, d, e⟩ := scan_lit out l x hl hs
      exact propL_cons l hl f (out ++ [x]) (cons_snoc h x a e)

def modelZ (v : Nat) (out : List Int) : List Bool := (List.range v).map fun (i : Nat) => hasB out ((i : Int) + 1)
/-- The decisions are new variables, each. -/
def DecOk (v : Int) (d : List Int) : Prop := ∀ (i : Nat) (x : Int), d[i]? = some x → 1 ≤ x ∧ x ≤ v ∧ hasB (d.take i) x = false ∧ hasB (d.take i) (-x) = false
theorem decOk_nil (v : Int) : DecOk v [] := fun i x h => by simp at h
theorem decOk_take {v : Int} {d : List Int} (h : DecOk v d) (j : Nat) : DecOk v (d.take j) := by
  intro i x hx
  rw [List.getElem?_take] at hx
  split at hx
  · rename_i hij
    obtain ⟨a, b, c, e⟩ := h i x hx
    rw [List.take_take, Nat.min_eq_left (by omega)]
    exact ⟨a, b, c, e⟩
  · cases hx
theorem decOk_drop {v : Int} {d : List Int} (h : DecOk v d) : DecOk v d.dropLast := by
  rw [List.dropLast_eq_take]
  exact decOk_take h _
theorem decOk_snoc {v : Int} {d : List Int} (h : DecOk v d) (x : Int) (h1 : 1 ≤ x) (h2 : x ≤ v) (h3 : hasB d x = false) (h4 : hasB d (-x) = false) : DecOk v (d ++ [x]) := by
  intro i y hy
  rcases Nat.lt_trichotomy i d.length with hi | hi | hi
  · rw [List.getElem?_append_left hi] at hy
    rw [List.take_append_of_le_length (by omega)]
    exact h i y hy
  · subst hi
    rw [List.getElem?_append_right (Nat.le_refl _)] at hy
    simp at hy
    subst hy
    rw [List.take_left']
    exact ⟨h1, h2, h3, h4⟩
    rfl
  · rw [List.getElem?_eq_none (by simp; omega)] at hy
    cases hy
theorem decOk_mem {v : Int} {d : List Int} (h : DecOk v d) : ∀ x ∈ d, 1 ≤ x ∧ x ≤ v := by
  intro x hx
  obtain ⟨i, hi, rfl⟩ := List.mem_iff_getElem.1 hx
  obtain ⟨a, b, _, _⟩ := h i d[i] (List.getElem?_eq_getElem hi)
  exact ⟨a, b⟩
theorem decOk_len {v : Int} {d : List Int} (hv : v ≤ 12) (h : DecOk v d) : ∀ i : Nat, i ≤ d.length → freeV (d.take i) + i ≤ 12
  | 0, _ => by
    have := freeV_le (d.take 0)
    omega
  | i + 1, hi => by
    have ih := decOk_len hv h i (by omega)
    have hil : i < d.length := by omega
    obtain ⟨a, b, c, e⟩ := h i d[i] (List.getElem?_eq_getElem hil)
    rw [List.take_succ_eq_append_getElem hil]
    have := freeV_lt (d.take i) d[i] (by omega) (by omega) (by omega) c e
    omega
theorem decOk_le {v : Int} {d : List Int} (hv : v ≤ 12) (h : DecOk v d) : d.length ≤ 12 := by
  have := decOk_len hv h d.length (Nat.le_refl _)
  omega
theorem firstV_some (out : List Int) : ∀ (d : Nat) (a : Int), 1 ≤ a → firstV out d a ≠ 0 → a ≤ firstV out d a ∧ firstV out d a < a + d ∧ hasB out (firstV out d a) = false ∧ hasB out (-firstV out d a) = false
  | 0, a, h1, h => by simp [firstV] at h
  | d + 1, a, h1, h => by
    unfold firstV at h ⊢
    cases ha : hasB out a with
    | true =>
      rw [ha] at h
      simp only [if_true] at h ⊢
      have := firstV_some out d (a + 1) (by omega) h
      exact ⟨by omega, by omega, this.2.2⟩
    | false =>
      rw [ha] at h
      rw [if_neg Bool.false_ne_true] at h ⊢
      cases hb : hasB out (-a) with
      | true =>
        rw [hb] at h
        simp only [if_true] at h ⊢
        have := firstV_some out d (a + 1) (by omega) h
        exact ⟨by omega, by omega, this.2.2⟩
      | false =>
        rw [hb] at h
        rw [if_neg Bool.false_ne_true] at h ⊢
        exact ⟨by omega, by omega, ha, hb⟩
theorem firstV_none (out : List Int) : ∀ (d : Nat) (a : Int), 1 ≤ a → firstV out d a = 0 → ∀ y, a ≤ y → y < a + d → hasB out y = true ∨ hasB out (-y) = true
  | 0, a, h1, h, y, h2, h3 => by omega
  | d + 1, a, h1, h, y, h2, h3 => by
    unfold firstV at h
    cases ha : hasB out a with
    | true =>
      rw [ha] at h
      simp only [if_true] at h
      rcases Int.lt_or_eq_of_le h2 with hy | hy
      · exact firstV_none out d (a + 1) (by omega) h y (by omega) (by omega)
      · exact .inl (hy ▸ ha)
    | false =>
      rw [ha] at h
      rw [if_neg Bool.false_ne_true] at h
      cases hb : hasB out (-a) with
      | true =>
        rw [hb] at h
        simp only [if_true] at h
        rcases Int.lt_or_eq_of_le h2 with hy | hy
        · exact firstV_none out d (a + 1) (by omega) h y (by omega) (by omega)
        · exact .inr (hy ▸ hb)
      | false =>
        rw [hb] at h
        rw [if_neg Bool.false_ne_true] at h
        omega
/-- The search for a model. -/
def solveL (v : Int) (l : List (List Int)) : Nat → List (List Int) → List Int → Bool × List Bool × List (List Int) × Bool
  | 0, _, _ => (false, [], [], false)
  | f + 1, learned, decided =>
    if (propP (l ++ learned) decided).2 = true then
      (if learned.length = 300 then (false, [], [], false)
      else if decided = [] then (false, [], learned ++ [negL decided], true)
      else solveL v l f (learned ++ [negL decided]) decided.dropLast)
    else if firstV (propP (l ++ learned) decided).1 v.toNat 1 = 0 then (true, modelZ v.toNat (propP (l ++ learned) decided).1, learned, true)
    else solveL v l f learned (decided ++ [firstV (propP (l ++ learned) decided).1 v.toNat 1])
def LitsV (v : Int) (l : List (List Int)) : Prop := ∀ c ∈ l, c.length ≤ 1000 ∧ ∀ n ∈ c, n ≠ 0 ∧ -v ≤ n ∧ n ≤ v
theorem LitsV.ok {v : Int} {l : List (List Int)} (h : LitsV v l) (hv : v ≤ 12) : LitsOk l := fun c hc => ⟨(h c hc).1, fun n hn => by have := (h c hc).2 n hn; omega⟩
theorem LitsV.app {v : Int} {l m : List (List Int)} (h : LitsV v l) (k : LitsV v m) : LitsV v (l ++ m) := fun c hc => (List.mem_append.1 hc).elim (h c) (k c)
theorem good_litsV {v : Int} {l : List (List Int)} (h : goodB v l = true) : LitsV v l := by
  intro c hc
  obtain ⟨a, b⟩ := goodB_lits h c hc
  exact ⟨by omega, b⟩
theorem litsV_learn {v : Int} (hv : v ≤ 12) {d : List Int} (h : DecOk v d) : LitsV v [negL d] := by
  intro c hc
  have : c = negL d := by simpa using hc
  subst this
  have hl := decOk_le hv h
  refine ⟨by unfold negL; rw [List.length_map]; omega, fun n hn => ?_⟩
  unfold negL at hn
  obtain ⟨x, hx, rfl⟩ := List.mem_map.1 hn
  obtain ⟨a, b⟩ := decOk_mem h x hx
  rw [neg64 (by omega) (by omega)]
  omega
theorem dec_cons {v : Int} {d : List Int} (h : DecOk v d) : Cons d := by
  intro n hn
  obtain ⟨a, _⟩ := decOk_mem h n hn
  rw [hasB_no]
  intro h'
  obtain ⟨b, _⟩ := decOk_mem h _ h'
  omega
/-- What a round of the search needs of its state, and what it leaves. -/
structure SolveOk (v : Int) (l learned : List (List Int)) (decided : List Int) : Prop where
  v0 : 0 ≤ v
  v1 : v ≤ 12
  ll : l.length ≤ 1000
  lv : LitsV v l
  nv : LitsV v learned
  nl : learned.length ≤ 300
  ni : ∀ c ∈ learned, c.length ≤ 12
  dd : DecOk v decided
theorem SolveOk.all {v : Int} {l n : List (List Int)} {d : List Int} (h : SolveOk v l n d) : LitsOk (l ++ n) := (h.lv.app h.nv).ok h.v1
theorem SolveOk.learn {v : Int} {l n : List (List Int)} {d : List Int} (h : SolveOk v l n d) (hn : n.length < 300) : SolveOk v l (n ++ [negL d]) d.dropLast where
  v0 := h.v0
  v1 := h.v1
  ll := h.ll
  lv := h.lv
  nv := h.nv.app (litsV_learn h.v1 h.dd)
  nl := by simp; omega
  ni := fun c hc => (List.mem_append.1 hc).elim (h.ni c) fun hc => by
    have : c = negL d := by simpa using hc
    subst this
    unfold negL
    rw [List.length_map]
    exact decOk_le h.v1 h.dd
  dd := decOk_drop h.dd
theorem SolveOk.decide {v : Int} {l n : List (List Int)} {d : List Int} (h : SolveOk v l n d) (h0 : firstV (propP (l ++ n) d).1 v.toNat 1 ≠ 0) : SolveOk v l n (d ++ [firstV (propP (l ++ n) d).1 v.toNat 1]) where
  v0 := h.v0
  v1 := h.v1
  ll := h.ll
  lv := h.lv
  nv := h.nv
  nl := h.nl
  ni := h.ni
  dd := by
    obtain ⟨a, b, c, e⟩ := firstV_some (propP (l ++ n) d).1 v.toNat 1 (by omega) h0
    have := h.v0
    obtain ⟨t, ht⟩ := propL_pre (l ++ n) 13 d
    have hsub : ∀ y, hasB (propP (l ++ n) d).1 y = false → hasB d y = false := fun y hy => by
      rw [hasB_no] at hy ⊢
      intro h'
      exact hy (by unfold propP; rw [ht]; exact List.mem_append_left _ h')
    exact decOk_snoc h.dd _ a (by omega) (hsub _ c) (hsub _ e)
def solveM (n : List (List Int)) (d : List Int) : Nat := 2 * (301 - n.length) + (13 - d.length)
theorem solveM_learn {v : Int} {l n : List (List Int)} {d : List Int} (h : SolveOk v l n d) (hd : d ≠ []) : solveM (n ++ [negL d]) d.dropLast < solveM n d := by
  have h1 := decOk_le h.v1 h.dd
  have h2 := h.nl
  have h3 : 0 < d.length := List.length_pos_iff.2 hd
  unfold solveM
  rw [List.length_append, List.length_dropLast, List.length_singleton]
  omega
theorem solveM_decide {v : Int} {l n : List (List Int)} {d : List Int} (h : SolveOk v l n d) (x : Int) : solveM n (d ++ [x]) < solveM n d := by
  have h1 := decOk_le h.v1 h.dd
  unfold solveM
  rw [List.length_append, List.length_singleton]
  omega

theorem copy_l (l : List (List Int)) (hl : l.length ≤ 1048576) (hi : ∀ x ∈ l, x.length ≤ 1048576) : ∀ (d i k : Nat) (y : List (List Int)), i + d = l.length → y.length = i → d < k → spec_l5Copy.l0 k y l (l.length : Int) (i : Int) = some (y ++ l.drop i)
  | 0, i, k, y, h1, h2, hk => by
    obtain ⟨k, rfl⟩ : ∃ m, k = m + 1 := ⟨k - 1, by omega⟩
    simp only [spec_l5Copy.l0]
    rw [if_neg (by omega), List.drop_of_length_le (by omega), List.append_nil]
  | d + 1, i, k, y, h1, h2, hk => by
    obtain ⟨k, rfl⟩ : ∃ m, k = m + 1 := ⟨k - 1, by omega⟩
    have hil : i < l.length := by omega
    have hx := hi l[i] (List.getElem_mem _)
    simp only [spec_l5Copy.l0, Option.bind_some, List.nil_append, List.length_nil]
    rw [if_pos (by omega), if_pos (by omega), if_pos (by omega), rdL_nat l i hil, next64 (by omega), if_pos (by omega), if_pos (by omega)]
    rw [copy_l l hl hi d (i + 1) k (y ++ [l[i]]) (by omega) (by simp [h2]) (by omega), List.drop_eq_getElem_cons hil, List.append_assoc]
    rfl
theorem copy_val (l : List (List Int)) (hl : l.length ≤ 1048576) (hi : ∀ x ∈ l, x.length ≤ 1048576) (k : Nat) (hk : 1048577 ≤ k) : spec_l5Copy.f k l = some l := by
  unfold spec_l5Copy.f
  have := copy_l l hl hi l.length 0 k [] (by omega) rfl (by omega)
  simpa using this

theorem vab_abs {n : Int} (h0 : -12 ≤ n) (h1 : n ≤ 12) : vab n = if 0 ≤ n then n else -n := by
  rw [vab_small h0 h1]
  by_cases h : 0 ≤ n
  · rw [if_pos h, if_neg (by omega)]
  · rw [if_neg h, if_pos (by omega)]

theorem modelZ_length (v : Nat) (out : List Int) : (modelZ v out).length = v := by simp [modelZ]
theorem modelZ_at (v : Nat) (out : List Int) (j : Nat) (h : j < v) : (modelZ v out)[j]? = some (hasB out ((j : Int) + 1)) := by
  unfold modelZ
  rw [List.getElem?_map, List.getElem?_range h]
  rfl
/-- The model of the literals out: what the part up to i has set, and what it has not. -/
theorem implModelZ_l (v : Nat) (hv : v ≤ 12) (out : List Int) (hl : out.length ≤ 100000) (hr : ∀ n ∈ out, n ≠ 0 ∧ -(v : Int) ≤ n ∧ n ≤ (v : Int)) (hc : Cons out) : ∀ (d i k : Nat) (m : List Bool), i + d = out.length → m.length = v → (∀ j, j < v → m[j]? = some (hasB (out.take i) ((j : Int) + 1))) → d < k →
    impl_solve.l1 k out m (i : Int) = some (modelZ v out)
  | 0, i, k, m, h1, h2, h3, hk => by
    obtain ⟨k, rfl⟩ : ∃ m, k = m + 1 := ⟨k - 1, by omega⟩
    simp only [impl_solve.l1]
    rw [if_neg (by omega)]
    congr 1
    apply List.ext_getElem?
    intro j
    by_cases hj : j < v
    · rw [h3 j hj, modelZ_at v out j hj, List.take_of_length_le (by omega)]
    · rw [List.getElem?_eq_none (by omega), List.getElem?_eq_none (by rw [modelZ_length]; omega)]
  | d + 1, i, k, m, h1, h2, h3, hk => by
    obtain ⟨k, rfl⟩ : ∃ m, k = m + 1 := ⟨k - 1, by omega⟩
    have hil : i < out.length := by omega
    have hmem := List.getElem_mem hil
    obtain ⟨b0, b1, b2⟩ := hr out[i] hmem
    have hca := hc out[i] hmem
    obtain ⟨n, hn⟩ : ∃ n, out[i] = n := ⟨_, rfl⟩
    rw [hn] at b0 b1 b2 hca
    obtain ⟨q, hq⟩ : ∃ q : Nat, q < v ∧ (((q : Int) + 1 = n ∧ 0 < n) ∨ ((q : Int) + 1 = -n ∧ n < 0)) := by
      rcases Int.lt_or_gt_of_ne b0 with h | h
      · exact ⟨(-n).toNat - 1, by omega, .inr ⟨by omega, h⟩⟩
      · exact ⟨n.toNat - 1, by omega, .inl ⟨by omega, h⟩⟩
    obtain ⟨hqv, hq⟩ := hq
    have hvab : vab n = (q : Int) + 1 := by
      rw [vab_abs (by omega) (by omega)]
      split <;> omega
    simp only [impl_solve.l1]
    rw [if_pos (by omega), if_pos (by omega), rd_nat out i hil, next64 (by omega), hn, hvab, if_pos ⟨by omega, by omega⟩, show ((q : Int) + 1 - 1).toNat = q by omega]
    refine implModelZ_l v hv out hl hr hc d (i + 1) k _ (by omega) (by rw [List.length_set]; exact h2) (fun j hj => ?_) (by omega)
    rw [List.take_succ_eq_append_getElem hil, hasB_app, List.getElem?_set, hn]
    by_cases e : q = j
    · subst e
      rw [if_pos rfl, if_pos (by omega)]
      congr 1
      rcases hq with ⟨h1', h2'⟩ | ⟨h1', h2'⟩
      · rw [h1', decide_eq_true h2']
        simp
      · have hno : hasB (out.take i) ((q : Int) + 1) = false := by
          rw [h1']
          rw [hasB_no] at hca ⊢
          intro h
          exact hca (List.mem_of_mem_take h)
        rw [hno, decide_eq_false (by omega), show (n == (q : Int) + 1) = false by rw [beq_eq_false_iff_ne]; omega]
        rfl
    · rw [if_neg e, h3 j hj]
      congr 1
      have hne : (n == (j : Int) + 1) = false := by
        rw [beq_eq_false_iff_ne]
        omega
      rw [hne, Bool.or_false]
theorem specModelZ_l (v : Nat) (hv : v ≤ 12) (out : List Int) (hl : out.length ≤ 100000) (hr : ∀ n ∈ out, n ≠ 0 ∧ -(v : Int) ≤ n ∧ n ≤ (v : Int)) : ∀ (d i k : Nat) (m : List Bool), i + d = out.length → m.length = v → (∀ j, j < v → m[j]? = some (hasB (out.take i) ((j : Int) + 1))) → d < k →
    spec_l5Solve.l1 k out m (i : Int) = some (modelZ v out)
  | 0, i, k, m, h1, h2, h3, hk => by
    obtain ⟨k, rfl⟩ : ∃ m, k = m + 1 := ⟨k - 1, by omega⟩
    simp only [spec_l5Solve.l1]
    rw [if_neg (by omega)]
    congr 1
    apply List.ext_getElem?
    intro j
    by_cases hj : j < v
    · rw [h3 j hj, modelZ_at v out j hj, List.take_of_length_le (by omega)]
    · rw [List.getElem?_eq_none (by omega), List.getElem?_eq_none (by rw [modelZ_length]; omega)]
  | d + 1, i, k, m, h1, h2, h3, hk => by
    obtain ⟨k, rfl⟩ : ∃ m, k = m + 1 := ⟨k - 1, by omega⟩
    have hil : i < out.length := by omega
    obtain ⟨b0, b1, b2⟩ := hr out[i] (List.getElem_mem hil)
    simp only [spec_l5Solve.l1]
    rw [if_pos (by omega), if_pos (by omega), rd_nat out i hil, next64 (by omega)]
    by_cases hp : 0 < out[i]
    · rw [if_pos hp, if_pos (by omega)]
      refine specModelZ_l v hv out hl hr d (i + 1) k _ (by omega) (by rw [List.length_set]; exact h2) (fun j hj => ?_) (by omega)
      rw [List.take_succ_eq_append_getElem hil, hasB_app, List.getElem?_set]
      by_cases e : out[i].toNat - 1 = j
      · rw [if_pos e, if_pos (by omega), show (out[i] == (j : Int) + 1) = true by simp; omega, Bool.or_true]
      · rw [if_neg e, h3 j hj, show (out[i] == (j : Int) + 1) = false by simp; omega, Bool.or_false]
    · rw [if_neg hp]
      refine specModelZ_l v hv out hl hr d (i + 1) k m (by omega) h2 (fun j hj => ?_) (by omega)
      rw [List.take_succ_eq_append_getElem hil, hasB_app, h3 j hj, show (out[i] == (j : Int) + 1) = false by simp; omega, Bool.or_false]

theorem litsV_all {v : Int} {l n : List (List Int)} {d : List Int} (h : SolveOk v l n d) : ∀ x ∈ (propP (l ++ n) d).1, x ≠ 0 ∧ -v ≤ x ∧ x ≤ v :=
  propL_all (fun x => x ≠ 0 ∧ -v ≤ x ∧ x ≤ v) (l ++ n) h.all (fun c hc => ((h.lv.app h.nv) c hc).2) 13 d (fun x hx => by
    obtain ⟨a, b⟩ := decOk_mem h.dd x hx
    have := h.v0
    omega)
theorem prop_len {v : Int} {l n : List (List Int)} {d : List Int} (h : SolveOk v l n d) : (propP (l ++ n) d).1.length ≤ 100 := by
  have h1 := propL_length (l ++ n) 13 d
  have h2 := decOk_le h.v1 h.dd
  unfold propP
  omega
theorem take_dropLast {α : Type} (l : List α) : l.take (l.length - 1) = l.dropLast := (List.dropLast_eq_take).symm
theorem implSolve_l (v : Int) (l : List (List Int)) : ∀ (f k : Nat) (n : List (List Int)) (d : List Int), SolveOk v l n d → solveM n d < f → f + 4000000 ≤ k → impl_solve.l0 k v l n d = some (solveL v l f n d)
  | 0, k, n, d, h, hm, hk => by omega
  | f + 1, k, n, d, h, hm, hk => by
    obtain ⟨k, rfl⟩ : ∃ m, k = m + 1 := ⟨k - 1, by omega⟩
    have hll := h.ll
    have hnl := h.nl
    have hd12 := decOk_le h.v1 h.dd
    have hpl := prop_len h
    have hv0 := h.v0
    have hv1 := h.v1
    simp only [impl_solve.l0]
    rw [if_pos (by omega), implProp_val (l ++ n) h.all (by rw [List.length_append]; omega) d (by omega) k (by omega), solveL]
    simp only [Option.bind_some]
    cases hb : (propP (l ++ n) d).2 with
    | true =>
      rw [if_pos rfl, if_pos rfl, learn_val d (by omega) k (by omega)]
      simp only [Option.bind_some]
      rw [show (d.map fun x => wrap64 (-x)) = negL d from rfl]
      by_cases h3 : n.length = 300
      · rw [if_pos (by simp; omega), if_pos h3]
      · rw [if_neg (by simp; omega), if_neg h3]
        by_cases h0 : d = []
        · rw [if_pos (by rw [h0]; rfl), if_pos h0]
        · have h0' : ¬ d.length = 0 := fun e => h0 (List.eq_nil_of_length_eq_zero e)
          rw [if_neg h0', if_neg h0, take_dropLast]
          exact implSolve_l v l f k _ _ (h.learn (by omega)) (by have := solveM_learn h h0; omega) (by omega)
    | false =>
      rw [if_neg Bool.false_ne_true, if_neg Bool.false_ne_true, implDecide_val v _ hv0 hv1 k (by omega)]
      simp only [Option.bind_some]
      by_cases hx : firstV (propP (l ++ n) d).1 v.toNat 1 = 0
      · rw [decide_eq_false (by simpa using hx), if_neg Bool.false_ne_true, if_pos ⟨hv0, by omega⟩, if_pos hx]
        have := implModelZ_l v.toNat (by omega) (propP (l ++ n) d).1 (by omega) (fun x hx => by have := litsV_all h x hx; omega) (propL_cons _ h.all 13 d (dec_cons h.dd)) (propP (l ++ n) d).1.length 0 k (List.replicate v.toNat false) (by omega) (by simp) (fun j hj => by rw [List.getElem?_replicate, if_pos hj]; simp [hasB]) (by omega)
        rw [show ((0 : Nat) : Int) = 0 from rfl] at this
        rw [this]
        rfl
      · rw [decide_eq_true hx, if_pos rfl, if_pos (by omega), if_neg hx]
        exact implSolve_l v l f k _ _ (h.decide hx) (by have := solveM_decide h (firstV (propP (l ++ n) d).1 v.toNat 1); omega) (by omega)
theorem learned_bounds {n : List (List Int)} (h : ∀ c ∈ n, c.length ≤ 12) : ∀ c ∈ n, c.length ≤ 1048576 := fun c hc => by have := h c hc; omega
theorem specSolve_l (v : Int) (l : List (List Int)) : ∀ (f k : Nat) (n : List (List Int)) (d : List Int), SolveOk v l n d → solveM n d < f → f + 4000000 ≤ k → spec_l5Solve.l0 k v (l ++ n) n d = some (solveL v l f n d)
  | 0, k, n, d, h, hm, hk => by omega
  | f + 1, k, n, d, h, hm, hk => by
    obtain ⟨k, rfl⟩ : ∃ m, k = m + 1 := ⟨k - 1, by omega⟩
    have hll := h.ll
    have hnl := h.nl
    have hd12 := decOk_le h.v1 h.dd
    have hpl := prop_len h
    have hv0 := h.v0
    have hv1 := h.v1
    simp only [spec_l5Solve.l0]
    rw [specProp_val (l ++ n) h.all (by rw [List.length_append]; omega) d (by omega) k (by omega), solveL]
    simp only [Option.bind_some]
    rw [specFirst_val v _ (by omega) hv0 hv1 k (by omega)]
    simp only [Option.bind_some]
    cases hb : (propP (l ++ n) d).2 with
    | true =>
      rw [if_pos rfl, if_pos rfl]
      by_cases h3 : n.length = 300
      · rw [if_pos h3, if_pos h3]
      · rw [if_neg h3, if_neg h3, negate_val d (by omega) k (by omega)]
        simp only [Option.bind_some]
        rw [show (d.map fun x => wrap64 (-x)) = negL d from rfl, if_pos ⟨by omega, by rw [List.length_append]; omega⟩]
        by_cases h0 : d = []
        · rw [if_pos (by rw [h0]; rfl), if_pos h0, copy_val _ (by simp; omega) (fun c hc => by
            rcases List.mem_append.1 hc with hc | hc
            · exact learned_bounds h.ni c hc
            · have : c = negL d := by simpa using hc
              subst this
              unfold negL
              rw [List.length_map]
              omega) k (by omega)]
          rfl
        · have h0' : ¬ d.length = 0 := fun e => h0 (List.eq_nil_of_length_eq_zero e)
          rw [if_neg h0', if_neg h0, take_dropLast, List.append_assoc]
          exact specSolve_l v l f k _ _ (h.learn (by omega)) (by have := solveM_learn h h0; omega) (by omega)
    | false =>
      rw [if_neg Bool.false_ne_true, if_neg Bool.false_ne_true]
      by_cases hx : firstV (propP (l ++ n) d).1 v.toNat 1 = 0
      · rw [hx, if_neg (by omega), if_pos ⟨hv0, by omega⟩, if_pos rfl]
        have := specModelZ_l v.toNat (by omega) (propP (l ++ n) d).1 (by omega) (fun x hx => by have := litsV_all h x hx; omega) (propP (l ++ n) d).1.length 0 k (List.replicate v.toNat false) (by omega) (by simp) (fun j hj => by rw [List.getElem?_replicate, if_pos hj]; simp [hasB]) (by omega)
        rw [show ((0 : Nat) : Int) = 0 from rfl] at this
        rw [this]
        simp only [Option.bind_some]
        rw [copy_val n (by omega) (learned_bounds h.ni) k (by omega)]
        rfl
      · obtain ⟨a, _, _, _⟩ := firstV_some (propP (l ++ n) d).1 v.toNat 1 (by omega) hx
        rw [if_pos (by omega), if_pos (by omega), if_neg hx]
        exact specSolve_l v l f k _ _ (h.decide hx) (by have := solveM_decide h (firstV (propP (l ++ n) d).1 v.toNat 1); omega) (by omega)
/-- The search. -/
def solveP (v : Int) (l : List (List Int)) : Bool × List Bool × List (List Int) × Bool := solveL v l 700 [] []
theorem solveOk_nil {v : Int} {l : List (List Int)} (h0 : 0 ≤ v) (h1 : v ≤ 12) (hl : LitsV v l) (hn : l.length ≤ 1000) : SolveOk v l [] [] where
  v0 := h0
  v1 := h1
  ll := hn
  lv := hl
  nv := fun c hc => by simp at hc
  nl := by simp
  ni := fun c hc => by simp at hc
  dd := decOk_nil v
theorem implSolve_val (v : Int) (l : List (List Int)) (h0 : 0 ≤ v) (h1 : v ≤ 12) (hl : LitsV v l) (hn : l.length ≤ 1000) (k : Nat) (hk : 5000000 ≤ k) : impl_solve.f k v l = some (solveP v l) := by
  unfold impl_solve.f solveP
  exact implSolve_l v l 700 k [] [] (solveOk_nil h0 h1 hl hn) (by unfold solveM; simp) (by omega)
theorem specSolve_val (v : Int) (l : List (List Int)) (h0 : 0 ≤ v) (h1 : v ≤ 12) (hl : LitsV v l) (hn : l.length ≤ 1000) (k : Nat) (hk : 5000000 ≤ k) : spec_l5Solve.f k v l = some (solveP v l) := by
  unfold spec_l5Solve.f solveP
  rw [copy_val l (by omega) (fun c hc => by have := (hl c hc).1; omega) k (by omega)]
  simp only [Option.bind_some]
  have := specSolve_l v l 700 k [] [] (solveOk_nil h0 h1 hl hn) (by unfold solveM; simp) (by omega)
  rw [List.append_nil] at this
  exact this
/-- How long what is found is. -/
theorem solveL_bounds (v : Int) (l : List (List Int)) : ∀ (f : Nat) (n : List (List Int)) (d : List Int), SolveOk v l n d → solveM n d < f →
    (solveL v l f n d).2.1.length ≤ 12 ∧ (solveL v l f n d).2.2.1.length ≤ 301 ∧ ∀ c ∈ (solveL v l f n d).2.2.1, c.length ≤ 12
  | 0, n, d, h, hm => by omega
  | f + 1, n, d, h, hm => by
    have hd12 := decOk_le h.v1 h.dd
    have hnl := h.nl
    rw [solveL]
    cases hb : (propP (l ++ n) d).2 with
    | true =>
      rw [if_pos rfl]
      by_cases h3 : n.length = 300
      · rw [if_pos h3]
        simp
      · rw [if_neg h3]
        by_cases h0 : d = []
        · rw [if_pos h0]
          refine ⟨by simp, by simp; omega, fun c hc => ?_⟩
          rcases List.mem_append.1 hc with hc | hc
          · exact h.ni c hc
          · have : c = negL d := by simpa using hc
            subst this
            unfold negL
            rw [List.length_map]
            omega
        · rw [if_neg h0]
          exact solveL_bounds v l f _ _ (h.learn (by omega)) (by have := solveM_learn h h0; omega)
    | false =>
      rw [if_neg Bool.false_ne_true]
      by_cases hx : firstV (propP (l ++ n) d).1 v.toNat 1 = 0
      · rw [if_pos hx]
        have hv1 := h.v1
        exact ⟨by rw [modelZ_length]; omega, by simp only; omega, h.ni⟩
      · rw [if_neg hx]
        exact solveL_bounds v l f _ _ (h.decide hx) (by have := solveM_decide h (firstV (propP (l ++ n) d).1 v.toNat 1); omega)
theorem solveP_bounds {v : Int} {l : List (List Int)} (h0 : 0 ≤ v) (h1 : v ≤ 12) (hl : LitsV v l) (hn : l.length ≤ 1000) : (solveP v l).2.1.length ≤ 12 ∧ (solveP v l).2.2.1.length ≤ 301 ∧ ∀ c ∈ (solveP v l).2.2.1, c.length ≤ 12 :=
  solveL_bounds v l 700 [] [] (solveOk_nil h0 h1 hl hn) (by unfold solveM; simp)

def solveR (v : Int) (l : List (List Int)) : Bool × List Bool × List (List Int) × Bool := if goodB v l = true then solveP v l else (false, [], [], false)
theorem specSolveR_val (v : Int) (l : List (List Int)) (hl : l.length ≤ 1048576) (hi : ∀ x ∈ l, x.length ≤ 1048576) (k : Nat) (hk : 6000000 ≤ k) : spec_Solve.f k v l = some (solveR v l) := by
  unfold spec_Solve.f solveR
  rw [specGood_val v l hl hi k (by omega)]
  simp only [Option.bind_some]
  cases hg : goodB v l with
  | false => rfl
  | true =>
    obtain ⟨h0, h1, h60, _⟩ := goodB_facts hg
    rw [if_pos rfl, if_pos rfl, specSolve_val v l h0 h1 (good_litsV hg) (by omega) k (by omega)]
    rfl
theorem solveR_bounds (v : Int) (l : List (List Int)) : (solveR v l).2.1.length ≤ 12 ∧ (solveR v l).2.2.1.length ≤ 301 ∧ ∀ c ∈ (solveR v l).2.2.1, c.length ≤ 12 := by
  unfold solveR
  cases hg : goodB v l with
  | false => simp
  | true =>
    obtain ⟨h0, h1, h60, _⟩ := goodB_facts hg
    exact solveP_bounds h0 h1 (good_litsV hg) (by omega)

def proofOfR (v : Int) (l : List (List Int)) : List (List Int) × Bool := if (solveR v l).2.2.2 = true then (if (solveR v l).1 = true then ([], false) else ((solveR v l).2.2.1, true)) else ([], false)
theorem specProofOf_val (v : Int) (l : List (List Int)) (hl : l.length ≤ 1048576) (hi : ∀ x ∈ l, x.length ≤ 1048576) (k : Nat) (hk : 6000000 ≤ k) : spec_ProofOf.f k v l = some (proofOfR v l) := by
  unfold spec_ProofOf.f proofOfR
  rw [specSolveR_val v l hl hi k hk]
  simp only [Option.bind_some]
  split
  · split <;> rfl
  · rfl
theorem proofOfR_bounds (v : Int) (l : List (List Int)) : (proofOfR v l).1.length ≤ 301 ∧ ∀ c ∈ (proofOfR v l).1, c.length ≤ 12 := by
  obtain ⟨_, h1, h2⟩ := solveR_bounds v l
  unfold proofOfR
  split
  · split
    · simp
    · exact ⟨h1, h2⟩
  · simp

theorem copyRows_val (l : List (List Int)) (hl : l.length ≤ 1048576) (hi : ∀ x ∈ l, x.length ≤ 1048576) (k : Nat) (hk : 4000000 ≤ k) : spec_l5Copy.f k l = some l := copy_val l hl hi k (by omega)
theorem proofOf_ok {c : List Int} (hc : U8 c) (k : Nat) (hk : 9000000 ≤ k) : ∃ v l q p' s', spec_l1Cur_proofOf.f k c 0 0 = some (v, l, q, p', s') ∧ ClOk l 60 60 ∧ ClOk q 301 60 := by
  obtain ⟨v, l, p1, s1, e, a1, b1, hl, v0, v1⟩ := hard_ok hc 0 (p := 0) (by omega) (by omega) k (by omega)
  obtain ⟨hlb, hli⟩ := clOk_bounds hl (by omega) (by omega)
  unfold spec_l1Cur_proofOf.f
  rw [e]
  simp only [Option.bind_some]
  rw [specProofOf_val v l hlb hli k (by omega)]
  simp only [Option.bind_some]
  obtain ⟨hq1, hq2⟩ := proofOfR_bounds v l
  obtain ⟨⟨q, ok⟩, hq⟩ : ∃ q, q = proofOfR v l := ⟨_, rfl⟩
  rw [← hq] at hq1 hq2 ⊢
  simp only at hq1 hq2 ⊢
  have hqq : ClOk q 301 60 := ⟨hq1, fun x hx => by have := hq2 x hx; omega⟩
  have hj : ∀ (b : Bool) (p s : Int), 0 ≤ p → p ≤ 999999980000 → 1 < q.length → ∃ q' p' s', spec_l1Cur_proofOf.j0 k v l q b c p s = some (v, l, q', p', s') ∧ ClOk q' 301 60 := by
    intro b p s h0 h1 hlen
    obtain ⟨k, rfl⟩ : ∃ m, k = m + 1 := ⟨k - 1, by omega⟩
    simp only [spec_l1Cur_proofOf.j0]
    cases b with
    | false =>
      rw [if_neg Bool.false_ne_true]
      exact ⟨_, _, _, rfl, hqq⟩
    | true =>
      rw [if_pos rfl]
      obtain ⟨r, p2, s2, e2, a2, b2, r0, r1, _⟩ := pick_ok hc s (q.length : Int) h0 (by omega)
      replace r1 := r1 (by omega)
      rw [e2]
      simp only [Option.bind_some]
      rw [if_pos r0, if_pos (by omega), copyRows_val (q.take r.toNat) (by rw [List.length_take]; omega) (fun x hx => by have := hq2 x (List.mem_of_mem_take hx); omega) k (by omega)]
      simp only [Option.bind_some]
      rw [w64 (x := r + 1) (by omega) (by omega), if_pos (by omega), if_pos (by omega), if_pos (by rw [List.length_take, List.length_drop]; omega)]
      refine ⟨_, _, _, rfl, ?_, fun x hx => ?_⟩
      · rw [List.length_append, List.length_take, List.length_drop]
        omega
      · rcases List.mem_append.1 hx with hx | hx
        · have := hq2 x (List.mem_of_mem_take hx)
          omega
        · have := hq2 x (List.mem_of_mem_drop hx)
          omega
  cases ok with
  | false =>
    rw [if_neg Bool.false_ne_true]
    exact ⟨_, _, _, _, _, rfl, hl, by simp [ClOk]⟩
  | true =>
    rw [if_pos rfl]
    by_cases h1 : (q.length : Int) > 1
    · rw [if_pos h1]
      obtain ⟨b, p2, s2, e2, a2, b2⟩ := one_ok hc s1 3 (p := p1) (by omega) (by omega)
      rw [e2]
      simp only [Option.bind_some]
      obtain ⟨q', p', s', e', hq'⟩ := hj b p2 s2 (by omega) (by omega) (by omega)
      exact ⟨_, _, _, _, _, e', hl, hq'⟩
    · rw [if_neg h1]
      obtain ⟨k, rfl⟩ : ∃ m, k = m + 1 := ⟨k - 1, by omega⟩
      simp only [spec_l1Cur_proofOf.j0]
      rw [if_neg Bool.false_ne_true]
      exact ⟨_, _, _, _, _, rfl, hl, hqq⟩

theorem given_j1 {c : List Int} (hc : U8 c) (g : List Int) (hg : g.length ≤ 10) {p : Int} (s : Int) (h0 : 0 ≤ p) (h1 : p ≤ 999999980000) (k : Nat) (hk : 3000100 ≤ k) : ∃ g' p' s', spec_l1Cur_given.j1 k g c p s = some (g', p', s') ∧ g'.length ≤ 10 ∧ p ≤ p' ∧ p' ≤ p + 10 := by
  obtain ⟨k, rfl⟩ : ∃ m, k = m + 1 := ⟨k - 1, by omega⟩
  simp only [spec_l1Cur_given.j1]
  obtain ⟨r, b, e, hr⟩ := drawClean_ok g (by omega) k (by omega)
  rw [e]
  simp only [Option.bind_some]
  cases b with
  | false =>
    rw [if_neg Bool.false_ne_true]
    exact ⟨_, _, _, rfl, hg, by omega, by omega⟩
  | true =>
    rw [if_pos rfl]
    obtain ⟨b, p2, s2, e2, a2, b2⟩ := one_ok hc s 20 h0 (by omega)
    rw [e2]
    simp only [Option.bind_some]
    cases b with
    | true =>
      rw [if_pos rfl]
      exact ⟨_, _, _, rfl, hg, by omega, by omega⟩
    | false =>
      rw [if_neg Bool.false_ne_true]
      exact ⟨_, _, _, rfl, by omega, by omega, by omega⟩
theorem given_l0 {c : List Int} (hc : U8 c) (v : Int) : ∀ (n : Nat) (g : List Int) (k : Nat) (p s : Int), g.length + n ≤ 10 → 0 ≤ p → p + 4 * n ≤ 999999970000 → 3000200 + n ≤ k → ∃ g' p' s', spec_l1Cur_given.l0 k v g n c p s = some (g', p', s') ∧ g'.length ≤ 10 ∧ p ≤ p' ∧ p' ≤ p + 4 * n + 10
  | 0, g, k, p, s, hg, h0, h1, hk => by
    obtain ⟨k, rfl⟩ : ∃ m, k = m + 1 := ⟨k - 1, by omega⟩
    simp only [spec_l1Cur_given.l0]
    rw [if_neg (by omega)]
    obtain ⟨g', p', s', e, a, b, d⟩ := given_j1 hc g (by omega) s h0 (by omega) k (by omega)
    exact ⟨g', p', s', e, a, b, by omega⟩
  | n + 1, g, k, p, s, hg, h0, h1, hk => by
    obtain ⟨k, rfl⟩ : ∃ m, k = m + 1 := ⟨k - 1, by omega⟩
    simp only [spec_l1Cur_given.l0]
    rw [if_pos (by omega)]
    by_cases hv : v > 0
    · rw [if_pos hv]
      obtain ⟨r, p1, s1, e, a1, b1⟩ := lit_ok hc s v h0 (by omega)
      rw [e]
      simp only [Option.bind_some]
      rw [if_pos (by omega), show wrap64 (((n + 1 : Nat) : Int) - 1) = (n : Int) by rw [w64 (by omega) (by omega)]; omega]
      obtain ⟨g', p', s', e', a', b', d'⟩ := given_l0 hc v n (g ++ [r]) k p1 s1 (by simp; omega) (by omega) (by omega) (by omega)
      exact ⟨g', p', s', e', a', by omega, by omega⟩
    · rw [if_neg hv]
      obtain ⟨g', p', s', e, a, b, d⟩ := given_j1 hc g (by omega) s h0 (by omega) k (by omega)
      exact ⟨g', p', s', e, a, b, by omega⟩
theorem given_ok {c : List Int} (hc : U8 c) (v : Int) {p : Int} (s : Int) (h0 : 0 ≤ p) (h1 : p ≤ 999999960000) (k : Nat) (hk : 3000300 ≤ k) : ∃ g' p' s', spec_l1Cur_given.f k c p s v = some (g', p', s') ∧ g'.length ≤ 10 ∧ p ≤ p' ∧ p' ≤ p + 100 := by
  unfold spec_l1Cur_given.f
  obtain ⟨r, p1, s1, e, a1, b1, r0, r1, _⟩ := pick_ok hc s 3 h0 (by omega)
  replace r1 := r1 (by omega)
  obtain ⟨n, rfl⟩ : ∃ n : Nat, r = n := ⟨r.toNat, by omega⟩
  rw [e]
  simp only [Option.bind_some]
  obtain ⟨g', p', s', e', a', b', d'⟩ := given_l0 hc v n [] k p1 s1 (by simp; omega) (by omega) (by omega) (by omega)
  exact ⟨g', p', s', e', a', by omega, by omega⟩
theorem drawPropagate_ok {c : List Int} (hc : U8 c) (k : Nat) (hk : 3000400 ≤ k) : ∃ v l g, spec_DrawPropagate.f k c = some (v, l, g) ∧ ClOk l 14 60 ∧ g.length ≤ 10 ∧ 0 ≤ v ∧ v ≤ 13 := by
  unfold spec_DrawPropagate.f
  obtain ⟨v, l, p1, s1, e, a1, b1, hl, v0, v1⟩ := clauses_ok hc 0 (p := 0) (by omega) (by omega) k (by omega)
  obtain ⟨g, p2, s2, e2, hg, _, _⟩ := given_ok hc v s1 (p := p1) (by omega) (by omega) k (by omega)
  rw [e]
  simp only [Option.bind_some]
  rw [e2]
  exact ⟨v, l, g, rfl, hl, hg, v0, v1⟩

theorem specResolve_1 (v : Int) (l : List Int) (hl : l.length ≤ 1000) : ∀ (d i k : Nat) (acc : List Int), i + d = l.length → acc.length + d ≤ 2000 → d + 3000001 ≤ k →
    spec_l4Resolve.l1 k v acc l (l.length : Int) (i : Int) = (let y := acc ++ (l.drop i).filter fun x => !(x == wrap64 (-v)); if (y.length : Int) > 40 then some ([], false) else some (cleanS [] y)) := by
  intro d
  induction d with
  | zero =>
    intro i k acc h1 h2 hk
    obtain ⟨k, rfl⟩ : ∃ m, k = m + 1 := ⟨k - 1, by omega⟩
    rw [spec_l4Resolve.l1, if_neg (by omega), List.drop_of_length_le (by omega), cleanClause_spec acc k (by omega)]
    simp only [List.filter_nil, List.append_nil]
    split <;> simp
  | succ d ih =>
    intro i k acc h1 h2 hk
    obtain ⟨k, rfl⟩ : ∃ m, k = m + 1 := ⟨k - 1, by omega⟩
    have hi : i < l.length := by omega
    rw [spec_l4Resolve.l1, if_pos (by omega), if_pos (by omega), if_pos (by omega), rd_nat l i hi, next64 (by omega), if_pos (show acc.length < 17592186044416 by omega), drop_at l i hi]
    rw [ih (i + 1) k acc (by omega) (by omega) (by omega), ih (i + 1) k (acc ++ [l[i]]) (by omega) (by simp; omega) (by omega)]
    by_cases e : l[i] = wrap64 (-v)
    · rw [if_pos e, List.filter_cons_of_neg (by simp [e])]
    · rw [if_neg e, List.filter_cons_of_pos (by simp [e])]
      simp only [List.append_assoc, List.singleton_append]
theorem specResolve_0 (v : Int) (l m : List Int) (hl : l.length ≤ 1000) (hm : m.length ≤ 1000) : ∀ (d i k : Nat) (acc : List Int), i + d = l.length → acc.length + d ≤ 1000 → d + 3002001 ≤ k →
    spec_l4Resolve.l0 k m v acc l (l.length : Int) (i : Int) = (let y := acc ++ (l.drop i).filter (fun x => !(x == v)) ++ m.filter fun x => !(x == wrap64 (-v)); if (y.length : Int) > 40 then some ([], false) else some (cleanS [] y)) := by
  intro d
  induction d with
  | zero =>
    intro i k acc h1 h2 hk
    obtain ⟨k, rfl⟩ : ∃ m, k = m + 1 := ⟨k - 1, by omega⟩
    rw [spec_l4Resolve.l0, if_neg (by omega), List.drop_of_length_le (by omega)]
    have := specResolve_1 v m hm m.length 0 k acc (by omega) (by omega) (by omega)
    simp only [List.filter_nil, List.append_nil]
    simpa using this
  | succ d ih =>
    intro i k acc h1 h2 hk
    obtain ⟨k, rfl⟩ : ∃ m, k = m + 1 := ⟨k - 1, by omega⟩
    have hi : i < l.length := by omega
    rw [spec_l4Resolve.l0, if_pos (by omega), if_pos (by omega), if_pos (by omega), rd_nat l i hi, next64 (by omega), if_pos (show acc.length < 17592186044416 by omega), drop_at l i hi]
    rw [ih (i + 1) k acc (by omega) (by omega) (by omega), ih (i + 1) k (acc ++ [l[i]]) (by omega) (by simp; omega) (by omega)]
    by_cases e : l[i] = v
    · rw [if_pos e, List.filter_cons_of_neg (by simp [e])]
    · rw [if_neg e, List.filter_cons_of_pos (by simp [e])]
      simp only [List.append_assoc, List.cons_append, List.nil_append]
theorem specResolve_some (l m : List Int) (v : Int) (hl : l.length ≤ 1048576) (hm : m.length ≤ 1048576) (k : Nat) (hk : 5000000 ≤ k) : ∃ r : List Int × Bool, spec_Resolve.f k l m v = some r ∧ r.1.length ≤ 1048576 := by
  unfold spec_Resolve.f
  rw [clause_val 12 (by omega) (by omega) l hl k (by omega), clause_val 12 (by omega) (by omega) m hm k (by omega)]
  simp only [Option.bind_some]
  cases h0 : isClauseB l 12 with
  | false => exact ⟨_, rfl, by simp⟩
  | true =>
    cases h1 : isClauseB m 12 with
    | false => exact ⟨_, rfl, by simp⟩
    | true =>
      obtain ⟨hl12, _⟩ := isClause_facts h0
      obtain ⟨hm12, _⟩ := isClause_facts h1
      simp only [if_true]
      rw [specIn_val]
      simp only [Option.bind_some]
      cases (decide (1 ≤ v) && decide (v ≤ 12)) with
      | false => exact ⟨_, rfl, by simp⟩
      | true =>
        simp only [if_true]
        rw [has_val l v (by omega) k (by omega)]
        simp only [Option.bind_some]
        cases l.any (· == v) with
        | false => exact ⟨_, rfl, by simp⟩
        | true =>
          simp only [if_true]
          rw [has_val m _ (by omega) k (by omega)]
          simp only [Option.bind_some]
          cases m.any (· == wrap64 (-v)) with
          | false => exact ⟨_, rfl, by simp⟩
          | true =>
            simp only [if_true]
            have h := specResolve_0 v l m (by omega) (by omega) l.length 0 k [] (by omega) (by simp; omega) (by omega)
            rw [show ((0 : Nat) : Int) = 0 from rfl] at h
            unfold spec_l4Resolve.f
            rw [h]
            have e1 := List.length_filter_le (fun z => !(z == v)) l
            have e2 := List.length_filter_le (fun z => !(z == wrap64 (-v))) m
            simp only [List.drop_zero, List.nil_append]
            split
            · exact ⟨_, rfl, by simp⟩
            · have := cleanS_length ((l.filter fun z => !(z == v)) ++ (m.filter fun z => !(z == wrap64 (-v)))) []
              rw [List.length_append, List.length_nil] at this
              exact ⟨_, rfl, by simp only; omega⟩

def atOnceB (l : List (List Int)) (c : List Int) : Bool := (propP l (negL c)).2
/-- The place of the first clause that does not follow, of those that are not dropped. -/
def checkD : List (List Int) → List Bool → List (List Int) → Int → Option Int
  | [], _, _, _ => none
  | c :: r, ds, all, i => match ds.headD false with
    | true => checkD r ds.tail all (i + 1)
    | false => match atOnceB all c with
      | true => checkD r ds.tail (all ++ [c]) (i + 1)
      | false => some i
def lastEmpty (p : List (List Int)) : Bool := match p.getLast? with | some c => c.length == 0 | none => false
def checkR (l p : List (List Int)) (ds : List Bool) : Bool × Int := match checkD p ds l 0 with | some i => (false, i) | none => (lastEmpty p, (p.length : Int))
theorem lastEmpty_at (p : List (List Int)) (h : 0 < p.length) : lastEmpty p = (p[p.length - 1].length == 0) := by
  unfold lastEmpty
  rw [List.getLast?_eq_getElem?, List.getElem?_eq_getElem (by omega)]
theorem litsOk_snoc {l : List (List Int)} {c : List Int} (h : LitsOk l) (hc : c.length ≤ 1000 ∧ ∀ n ∈ c, n ≠ 0 ∧ -12 ≤ n ∧ n ≤ 12) : LitsOk (l ++ [c]) := fun x hx => (List.mem_append.1 hx).elim (h x) (fun hx => by
  have : x = c := by simpa using hx
  exact this ▸ hc)
theorem checkD_none : ∀ (p : List (List Int)) (n : Nat) (all : List (List Int)) (i : Int), checkD p (List.replicate n false) all i = checkD p [] all i
  | [], _, _, _ => rfl
  | c :: r, n, all, i => by
    rw [checkD, checkD]
    have h1 : (List.replicate n false).headD false = false := by cases n <;> rfl
    have h2 : (List.replicate n false).tail = List.replicate (n - 1) false := by cases n <;> rfl
    rw [h1, h2]
    simp only [checkD_none r, List.headD_nil, List.tail_nil]
/-- A truth for each literal, the two of a variable told apart. -/
def Asg (a : Int → Bool) : Prop := ∀ n : Int, n ≠ 0 → -12 ≤ n → n ≤ 12 → a (-n) = !(a n)
def LitsC (c : List Int) : Prop := ∀ n ∈ c, n ≠ 0 ∧ -12 ≤ n ∧ n ≤ 12
theorem asg_lit (m : List Bool) : Asg (litAt m) := by
  intro n h0 h1 h2
  have e1 : vab (-n) = vab n := by
    rw [vab_abs (by omega) (by omega), vab_abs h1 h2]
    split <;> split <;> omega
  unfold litAt
  rw [e1]
  rcases Int.lt_or_gt_of_ne h0 with h | h
  · rw [decide_eq_true (show 0 < -n by omega), decide_eq_false (show ¬ 0 < n by omega)]
    cases rdOf false m (vab n - 1) <;> rfl
  · rw [decide_eq_false (show ¬ 0 < -n by omega), decide_eq_true (show 0 < n by omega)]
    cases rdOf false m (vab n - 1) <;> rfl
theorem holds_iff {l : List (List Int)} {m : List Bool} : holdsB l m = true ↔ ∀ c ∈ l, c.any (litAt m) = true := by
  unfold holdsB
  rw [List.all_eq_true]

theorem meets_iff {c out : List Int} : meetsB c out = true ↔ ∃ n, n ∈ c ∧ n ∈ out := by
  unfold meetsB
  rw [List.any_eq_true]
  constructor
  · rintro ⟨n, hn, h⟩
    rw [any_flip] at h
    exact ⟨n, hn, hasB_mem.1 h⟩
  · rintro ⟨n, hn, h⟩
    exact ⟨n, hn, by rw [any_flip]; exact hasB_mem.2 h⟩
theorem without_mem {c out : List Int} {n : Int} (h : -12 ≤ n ∧ n ≤ 12) : n ∈ withoutL c out ↔ n ∈ c ∧ -n ∉ out := by
  unfold withoutL
  rw [List.mem_filter, any_flip, neg64 (by omega) (by omega)]
  refine and_congr_right fun _ => ?_
  rw [← hasB_mem]
  unfold hasB
  cases out.any (· == -n) <;> simp
theorem unit_sound {a : Int → Bool} (ha : Asg a) {out c : List Int} (hc : LitsC c) (ho : ∀ x ∈ out, a x = true) (hs : c.any a = true) : (unitP out c).2 = false ∧ ((unitP out c).1 ≠ 0 → a (unitP out c).1 = true) := by
  obtain ⟨n, hn, han⟩ := List.any_eq_true.1 hs
  obtain ⟨n0, n1, n2⟩ := hc n hn
  have hw : n ∈ withoutL c out := (without_mem ⟨n1, n2⟩).2 ⟨hn, fun h => by
    have := ho _ h
    rw [ha n n0 n1 n2, han] at this
    cases this⟩
  cases hm : meetsB c out with
  | true =>
    have hu : unitP out c = (0, false) := by unfold unitP; rw [hm]; rfl
    rw [hu]
    exact ⟨rfl, fun h => absurd rfl h⟩
  | false =>
    match hw2 : withoutL c out with
    | [] => rw [hw2] at hw; cases hw
    | [x] =>
      have hu : unitP out c = (x, false) := by unfold unitP; rw [hm, hw2]; rfl
      rw [hw2] at hw
      have : n = x := by simpa using hw
      subst this
      rw [hu]
      exact ⟨rfl, fun _ => han⟩
    | x :: y :: t =>
      have hu : unitP out c = (0, false) := by unfold unitP; rw [hm, hw2]; rfl
      rw [hu]
      exact ⟨rfl, fun h => absurd rfl h⟩
theorem scan_sound {a : Int → Bool} (ha : Asg a) {out : List Int} (ho : ∀ x ∈ out, a x = true) : ∀ (l : List (List Int)), (∀ c ∈ l, LitsC c) → (∀ c ∈ l, c.any a = true) → scanC out l ≠ some none ∧ ∀ x, scanC out l = some (some x) → a x = true
  | [], _, _ => by simp [scanC]
  | c :: r, hl, hs => by
    obtain ⟨h1, h2⟩ := unit_sound ha (hl c List.mem_cons_self) ho (hs c List.mem_cons_self)
    unfold scanC
    rw [h1, if_neg Bool.false_ne_true]
    by_cases h0 : (unitP out c).1 = 0
    · rw [if_pos h0]
      exact scan_sound ha ho r (fun c' h' => hl c' (List.mem_cons_of_mem _ h')) (fun c' h' => hs c' (List.mem_cons_of_mem _ h'))
    · rw [if_neg h0]
      refine ⟨by simp, fun x hx => ?_⟩
      injection hx with hx
      injection hx with hx
      subst hx
      exact h2 h0
theorem prop_sound {a : Int → Bool} (ha : Asg a) {l : List (List Int)} (hl : ∀ c ∈ l, LitsC c) (hs : ∀ c ∈ l, c.any a = true) : ∀ (f : Nat) (out : List Int), (∀ x ∈ out, a x = true) → (propL l f out).2 = false ∧ ∀ x ∈ (propL l f out).1, a x = true
  | 0, out, ho => ⟨rfl, ho⟩
  | f + 1, out, ho => by
    obtain ⟨h1, h2⟩ := scan_sound ha ho l hl hs
    unfold propL
    match hsc : scanC out l with
    | none => exact ⟨rfl, ho⟩
    | some none => exact absurd hsc h1
    | some (some x) =>
      exact prop_sound ha hl hs f (out ++ [x]) (fun y hy => by
        rcases List.mem_append.1 hy with hy | hy
        · exact ho y hy
        · have : y = x := by simpa using hy
          exact this ▸ h2 x hsc)
/-- The propagation ends where nothing is left to find. -/
theorem prop_fix {l : List (List Int)} (hl : LitsOk l) : ∀ (f : Nat) (out : List Int), freeV out < f → (propL l f out).2 = false → scanC (propL l f out).1 l = none
  | 0, _, h, _ => by omega
  | f + 1, out, h, h2 => by
    unfold propL at h2 ⊢
    match hs : scanC out l with
    | none => exact hs
    | some none => rw [hs] at h2; cases h2
    | some (some x) =>
      rw [hs] at h2
      obtain ⟨a, b, c, d, e⟩ := scan_lit out l x hl hs
      have := freeV_lt out x a b c d e
      exact prop_fix hl f (out ++ [x]) (by omega) h2
theorem scan_none {out : List Int} : ∀ {l : List (List Int)}, scanC out l = none → ∀ c ∈ l, unitP out c = (0, false)
  | [], _ => by simp
  | c :: r, h => by
    unfold scanC at h
    split at h
    · cases h
    · rename_i h1
      split at h
      · rename_i h2
        intro c' hc'
        rcases List.mem_cons.1 hc' with rfl | hc'
        · exact Prod.ext h2 (by simpa using h1)
        · exact scan_none h c' hc'
      · cases h
theorem unit_full {out c : List Int} (hc : LitsC c) (hall : ∀ n ∈ c, n ∈ out ∨ -n ∈ out) (hu : unitP out c = (0, false)) : ∃ n ∈ c, n ∈ out := by
  cases hm : meetsB c out with
  | true => exact meets_iff.1 hm
  | false =>
    have hw : withoutL c out = [] := by
      rw [List.eq_nil_iff_forall_not_mem]
      intro n hn
      have hnc : n ∈ c := by
        unfold withoutL at hn
        exact (List.mem_filter.1 hn).1
      obtain ⟨_, h1, h2⟩ := hc n hnc
      obtain ⟨_, h3⟩ := (without_mem ⟨h1, h2⟩).1 hn
      rcases hall n hnc with h | h
      · have : meetsB c out = true := meets_iff.2 ⟨n, hnc, h⟩
        rw [hm] at this
        cases this
      · exact h3 h
    unfold unitP at hu
    rw [hm, hw] at hu
    simp at hu

theorem negL_mem {c : List Int} (hc : LitsC c) {x : Int} : x ∈ negL c ↔ -x ∈ c := by
  unfold negL
  rw [List.mem_map]
  constructor
  · rintro ⟨n, hn, rfl⟩
    obtain ⟨_, h1, h2⟩ := hc n hn
    rw [neg64 (by omega) (by omega), Int.neg_neg]
    exact hn
  · intro h
    obtain ⟨_, h1, h2⟩ := hc _ h
    exact ⟨-x, h, by rw [neg64 (by omega) (by omega), Int.neg_neg]⟩
theorem any_neg {a : Int → Bool} (ha : Asg a) {c : List Int} (hc : LitsC c) (h : c.any a = false) : ∀ x ∈ negL c, a x = true := by
  intro x hx
  have hx' := (negL_mem hc).1 hx
  obtain ⟨h0, h1, h2⟩ := hc _ hx'
  have := List.any_eq_false.1 h _ hx'
  have e := ha (-x) h0 h1 h2
  rw [Int.neg_neg] at e
  rw [e]
  simpa using this
theorem atOnce_sound {a : Int → Bool} (ha : Asg a) {l : List (List Int)} (hl : ∀ c ∈ l, LitsC c) (hs : ∀ c ∈ l, c.any a = true) {c : List Int} (hc : LitsC c) (h : atOnceB l c = true) : c.any a = true := by
  cases hca : c.any a with
  | true => rfl
  | false =>
    have := (prop_sound ha hl hs 13 (negL c) (any_neg ha hc hca)).1
    unfold atOnceB propP at h
    rw [this] at h
    cases h
theorem modelZ_lit {v : Nat} (hv : v ≤ 12) {out : List Int} (hc : Cons out) {n : Int} (h0 : n ≠ 0) (h1 : -(v : Int) ≤ n) (h2 : n ≤ (v : Int)) (hn : n ∈ out) : litAt (modelZ v out) n = true := by
  unfold litAt rdOf
  rw [vab_abs (by omega) (by omega), List.getD_eq_getElem?_getD]
  rcases Int.lt_or_gt_of_ne h0 with h | h
  · rw [if_neg (by omega), modelZ_at v out _ (by omega), show (((-n - 1).toNat : Nat) : Int) + 1 = -n by omega, hc n hn, decide_eq_false (by omega)]
    rfl
  · rw [if_pos (by omega), modelZ_at v out _ (by omega), show (((n - 1).toNat : Nat) : Int) + 1 = n by omega, hasB_mem.2 hn, decide_eq_true (by omega)]
    rfl
/-- What the search for a model comes to. -/
theorem solveL_true (v : Int) (l : List (List Int)) : ∀ (f : Nat) (n : List (List Int)) (d : List Int), SolveOk v l n d → solveM n d < f → (solveL v l f n d).1 = true → (solveL v l f n d).2.1.length = v.toNat ∧ (solveL v l f n d).2.2.2 = true ∧ holdsB l (solveL v l f n d).2.1 = true
  | 0, n, d, h, hm, _ => by omega
  | f + 1, n, d, h, hm, hr => by
    have hnl := h.nl
    rw [solveL] at hr ⊢
    cases hb : (propP (l ++ n) d).2 with
    | true =>
      rw [hb] at hr
      rw [if_pos rfl] at hr ⊢
      by_cases h3 : n.length = 300
      · rw [if_pos h3] at hr
        cases hr
      · rw [if_neg h3] at hr ⊢
        by_cases h0 : d = []
        · rw [if_pos h0] at hr
          cases hr
        · rw [if_neg h0] at hr ⊢
          exact solveL_true v l f _ _ (h.learn (by omega)) (by have := solveM_learn h h0; omega) hr
    | false =>
      rw [hb] at hr
      rw [if_neg Bool.false_ne_true] at hr ⊢
      by_cases hx : firstV (propP (l ++ n) d).1 v.toNat 1 = 0
      · rw [if_pos hx]
        have hv0 := h.v0
        have hv1 := h.v1
        refine ⟨modelZ_length _ _, rfl, holds_iff.2 fun c hc => ?_⟩
        have hfix := prop_fix h.all 13 d (by have := freeV_le d; omega) hb
        have hu := scan_none hfix c (List.mem_append_left _ hc)
        have hlc : LitsC c := fun y hy => ((h.all) c (List.mem_append_left _ hc)).2 y hy
        have hvc := (h.lv c hc).2
        obtain ⟨y, hy, hyo⟩ := unit_full hlc (fun y hy => by
          obtain ⟨a0, a1, a2⟩ := hvc y hy
          rcases Int.lt_or_gt_of_ne a0 with h' | h'
          · have := firstV_none (propP (l ++ n) d).1 v.toNat 1 (by omega) hx (-y) (by omega) (by omega)
            rw [Int.neg_neg] at this
            rcases this with h'' | h''
            · exact .inr (hasB_mem.1 h'')
            · exact .inl (hasB_mem.1 h'')
          · have := firstV_none (propP (l ++ n) d).1 v.toNat 1 (by omega) hx y (by omega) (by omega)
            rcases this with h'' | h''
            · exact .inl (hasB_mem.1 h'')
            · exact .inr (hasB_mem.1 h'')) hu
        obtain ⟨a0, a1, a2⟩ := hvc y hy
        exact List.any_eq_true.2 ⟨y, hy, modelZ_lit (by omega) (propL_cons _ h.all 13 d (dec_cons h.dd)) a0 (by omega) (by omega) hyo⟩
      · rw [if_neg hx] at hr ⊢
        exact solveL_true v l f _ _ (h.decide hx) (by have := solveM_decide h (firstV (propP (l ++ n) d).1 v.toNat 1); omega) hr
theorem good_litsC {v : Int} {l : List (List Int)} (h : goodB v l = true) : ∀ c ∈ l, LitsC c := fun c hc n hn => ((good_litsOk h) c hc).2 n hn
theorem rdB_nat (l : List Bool) (i : Nat) (h : i < l.length) : rdOf false l (i : Int) = l[i] := by
  unfold rdOf
  rw [List.getD_eq_getElem?_getD, show ((i : Int).toNat) = i by omega, List.getElem?_eq_getElem h]
  rfl

theorem specAtOnce_val (l : List (List Int)) (c : List Int) (hl : LitsOk l) (hn : l.length ≤ 10000) (hc : c.length ≤ 1000) (k : Nat) (hk : 3000000 ≤ k) : spec_l6AtOnce.f k l c = some (atOnceB l c) := by
  unfold spec_l6AtOnce.f atOnceB negL
  rw [negate_val c (by omega) k (by omega)]
  simp only [Option.bind_some]
  rw [specProp_val l hl hn _ (by simp; omega) k (by omega)]
  rfl
theorem implAtOnce_val (l : List (List Int)) (c : List Int) (hl : LitsOk l) (hn : l.length ≤ 10000) (hc : c.length ≤ 1000) (k : Nat) (hk : 3000000 ≤ k) : impl_atOnce.f k l c = some (atOnceB l c) := by
  unfold impl_atOnce.f atOnceB negL
  rw [learn_val c (by omega) k (by omega)]
  simp only [Option.bind_some]
  rw [implProp_val l hl hn _ (by simp; omega) k (by omega)]
  rfl
theorem headD_drop (ds : List Bool) (i : Nat) (h : i < ds.length) : (ds.drop i).headD false = ds[i] := by
  rw [List.drop_eq_getElem_cons h]
  rfl
theorem tail_drop (ds : List Bool) (i : Nat) : (ds.drop i).tail = ds.drop (i + 1) := List.tail_drop
theorem specCheck_l (p : List (List Int)) (ds : List Bool) (hp : LitsOk p) (hn : p.length ≤ 1000) (hd : ds.length = p.length) : ∀ (d i k : Nat) (all : List (List Int)), i + d = p.length → all.length + d ≤ 10000 → LitsOk all → d + 4000000 ≤ k →
    spec_l6Check.l0 k p ds all p (p.length : Int) (i : Int) = some (match checkD (p.drop i) (ds.drop i) all (i : Int) with | some j => (false, j) | none => (lastEmpty p, (p.length : Int)))
  | 0, i, k, all, h1, h2, h3, hk => by
    obtain ⟨k, rfl⟩ : ∃ m, k = m + 1 := ⟨k - 1, by omega⟩
    simp only [spec_l6Check.l0]
    rw [if_neg (by omega), List.drop_of_length_le (by omega)]
    simp only [checkD]
    by_cases h0 : 0 < p.length
    · have e : wrap64 ((p.length : Int) - 1) = ((p.length - 1 : Nat) : Int) := by rw [w64 (by omega) (by omega)]; omega
      rw [if_pos (by omega), e, if_pos (by omega), if_pos (by omega), rdL_nat p (p.length - 1) (by omega), lastEmpty_at p h0]
      congr 2
      rw [Bool.eq_iff_iff]
      simp
    · rw [if_neg (by omega)]
      obtain rfl : p = [] := List.eq_nil_of_length_eq_zero (by omega)
      rfl
  | d + 1, i, k, all, h1, h2, h3, hk => by
    obtain ⟨k, rfl⟩ : ∃ m, k = m + 1 := ⟨k - 1, by omega⟩
    have hil : i < p.length := by omega
    have hcl := hp p[i] (List.getElem_mem _)
    simp only [spec_l6Check.l0]
    rw [if_pos (by omega), if_pos (by omega), if_pos (by omega), if_pos (by omega), rdB_nat ds i (by omega), rdL_nat p i hil, next64 (by omega), List.drop_eq_getElem_cons hil, checkD, headD_drop ds i (by omega), tail_drop]
    cases hdi : ds[i] with
    | true =>
      rw [if_pos rfl, specCheck_l p ds hp hn hd d (i + 1) k all (by omega) (by omega) h3 (by omega)]
      rfl
    | false =>
      rw [if_neg Bool.false_ne_true, specAtOnce_val all p[i] h3 (by omega) hcl.1 k (by omega)]
      simp only [Option.bind_some]
      cases hat : atOnceB all p[i] with
      | false => simp
      | true =>
        rw [if_pos rfl, if_pos (by omega), specCheck_l p ds hp hn hd d (i + 1) k (all ++ [p[i]]) (by omega) (by simp; omega) (litsOk_snoc h3 hcl) (by omega)]
        rfl
theorem specCheck_val (l p : List (List Int)) (ds : List Bool) (hl : LitsOk l) (hln : l.length ≤ 1000) (hp : LitsOk p) (hn : p.length ≤ 1000) (hd : ds.length = p.length) (k : Nat) (hk : 5000000 ≤ k) : spec_l6Check.f k l p ds = some (checkR l p ds) := by
  unfold spec_l6Check.f
  rw [copy_val l (by omega) (fun x hx => by have := (hl x hx).1; omega) k (by omega)]
  simp only [Option.bind_some]
  have := specCheck_l p ds hp hn hd p.length 0 k l (by omega) (by omega) hl (by omega)
  simp only [List.drop_zero] at this
  exact this
theorem rowIn_nat (l : List (List Int)) (i : Nat) (h : i < l.length) : rowIn_ l (i : Int) = l[i] := by
  unfold rowIn_
  rw [List.getD_eq_getElem?_getD, show ((i : Int).toNat) = i by omega, List.getElem?_eq_getElem h]
  rfl
theorem implCheck_l (p : List (List Int)) (hp : LitsOk p) (hn : p.length ≤ 1000) : ∀ (d i k : Nat) (all : List (List Int)), i + d = p.length → all.length + d ≤ 10000 → LitsOk all → d + 4000000 ≤ k →
    impl_check.l0 k p all (i : Int) = some (match checkD (p.drop i) [] all (i : Int) with | some j => (false, j) | none => (lastEmpty p, (p.length : Int)))
  | 0, i, k, all, h1, h2, h3, hk => by
    obtain ⟨k, rfl⟩ : ∃ m, k = m + 1 := ⟨k - 1, by omega⟩
    simp only [impl_check.l0]
    rw [if_neg (by omega), List.drop_of_length_le (by omega)]
    simp only [checkD]
    by_cases h0 : 0 < p.length
    · have e : ((p.length : Int) - 1) = ((p.length - 1 : Nat) : Int) := by omega
      rw [decide_eq_true h0, e, rowIn_nat p (p.length - 1) (by omega), lastEmpty_at p h0, Bool.true_and]
    · obtain rfl : p = [] := List.eq_nil_of_length_eq_zero (by omega)
      rfl
  | d + 1, i, k, all, h1, h2, h3, hk => by
    obtain ⟨k, rfl⟩ : ∃ m, k = m + 1 := ⟨k - 1, by omega⟩
    have hil : i < p.length := by omega
    have hcl := hp p[i] (List.getElem_mem _)
    simp only [impl_check.l0]
    rw [if_pos (by omega), if_pos (by omega), rowIn_nat p i hil, next64 (by omega), List.drop_eq_getElem_cons hil, checkD, implAtOnce_val all p[i] h3 (by omega) hcl.1 k (by omega)]
    simp only [Option.bind_some, List.headD_nil, List.tail_nil]
    cases hat : atOnceB all p[i] with
    | false => simp
    | true =>
      rw [if_pos rfl, if_pos (by omega), implCheck_l p hp hn d (i + 1) k (all ++ [p[i]]) (by omega) (by simp; omega) (litsOk_snoc h3 hcl) (by omega)]
      rfl
theorem implCheck_val (l p : List (List Int)) (hl : LitsOk l) (hln : l.length ≤ 1000) (hp : LitsOk p) (hn : p.length ≤ 1000) (k : Nat) (hk : 5000000 ≤ k) : impl_check.f k l p = some (checkR l p []) := by
  unfold impl_check.f
  rw [if_pos (by omega)]
  have := implCheck_l p hp hn p.length 0 k l (by omega) (by omega) hl (by omega)
  simp only [List.drop_zero] at this
  exact this

def goodN (v : Int) (l : List (List Int)) (most : Nat) : Bool := (decide (0 ≤ v) && decide (v ≤ 12)) && (decide (l.length ≤ most) && l.all fun x => isClauseB x v)
theorem specGoodN_val (v : Int) (l : List (List Int)) (most : Nat) (hl : l.length ≤ 1048576) (hi : ∀ x ∈ l, x.length ≤ 1048576) (k : Nat) (hk : 5000000 ≤ k) : spec_l4Good.f k v l (most : Int) = some (goodN v l most) := by
  obtain ⟨k, rfl⟩ : ∃ m, k = m + 1 := ⟨k - 1, by omega⟩
  unfold spec_l4Good.f goodN
  rw [specIn_val]
  simp only [Option.bind_some, spec_l4Good.j0]
  by_cases hv : 0 ≤ v ∧ v ≤ 12
  · rw [show (decide (0 ≤ v) && decide (v ≤ 12)) = true by simp [hv.1, hv.2], if_pos rfl]
    by_cases h60 : l.length ≤ most
    · have : decide ((l.length : Int) > (most : Int)) = false := decide_eq_false (by omega)
      rw [this, if_neg Bool.false_ne_true]
      have h := good_l v hv.1 hv.2 l hl hi l.length 0 k (by omega) (by omega)
      simp only [List.drop_zero] at h
      rw [show ((0 : Nat) : Int) = 0 from rfl] at h
      rw [h]
      simp [h60]
    · have : decide ((l.length : Int) > (most : Int)) = true := decide_eq_true (by omega)
      rw [this]
      first | rw [if_pos rfl] | rw [if_true]
      simp [h60]
  · have hd : (decide (0 ≤ v) && decide (v ≤ 12)) = false := by
      rw [Bool.and_eq_false_iff]
      rcases Int.lt_or_le v 0 with h | h
      · exact .inl (decide_eq_false (by omega))
      · exact .inr (decide_eq_false (by omega))
    rw [hd, if_neg Bool.false_ne_true]
    first | rw [if_pos rfl] | rw [if_true]
    rfl
theorem goodN_facts {v : Int} {l : List (List Int)} {most : Nat} (h : goodN v l most = true) : 0 ≤ v ∧ v ≤ 12 ∧ l.length ≤ most ∧ ∀ c ∈ l, isClauseB c v = true := by
  unfold goodN at h
  simp only [Bool.and_eq_true, decide_eq_true_eq, List.all_eq_true] at h
  exact ⟨h.1.1, h.1.2, h.2.1, h.2.2⟩
theorem goodN_lits {v : Int} {l : List (List Int)} {most : Nat} (h : goodN v l most = true) : ∀ c ∈ l, c.length ≤ 12 ∧ ∀ n ∈ c, n ≠ 0 ∧ -v ≤ n ∧ n ≤ v := by
  obtain ⟨h0, h1, _, h2⟩ := goodN_facts h
  intro c hc
  obtain ⟨a, b⟩ := isClause_facts (h2 c hc)
  exact ⟨a, fun n hn => litB_small h0 h1 (b n hn)⟩
theorem goodN_litsOk {v : Int} {l : List (List Int)} {most : Nat} (h : goodN v l most = true) : LitsOk l := by
  obtain ⟨h0, h1, _, _⟩ := goodN_facts h
  intro c hc
  obtain ⟨a, b⟩ := goodN_lits h c hc
  exact ⟨by omega, fun n hn => by have := b n hn; omega⟩
theorem implIsProof_val (v : Int) (l p : List (List Int)) : impl_isProof.f v l p = some (goodB v l && goodN v p 300) := by
  unfold impl_isProof.f impl_areClauses.f
  rw [implGood_val]
  simp only [Option.bind_some]
  cases hg : goodB v l with
  | false => rfl
  | true =>
    obtain ⟨h0, h1, _, _⟩ := goodB_facts hg
    simp only [if_true, Bool.true_and]
    unfold goodN
    rw [decide_eq_true h0, decide_eq_true h1]
    by_cases h : p.length ≤ 300
    · rw [if_pos (by omega), decide_eq_true h, List.not_any_eq_all_not]
      simp
    · rw [if_neg (by omega), decide_eq_false h]
      simp
/-- What CheckProof returns. -/
def checkProofR (v : Int) (l p : List (List Int)) : Bool × Int × Bool := if (goodB v l && goodN v p 300) = true then ((checkR l p []).1, (checkR l p []).2, true) else (false, 0, false)
theorem specL6Good_val (v : Int) (l p : List (List Int)) (hl : l.length ≤ 1048576) (hi : ∀ x ∈ l, x.length ≤ 1048576) (hp : p.length ≤ 1048576) (hpi : ∀ x ∈ p, x.length ≤ 1048576) (k : Nat) (hk : 5000000 ≤ k) : spec_l6Good.f k v l p = some (goodB v l && goodN v p 300) := by
  unfold spec_l6Good.f
  rw [specGood_val v l hl hi k hk]
  simp only [Option.bind_some]
  cases goodB v l with
  | false => rfl
  | true =>
    rw [if_pos rfl, show (300 : Int) = ((300 : Nat) : Int) from rfl, specGoodN_val v p 300 hp hpi k hk]
    rfl
theorem implCheckProof_val (v : Int) (l p : List (List Int)) (k : Nat) (hk : 5000000 ≤ k) : impl_CheckProof.f k v l p = some (checkProofR v l p) := by
  unfold impl_CheckProof.f checkProofR
  rw [implIsProof_val]
  simp only [Option.bind_some]
  cases h : (goodB v l && goodN v p 300) with
  | false => rfl
  | true =>
    rw [Bool.and_eq_true] at h
    obtain ⟨hg, hn⟩ := h
    obtain ⟨h0, h1, h60, _⟩ := goodB_facts hg
    obtain ⟨_, _, h300, _⟩ := goodN_facts hn
    rw [if_pos rfl, if_pos rfl, implCheck_val l p (good_litsOk hg) (by omega) (goodN_litsOk hn) (by omega) k (by omega)]
    rfl

/-- The places of those that are not dropped, from place i on. -/
def keepFrom : List Bool → Int → List Int
  | [], _ => []
  | true :: r, i => keepFrom r (i + 1)
  | false :: r, i => i :: keepFrom r (i + 1)
theorem keepFrom_cons (d : Bool) (r : List Bool) (i : Int) : keepFrom (d :: r) i = match d with
    | true => keepFrom r (i + 1)
    | false => i :: keepFrom r (i + 1) := by cases d <;> rfl
/-- Those that are not dropped. -/
def selL : List (List Int) → List Bool → List (List Int)
  | [], _ => []
  | c :: r, ds => match ds.headD false with
    | true => selL r ds.tail
    | false => c :: selL r ds.tail
theorem keepFrom_mem : ∀ (ds : List Bool) (i x : Int), x ∈ keepFrom ds i → i ≤ x ∧ x < i + (ds.length : Int)
  | [], i, x, h => by simp [keepFrom] at h
  | d :: r, i, x, h => by
    rw [keepFrom_cons] at h
    rw [List.length_cons]
    cases d with
    | true =>
      have := keepFrom_mem r (i + 1) x h
      omega
    | false =>
      rcases List.mem_cons.1 h with rfl | h
      · omega
      · have := keepFrom_mem r (i + 1) x h
        omega
theorem keepFrom_length : ∀ (ds : List Bool) (i : Int), (keepFrom ds i).length ≤ ds.length
  | [], i => by simp [keepFrom]
  | d :: r, i => by
    rw [keepFrom_cons, List.length_cons]
    have := keepFrom_length r (i + 1)
    cases d with
    | true => exact Nat.le_trans this (Nat.le_succ _)
    | false => simpa using this
theorem keepFrom_none : ∀ (n : Nat) (i : Nat), keepFrom (List.replicate n false) (i : Int) = (List.range' i n).map fun (j : Nat) => (j : Int)
  | 0, i => rfl
  | n + 1, i => by
    rw [List.replicate_succ, keepFrom, List.range'_succ, List.map_cons, show ((i : Int) + 1) = ((i + 1 : Nat) : Int) by omega, keepFrom_none n (i + 1)]
theorem placesOf_keep (n : Nat) : placesOf_ n = keepFrom (List.replicate n false) 0 := by
  have := keepFrom_none n 0
  rw [show ((0 : Nat) : Int) = 0 from rfl] at this
  rw [this]
  unfold placesOf_
  rw [List.range_eq_range']
/-- Where nothing is dropped up to place d, the place d is the d-th one. -/
theorem keepFrom_erase : ∀ (d : Nat) (ds : List Bool) (i : Int), (∀ j, j ≤ d → ds[j]? = some false) → (keepFrom ds i).eraseIdx d = keepFrom (ds.set d true) i ∧ d + 1 ≤ (keepFrom ds i).length
  | 0, ds, i, h => by
    have h0 := h 0 (Nat.le_refl _)
    cases ds with
    | nil => simp at h0
    | cons b r =>
      obtain rfl : b = false := by simpa using h0
      simp [keepFrom]
  | d + 1, ds, i, h => by
    have h0 := h 0 (by omega)
    cases ds with
    | nil => simp at h0
    | cons b r =>
      obtain rfl : b = false := by simpa using h0
      obtain ⟨h1, h2⟩ := keepFrom_erase d r (i + 1) (fun j hj => by have := h (j + 1) (by omega); simpa using this)
      rw [List.set_cons_succ, keepFrom, keepFrom]
      simp only [List.eraseIdx_cons_succ, h1, List.length_cons]
      exact ⟨trivial, by omega⟩
theorem sel_keep (p : List (List Int)) : ∀ (q : List (List Int)) (ds : List Bool) (i : Nat), ds.length = q.length → p.drop i = q → (keepFrom ds (i : Int)).map (rowIn_ p) = selL q ds
  | [], ds, i, h, hd => by
    obtain rfl : ds = [] := List.eq_nil_of_length_eq_zero (by simpa using h)
    rfl
  | c :: q, [], i, h, hd => by simp at h
  | c :: q, b :: ds, i, h, hd => by
    have hi : i < p.length := by
      have := congrArg List.length hd
      simp at this
      omega
    rw [List.drop_eq_getElem_cons hi] at hd
    injection hd with hc hq
    have ih := sel_keep p q ds (i + 1) (by simpa using h) hq
    rw [keepFrom_cons, selL, List.headD_cons, List.tail_cons]
    cases b with
    | true =>
      rw [show ((i : Int) + 1) = ((i + 1 : Nat) : Int) by omega]
      exact ih
    | false =>
      simp only [List.map_cons]
      rw [show ((i : Int) + 1) = ((i + 1 : Nat) : Int) by omega, ih, rowIn_nat p i hi, hc]
theorem checkD_sel : ∀ (p : List (List Int)) (ds : List Bool) (all : List (List Int)) (i j : Int), (checkD p ds all i).isNone = (checkD (selL p ds) [] all j).isNone
  | [], _, _, _, _ => rfl
  | c :: r, ds, all, i, j => by
    rw [checkD, selL]
    cases hd : ds.headD false with
    | true => exact checkD_sel r ds.tail all (i + 1) j
    | false =>
      simp only [checkD, List.headD_nil, List.tail_nil]
      cases atOnceB all c with
      | true => exact checkD_sel r ds.tail (all ++ [c]) (i + 1) (j + 1)
      | false => rfl
theorem selL_last : ∀ (p : List (List Int)) (ds : List Bool), ds.length = p.length → ds.getLast? = some false → (selL p ds).getLast? = p.getLast?
  | [], ds, h, hl => rfl
  | [c], ds, h, hl => by
    match ds, h with
    | [b], _ =>
      obtain rfl : b = false := by simpa using hl
      rfl
  | c :: c2 :: r, ds, h, hl => by
    match ds, h with
    | b :: b2 :: ds, h =>
      have ih := selL_last (c2 :: r) (b2 :: ds) (by simpa using h) (by simpa using hl)
      rw [List.getLast?_cons_cons, ← ih, selL, List.headD_cons, List.tail_cons]
      cases b with
      | true => rfl
      | false =>
        simp only
        cases hs : selL (c2 :: r) (b2 :: ds) with
        | nil =>
          rw [hs] at ih
          have h2 := List.getLast?_eq_none_iff.1 ih.symm
          cases h2
        | cons x y => rw [List.getLast?_cons_cons]
/-- A proof is accepted, of which some clauses are dropped. -/
def accB (l p : List (List Int)) (ds : List Bool) : Bool := (checkD p ds l 0).isNone && lastEmpty p
theorem checkR_acc (l p : List (List Int)) (ds : List Bool) : (checkR l p ds).1 = accB l p ds := by
  unfold checkR accB
  cases checkD p ds l 0 with
  | none => simp
  | some i => simp
theorem accB_sel (l p : List (List Int)) (ds : List Bool) (h : ds.length = p.length) (hl : ds.getLast? = some false) : accB l (selL p ds) [] = accB l p ds := by
  unfold accB lastEmpty
  rw [selL_last p ds h hl, checkD_sel p ds l 0 0]
def needL (l p : List (List Int)) : Nat → List Bool → List Bool
  | 0, ds => ds
  | i + 1, ds => needL l p i (if accB l p (ds.set i true) = true then ds.set i true else ds)
theorem needL_length (l p : List (List Int)) : ∀ (d : Nat) (ds : List Bool), (needL l p d ds).length = ds.length
  | 0, ds => rfl
  | i + 1, ds => by
    rw [needL, needL_length l p i]
    split
    · rw [List.length_set]
    · rfl
theorem spec1_val (ds : List Bool) (hn : ds.length ≤ 1000) : ∀ (d i k : Nat) (y : List Int), i + d = ds.length → y.length ≤ i → d < k → spec_NeededIn.l1 k y ds (ds.length : Int) (i : Int) = some (y ++ keepFrom (ds.drop i) (i : Int), true)
  | 0, i, k, y, h1, h2, hk => by
    obtain ⟨k, rfl⟩ : ∃ m, k = m + 1 := ⟨k - 1, by omega⟩
    simp only [spec_NeededIn.l1]
    rw [if_neg (by omega), List.drop_of_length_le (by omega)]
    simp [keepFrom]
  | d + 1, i, k, y, h1, h2, hk => by
    obtain ⟨k, rfl⟩ : ∃ m, k = m + 1 := ⟨k - 1, by omega⟩
    have hil : i < ds.length := by omega
    simp only [spec_NeededIn.l1]
    rw [if_pos (by omega), if_pos (by omega), if_pos (by omega), rdB_nat ds i hil, next64 (by omega), List.drop_eq_getElem_cons hil, keepFrom_cons]
    cases ds[i] with
    | true =>
      rw [if_pos rfl, spec1_val ds hn d (i + 1) k y (by omega) (by omega) (by omega)]
      rfl
    | false =>
      rw [if_neg Bool.false_ne_true, if_pos (by omega), spec1_val ds hn d (i + 1) k (y ++ [(i : Int)]) (by omega) (by simp; omega) (by omega)]
      simp only [List.append_assoc, List.singleton_append]
      rfl
theorem prev64 (d : Nat) (h : d ≤ 1000) : wrap64 (((d + 1 : Nat) : Int) - 1 - 1) = (d : Int) - 1 := by
  rw [w64 (by omega) (by omega)]
  omega
theorem spec0_val (l p : List (List Int)) (hl : LitsOk l) (hln : l.length ≤ 1000) (hp : LitsOk p) (hpn : p.length ≤ 1000) : ∀ (d k : Nat) (ds : List Bool), ds.length = p.length → d < p.length → (∀ j, j < d → ds[j]? = some false) → d + 6000000 ≤ k →
    spec_NeededIn.l0 k l p ds ((d : Int) - 1) = some (keepFrom (needL l p d ds) 0, true)
  | 0, k, ds, h1, h2, h3, hk => by
    obtain ⟨k, rfl⟩ : ∃ m, k = m + 1 := ⟨k - 1, by omega⟩
    simp only [spec_NeededIn.l0]
    rw [if_neg (by omega)]
    have := spec1_val ds (by omega) ds.length 0 k [] (by omega) (by simp) (by omega)
    rw [needL]
    simpa using this
  | d + 1, k, ds, h1, h2, h3, hk => by
    obtain ⟨k, rfl⟩ : ∃ m, k = m + 1 := ⟨k - 1, by omega⟩
    have e : ((d + 1 : Nat) : Int) - 1 = (d : Int) := by omega
    have hset : (ds.set d true).set d false = ds := by
      rw [List.set_set]
      apply List.ext_getElem?
      intro j
      rw [List.getElem?_set]
      by_cases hj : d = j
      · subst hj
        rw [if_pos rfl, if_pos (by omega), h3 d (by omega)]
      · rw [if_neg hj]
    simp only [spec_NeededIn.l0, Option.bind_some]
    rw [prev64 d (by omega), e]
    rw [if_pos (by omega), if_pos (by omega), if_pos (by omega), show ((d : Int).toNat) = d by omega, specCheck_val l p _ hl hln hp hpn (by rw [List.length_set]; exact h1) k (by omega)]
    simp only [Option.bind_some, checkR_acc]
    rw [needL]
    cases hac : accB l p (ds.set d true) with
    | true =>
      rw [if_pos rfl, if_pos rfl]
      exact spec0_val l p hl hln hp hpn d k _ (by rw [List.length_set]; exact h1) (by omega) (fun j hj => by rw [List.getElem?_set_ne (by omega)]; exact h3 j (by omega)) (by omega)
    | false =>
      rw [if_neg Bool.false_ne_true, if_neg Bool.false_ne_true, hset]
      exact spec0_val l p hl hln hp hpn d k _ h1 (by omega) (fun j hj => h3 j (by omega)) (by omega)
theorem pick_l (p : List (List Int)) (hp : p.length ≤ 1000) (hpi : ∀ c ∈ p, c.length ≤ 1000) (at_ : List Int) (hn : at_.length ≤ 1000) (hr : ∀ x ∈ at_, 0 ≤ x ∧ x < (p.length : Int)) : ∀ (d i k : Nat) (y : List (List Int)), i + d = at_.length → y.length ≤ i → d < k →
    impl_pick.l0 k p y at_ (at_.length : Int) (i : Int) = some (y ++ (at_.drop i).map (rowIn_ p))
  | 0, i, k, y, h1, h2, hk => by
    obtain ⟨k, rfl⟩ : ∃ m, k = m + 1 := ⟨k - 1, by omega⟩
    simp only [impl_pick.l0]
    rw [if_neg (by omega), List.drop_of_length_le (by omega)]
    simp
  | d + 1, i, k, y, h1, h2, hk => by
    obtain ⟨k, rfl⟩ : ∃ m, k = m + 1 := ⟨k - 1, by omega⟩
    have hil : i < at_.length := by omega
    obtain ⟨b1, b2⟩ := hr at_[i] (List.getElem_mem _)
    have hx : rd_L1 p at_[i] = rowIn_ p at_[i] := rfl
    have hxl : (rowIn_ p at_[i]).length ≤ 1000 := hpi _ (rowIn_mem_ b1 b2)
    simp only [impl_pick.l0]
    rw [if_pos (by omega), if_pos (by omega), if_pos (by omega), rd_nat at_ i hil, if_pos b1, if_pos b2, next64 (by omega), hx]
    unfold slices_Clone_int_int.f
    rw [if_pos (by omega)]
    simp only [Option.bind_some]
    rw [if_pos (by omega), pick_l p hp hpi at_ hn hr d (i + 1) k (y ++ [rowIn_ p at_[i]]) (by omega) (by simp; omega) (by omega), List.drop_eq_getElem_cons hil, List.map_cons]
    simp
theorem pick_val (p : List (List Int)) (hp : p.length ≤ 1000) (hpi : ∀ c ∈ p, c.length ≤ 1000) (at_ : List Int) (hn : at_.length ≤ 1000) (hr : ∀ x ∈ at_, 0 ≤ x ∧ x < (p.length : Int)) (k : Nat) (hk : 2000 ≤ k) : impl_pick.f k p at_ = some (at_.map (rowIn_ p)) := by
  unfold impl_pick.f
  have := pick_l p hp hpi at_ hn hr at_.length 0 k [] (by omega) (by simp) (by omega)
  simpa using this
theorem selL_sub : ∀ (p : List (List Int)) (ds : List Bool) (c : List Int), c ∈ selL p ds → c ∈ p
  | [], _, c, h => by simp [selL] at h
  | b :: r, ds, c, h => by
    rw [selL] at h
    cases hd : ds.headD false with
    | true =>
      rw [hd] at h
      exact List.mem_cons_of_mem _ (selL_sub r ds.tail c h)
    | false =>
      rw [hd] at h
      rcases List.mem_cons.1 h with rfl | h
      · exact List.mem_cons_self
      · exact List.mem_cons_of_mem _ (selL_sub r ds.tail c h)
theorem selL_length : ∀ (p : List (List Int)) (ds : List Bool), (selL p ds).length ≤ p.length
  | [], _ => by simp [selL]
  | b :: r, ds => by
    rw [selL, List.length_cons]
    have := selL_length r ds.tail
    cases ds.headD false with
    | true => exact Nat.le_trans this (Nat.le_succ _)
    | false => simpa using this
theorem impl1_val (l p : List (List Int)) (hl : LitsOk l) (hln : l.length ≤ 1000) (hp : LitsOk p) (hpn : p.length ≤ 1000) : ∀ (d k : Nat) (ds : List Bool), ds.length = p.length → d < p.length → (∀ j, j < d → ds[j]? = some false) → ds.getLast? = some false → d + 6000000 ≤ k →
    impl_NeededIn.l1 k l p (keepFrom ds 0) ((d : Int) - 1) = some (keepFrom (needL l p d ds) 0)
  | 0, k, ds, h1, h2, h3, h4, hk => by
    obtain ⟨k, rfl⟩ : ∃ m, k = m + 1 := ⟨k - 1, by omega⟩
    simp only [impl_NeededIn.l1]
    rw [if_neg (by omega)]
    rfl
  | d + 1, k, ds, h1, h2, h3, h4, hk => by
    obtain ⟨k, rfl⟩ : ∃ m, k = m + 1 := ⟨k - 1, by omega⟩
    have e : ((d + 1 : Nat) : Int) - 1 = (d : Int) := by omega
    obtain ⟨he, hlen⟩ := keepFrom_erase d ds 0 (fun j hj => h3 j (by omega))
    have hkl := keepFrom_length ds 0
    have h4' : (ds.set d true).getLast? = some false := by
      rw [List.getLast?_eq_getElem?] at h4 ⊢
      rw [List.length_set, List.getElem?_set_ne (by omega)]
      exact h4
    have hsel := sel_keep p p (ds.set d true) 0 (by rw [List.length_set]; exact h1) (by simp)
    rw [show ((0 : Nat) : Int) = 0 from rfl] at hsel
    simp only [impl_NeededIn.l1]
    rw [prev64 d (by omega), e, if_pos (by omega), if_pos ⟨by omega, by omega⟩, show ((d : Int).toNat) = d by omega, he, pick_val p hpn (fun c hc => (hp c hc).1) _ (by have := keepFrom_length (ds.set d true) 0; rw [List.length_set] at this; omega) (fun x hx => by have := keepFrom_mem _ _ _ hx; rw [List.length_set] at this; omega) k (by omega), hsel]
    simp only [Option.bind_some]
    rw [implCheck_val l _ hl hln (fun c hc => hp c (selL_sub p _ c hc)) (by have := selL_length p (ds.set d true); omega) k (by omega)]
    simp only [Option.bind_some, checkR_acc]
    rw [accB_sel l p _ (by rw [List.length_set]; exact h1) h4', needL]
    cases hac : accB l p (ds.set d true) with
    | true =>
      rw [if_pos rfl, if_pos rfl]
      exact impl1_val l p hl hln hp hpn d k _ (by rw [List.length_set]; exact h1) (by omega) (fun j hj => by rw [List.getElem?_set_ne (by omega)]; exact h3 j (by omega)) h4' (by omega)
    | false =>
      rw [if_neg Bool.false_ne_true, if_neg Bool.false_ne_true]
      exact impl1_val l p hl hln hp hpn d k _ h1 (by omega) (fun j hj => h3 j (by omega)) h4 (by omega)
/-- What NeededIn returns. -/
def neededR (v : Int) (l p : List (List Int)) : List Int × Bool := if (goodB v l && goodN v p 300) = true then (if accB l p [] = true then (keepFrom (needL l p (p.length - 1) (List.replicate p.length false)) 0, true) else ([], false)) else ([], false)
theorem acc_pos {l p : List (List Int)} {ds : List Bool} (h : accB l p ds = true) : 0 < p.length := by
  rcases Nat.eq_zero_or_pos p.length with h0 | h0
  · obtain rfl : p = [] := List.eq_nil_of_length_eq_zero h0
    unfold accB lastEmpty at h
    simp at h
  · exact h0
theorem accB_none (l p : List (List Int)) (n : Nat) : accB l p (List.replicate n false) = accB l p [] := by
  unfold accB
  rw [checkD_none]
theorem repl_at (n j : Nat) (h : j < n) : (List.replicate n false)[j]? = some false := by
  rw [List.getElem?_replicate, if_pos h]
theorem repl_last (n : Nat) (h : 0 < n) : (List.replicate n false).getLast? = some false := by
  rw [List.getLast?_eq_getElem?, List.length_replicate]
  exact repl_at n _ (by omega)
theorem specNeeded_val (v : Int) (l p : List (List Int)) (hl : l.length ≤ 1048576) (hi : ∀ x ∈ l, x.length ≤ 1048576) (hp : p.length ≤ 1048576) (hpi : ∀ x ∈ p, x.length ≤ 1048576) (k : Nat) (hk : 9000000 ≤ k) : spec_NeededIn.f k v l p = some (neededR v l p) := by
  unfold spec_NeededIn.f neededR
  rw [specL6Good_val v l p hl hi hp hpi k (by omega)]
  simp only [Option.bind_some]
  cases h : (goodB v l && goodN v p 300) with
  | false => rfl
  | true =>
    rw [Bool.and_eq_true] at h
    obtain ⟨hg, hn⟩ := h
    obtain ⟨h0, h1, h60, _⟩ := goodB_facts hg
    obtain ⟨_, _, h300, _⟩ := goodN_facts hn
    rw [if_pos rfl, if_pos (by omega), if_pos (by omega), if_pos rfl, show ((p.length : Int).toNat) = p.length by omega, specCheck_val l p _ (good_litsOk hg) (by omega) (goodN_litsOk hn) (by omega) (by rw [List.length_replicate]) k (by omega)]
    simp only [Option.bind_some, checkR_acc, accB_none]
    cases hac : accB l p [] with
    | false => rfl
    | true =>
      have hpos := acc_pos hac
      have e : wrap64 ((p.length : Int) - 2) = ((p.length - 1 : Nat) : Int) - 1 := by rw [w64 (by omega) (by omega)]; omega
      rw [if_pos rfl, if_pos rfl, e]
      exact spec0_val l p (good_litsOk hg) (by omega) (goodN_litsOk hn) (by omega) (p.length - 1) k _ (by rw [List.length_replicate]) (by omega) (fun j hj => repl_at _ _ (by omega)) (by omega)
theorem implNeeded_val (v : Int) (l p : List (List Int)) (k : Nat) (hk : 9000000 ≤ k) : impl_NeededIn.f k v l p = some (neededR v l p) := by
  unfold impl_NeededIn.f neededR
  rw [implCheckProof_val v l p k (by omega)]
  simp only [Option.bind_some, checkProofR]
  cases h : (goodB v l && goodN v p 300) with
  | false => rfl
  | true =>
    rw [Bool.and_eq_true] at h
    obtain ⟨hg, hn⟩ := h
    obtain ⟨h0, h1, h60, _⟩ := goodB_facts hg
    obtain ⟨_, _, h300, _⟩ := goodN_facts hn
    simp only [if_true, checkR_acc]
    cases hac : accB l p [] with
    | false => rfl
    | true =>
      have hpos := acc_pos hac
      have e : wrap64 ((p.length : Int) - 2) = ((p.length - 1 : Nat) : Int) - 1 := by rw [w64 (by omega) (by omega)]; omega
      rw [if_pos rfl, if_pos rfl, if_pos ⟨by omega, by omega⟩, e, placesOf_keep, impl1_val l p (good_litsOk hg) (by omega) (goodN_litsOk hn) (by omega) (p.length - 1) k _ (by rw [List.length_replicate]) (by omega) (fun j hj => repl_at _ _ (by omega)) (repl_last _ hpos) (by omega)]
      rfl
theorem neededR_length (v : Int) (l p : List (List Int)) (hp : p.length ≤ 1048576) : (neededR v l p).1.length ≤ 1048576 := by
  unfold neededR
  split
  · split
    · have := keepFrom_length (needL l p (p.length - 1) (List.replicate p.length false)) 0
      rw [needL_length, List.length_replicate] at this
      simp only
      omega
    · simp
  · simp

theorem specTrim_l (p : List (List Int)) (hp : p.length ≤ 1048576) (hpi : ∀ c ∈ p, c.length ≤ 1048576) (at_ : List Int) (hn : at_.length ≤ 1048576) (hr : ∀ x ∈ at_, 0 ≤ x ∧ x < (p.length : Int)) : ∀ (d i k : Nat) (y : List (List Int)), i + d = at_.length → y.length ≤ i → d < k →
    spec_TrimProof.l0 k p y at_ (at_.length : Int) (i : Int) = some (y ++ (at_.drop i).map (rowIn_ p), true)
  | 0, i, k, y, h1, h2, hk => by
    obtain ⟨k, rfl⟩ : ∃ m, k = m + 1 := ⟨k - 1, by omega⟩
    simp only [spec_TrimProof.l0]
    rw [if_neg (by omega), List.drop_of_length_le (by omega)]
    simp
  | d + 1, i, k, y, h1, h2, hk => by
    obtain ⟨k, rfl⟩ : ∃ m, k = m + 1 := ⟨k - 1, by omega⟩
    have hil : i < at_.length := by omega
    obtain ⟨b1, b2⟩ := hr at_[i] (List.getElem_mem _)
    have hx : rd_L1 p at_[i] = rowIn_ p at_[i] := rfl
    have hxl : (rowIn_ p at_[i]).length ≤ 1048576 := hpi _ (rowIn_mem_ b1 b2)
    simp only [spec_TrimProof.l0, Option.bind_some, List.nil_append, List.length_nil]
    rw [if_pos (by omega), if_pos (by omega), if_pos (by omega), rd_nat at_ i hil, if_pos b1, if_pos b2, next64 (by omega), hx, if_pos (by omega), if_pos (by omega)]
    rw [specTrim_l p hp hpi at_ hn hr d (i + 1) k (y ++ [rowIn_ p at_[i]]) (by omega) (by simp; omega) (by omega), List.drop_eq_getElem_cons hil, List.map_cons]
    simp
theorem implPick_l (p : List (List Int)) (hp : p.length ≤ 1048576) (hpi : ∀ c ∈ p, c.length ≤ 1048576) (at_ : List Int) (hn : at_.length ≤ 1048576) (hr : ∀ x ∈ at_, 0 ≤ x ∧ x < (p.length : Int)) : ∀ (d i k : Nat) (y : List (List Int)), i + d = at_.length → y.length ≤ i → d < k →
    impl_pick.l0 k p y at_ (at_.length : Int) (i : Int) = some (y ++ (at_.drop i).map (rowIn_ p))
  | 0, i, k, y, h1, h2, hk => by
    obtain ⟨k, rfl⟩ : ∃ m, k = m + 1 := ⟨k - 1, by omega⟩
    simp only [impl_pick.l0]
    rw [if_neg (by omega), List.drop_of_length_le (by omega)]
    simp
  | d + 1, i, k, y, h1, h2, hk => by
    obtain ⟨k, rfl⟩ : ∃ m, k = m + 1 := ⟨k - 1, by omega⟩
    have hil : i < at_.length := by omega
    obtain ⟨b1, b2⟩ := hr at_[i] (List.getElem_mem _)
    have hx : rd_L1 p at_[i] = rowIn_ p at_[i] := rfl
    have hxl : (rowIn_ p at_[i]).length ≤ 1048576 := hpi _ (rowIn_mem_ b1 b2)
    simp only [impl_pick.l0]
    rw [if_pos (by omega), if_pos (by omega), if_pos (by omega), rd_nat at_ i hil, if_pos b1, if_pos b2, next64 (by omega), hx]
    unfold slices_Clone_int_int.f
    rw [if_pos (by omega)]
    simp only [Option.bind_some]
    rw [if_pos (by omega), implPick_l p hp hpi at_ hn hr d (i + 1) k (y ++ [rowIn_ p at_[i]]) (by omega) (by simp; omega) (by omega), List.drop_eq_getElem_cons hil, List.map_cons]
    simp
def trimR (v : Int) (l p : List (List Int)) : List (List Int) × Bool := ((neededR v l p).1.map (rowIn_ p), (neededR v l p).2)
theorem neededR_mem (v : Int) (l p : List (List Int)) : ∀ x ∈ (neededR v l p).1, 0 ≤ x ∧ x < (p.length : Int) := by
  unfold neededR
  intro x hx
  split at hx
  · split at hx
    · have := keepFrom_mem _ _ _ hx
      rw [needL_length, List.length_replicate] at this
      omega
    · simp at hx
  · simp at hx
theorem neededR_no (v : Int) (l p : List (List Int)) (h : (neededR v l p).2 = false) : (neededR v l p).1 = [] := by
  unfold neededR at h ⊢
  split
  · split
    · rename_i h1 h2
      rw [if_pos h1, if_pos h2] at h
      cases h
    · rfl
  · rfl
theorem specTrim_val (v : Int) (l p : List (List Int)) (hl : l.length ≤ 1048576) (hi : ∀ x ∈ l, x.length ≤ 1048576) (hp : p.length ≤ 1048576) (hpi : ∀ x ∈ p, x.length ≤ 1048576) (k : Nat) (hk : 9000000 ≤ k) : spec_TrimProof.f k v l p = some (trimR v l p) := by
  unfold spec_TrimProof.f trimR
  rw [specNeeded_val v l p hl hi hp hpi k hk]
  simp only [Option.bind_some]
  cases h : (neededR v l p).2 with
  | false =>
    rw [if_neg Bool.false_ne_true, neededR_no v l p h]
    rfl
  | true =>
    rw [if_pos rfl]
    have hn := neededR_length v l p hp
    have := specTrim_l p hp hpi (neededR v l p).1 hn (neededR_mem v l p) (neededR v l p).1.length 0 k [] (by omega) (by simp) (by omega)
    simpa using this
theorem implTrim_val (v : Int) (l p : List (List Int)) (hp : p.length ≤ 1048576) (hpi : ∀ x ∈ p, x.length ≤ 1048576) (k : Nat) (hk : 9000000 ≤ k) : impl_TrimProof.f k v l p = some (trimR v l p) := by
  unfold impl_TrimProof.f trimR impl_pick.f
  rw [implNeeded_val v l p k hk]
  simp only [Option.bind_some]
  have hn := neededR_length v l p hp
  have := implPick_l p hp hpi (neededR v l p).1 hn (neededR_mem v l p) (neededR v l p).1.length 0 k [] (by omega) (by simp) (by omega)
  rw [show ((0 : Nat) : Int) = 0 from rfl] at this
  rw [this]
  simp
theorem trimR_bounds (v : Int) (l p : List (List Int)) (hp : p.length ≤ 1048576) (hpi : ∀ x ∈ p, x.length ≤ 1048576) : (trimR v l p).1.length ≤ 1048576 ∧ ∀ x ∈ (trimR v l p).1, x.length ≤ 1048576 := by
  unfold trimR
  refine ⟨by simp only [List.length_map]; exact neededR_length v l p hp, fun x hx => ?_⟩
  obtain ⟨i, h1, rfl⟩ := List.mem_map.1 hx
  obtain ⟨a, b⟩ := neededR_mem v l p i h1
  exact hpi _ (rowIn_mem_ a b)

theorem scan_false : ∀ {l : List (List Int)} {out : List Int}, scanC out l = some none → ∃ c ∈ l, (unitP out c).2 = true
  | [], _, h => by simp [scanC] at h
  | c :: r, out, h => by
    unfold scanC at h
    split at h
    · rename_i h1
      exact ⟨c, List.mem_cons_self, h1⟩
    · split at h
      · obtain ⟨c', h1, h2⟩ := scan_false h
        exact ⟨c', List.mem_cons_of_mem _ h1, h2⟩
      · cases h
theorem scan_found : ∀ {l : List (List Int)} {out : List Int} {x : Int}, scanC out l = some (some x) → ∃ c ∈ l, (unitP out c).1 = x ∧ x ≠ 0
  | [], _, _, h => by simp [scanC] at h
  | c :: r, out, x, h => by
    unfold scanC at h
    split at h
    · cases h
    · split at h
      · obtain ⟨c', h1, h2⟩ := scan_found h
        exact ⟨c', List.mem_cons_of_mem _ h1, h2⟩
      · rename_i h2
        injection h with h
        injection h with h
        exact ⟨c, List.mem_cons_self, h, h ▸ h2⟩
theorem unit_true {out c : List Int} (h : (unitP out c).2 = true) : withoutL c out = [] := by
  unfold unitP at h
  split at h
  · cases h
  · match hw : withoutL c out with
    | [] => rfl
    | [x] => rw [hw] at h; cases h
    | x :: y :: t => rw [hw] at h; cases h
theorem unit_one {out c : List Int} (h : (unitP out c).1 ≠ 0) : withoutL c out = [(unitP out c).1] := by
  unfold unitP at h ⊢
  split
  · rename_i h1
    rw [if_pos h1] at h
    exact absurd rfl h
  · rename_i h1
    rw [if_neg h1] at h
    match hw : withoutL c out with
    | [] => rw [hw] at h; exact absurd rfl h
    | [x] => rfl
    | x :: y :: t => rw [hw] at h; exact absurd rfl h
theorem unit_rest {out c : List Int} (h : unitP out c = (0, false)) (hc : LitsC c) : (∃ n, n ∈ c ∧ n ∈ out) ∨ 2 ≤ (withoutL c out).length := by
  cases hm : meetsB c out with
  | true => exact .inl (meets_iff.1 hm)
  | false =>
    right
    unfold unitP at h
    rw [hm, if_neg Bool.false_ne_true] at h
    match hw : withoutL c out with
    | [] => rw [hw] at h; cases h
    | [x] =>
      rw [hw] at h
      have hx : x ∈ withoutL c out := by rw [hw]; simp
      unfold withoutL at hx
      have h0 := (hc x (List.mem_filter.1 hx).1).1
      injection h with h _
      exact absurd h h0
    | x :: y :: t => simp
theorem without_len {c out out' : List Int} (hc : LitsC c) (hs : ∀ n ∈ out, n ∈ out') : (withoutL c out').length ≤ (withoutL c out).length := by
  unfold withoutL
  rw [← List.countP_eq_length_filter, ← List.countP_eq_length_filter]
  refine List.countP_mono_left fun n hn h => ?_
  obtain ⟨_, n1, n2⟩ := hc n hn
  rw [any_flip, neg64 (by omega) (by omega)] at h ⊢
  rw [Bool.not_eq_true'] at h ⊢
  exact hasB_no.2 fun h' => hasB_no.1 h (hs _ h')
/-- With more clauses no less is derived. -/
theorem prop_mono {l l' : List (List Int)} (hl : LitsOk l) (hs : ∀ c ∈ l, c ∈ l') {out' : List Int} (hco : Cons out') (hfix : scanC out' l' = none) : ∀ (f : Nat) (out : List Int), (∀ n ∈ out, n ∈ out') → (propL l f out).2 = false
  | 0, _, _ => rfl
  | f + 1, out, ho => by
    unfold propL
    match hsc : scanC out l with
    | none => rfl
    | some none =>
      obtain ⟨c, hc, h1⟩ := scan_false hsc
      have hlc : LitsC c := fun n hn => (hl c hc).2 n hn
      have hw := unit_true h1
      have hall : ∀ n ∈ c, -n ∈ out' := fun n hn => by
        obtain ⟨_, n1, n2⟩ := hlc n hn
        apply Classical.byContradiction
        intro h
        have : n ∈ withoutL c out := (without_mem ⟨n1, n2⟩).2 ⟨hn, fun h' => h (ho _ h')⟩
        rw [hw] at this
        cases this
      rcases unit_rest (scan_none hfix c (hs c hc)) hlc with ⟨n, hn, hno⟩ | h2
      · exact absurd (hall n hn) (hasB_no.1 (hco n hno))
      · have := without_len hlc ho
        rw [hw] at this
        simp at this
        rw [this] at h2
        simp at h2
    | some (some x) =>
      obtain ⟨c, hc, h1, h0⟩ := scan_found hsc
      have hlc : LitsC c := fun n hn => (hl c hc).2 n hn
      have hw := unit_one (out := out) (c := c) (by rw [h1]; exact h0)
      rw [h1] at hw
      have hx : x ∈ out' := by
        rcases unit_rest (scan_none hfix c (hs c hc)) hlc with ⟨n, hn, hno⟩ | h2
        · by_cases e : n = x
          · exact e ▸ hno
          · exfalso
            obtain ⟨_, n1, n2⟩ := hlc n hn
            have hnn : -n ∈ out := by
              apply Classical.byContradiction
              intro h
              have : n ∈ withoutL c out := (without_mem ⟨n1, n2⟩).2 ⟨hn, h⟩
              rw [hw] at this
              exact e (by simpa using this)
            exact hasB_no.1 (hco n hno) (ho _ hnn)
        · exfalso
          have := without_len hlc ho
          rw [hw] at this
          simp at this
          omega
      exact prop_mono hl hs hco hfix f (out ++ [x]) (fun n hn => by
        rcases List.mem_append.1 hn with hn | hn
        · exact ho n hn
        · have : n = x := by simpa using hn
          exact this ▸ hx)
theorem atOnce_mono {l l' : List (List Int)} (hl : LitsOk l) (hl' : LitsOk l') (hs : ∀ c ∈ l, c ∈ l') {c : List Int} (hc : LitsC c) (hn : ∀ n ∈ c, -n ∉ c) (h : atOnceB l c = true) : atOnceB l' c = true := by
  cases h' : atOnceB l' c with
  | true => rfl
  | false =>
    unfold atOnceB at h h'
    have hco : Cons (negL c) := fun n hn' => hasB_no.2 fun h2 => by
      have h3 := (negL_mem hc).1 hn'
      have h4 := (negL_mem hc).1 h2
      exact hn (-n) h3 h4
    have hfix := prop_fix hl' 13 (negL c) (by have := freeV_le (negL c); omega) h'
    obtain ⟨t, ht⟩ := propL_pre l' 13 (negL c)
    have := prop_mono hl hs (propL_cons l' hl' 13 _ hco) hfix 13 (negL c) (fun n hn => by rw [ht]; exact List.mem_append_left _ hn)
    unfold propP at h
    rw [this] at h
    cases h
/-- All that is kept follows. -/
def okC (p : List (List Int)) (ds : List Bool) (all : List (List Int)) : Bool := (checkD p ds all 0).isNone
theorem okC_idx (p : List (List Int)) (ds : List Bool) (all : List (List Int)) (i : Int) : (checkD p ds all i).isNone = okC p ds all := by
  unfold okC
  rw [checkD_sel p ds all i 0, checkD_sel p ds all 0 0]
theorem okC_cons (c : List Int) (r : List (List Int)) (d : Bool) (ds : List Bool) (all : List (List Int)) : okC (c :: r) (d :: ds) all = if d = true then okC r ds all else (atOnceB all c && okC r ds (all ++ [c])) := by
  conv => lhs; unfold okC
  rw [checkD]
  simp only [List.headD_cons, List.tail_cons]
  cases d with
  | true => exact okC_idx _ _ _ _
  | false =>
    simp only [Bool.false_eq_true, if_false]
    cases atOnceB all c with
    | true => simpa using okC_idx _ _ _ _
    | false => rfl
theorem selL_cons (c : List Int) (r : List (List Int)) (d : Bool) (ds : List Bool) : selL (c :: r) (d :: ds) = if d = true then selL r ds else c :: selL r ds := by
  rw [selL]
  simp only [List.headD_cons, List.tail_cons]
  cases d <;> rfl
theorem okC_app : ∀ (p1 : List (List Int)) (E1 : List Bool) (p2 : List (List Int)) (E2 : List Bool) (all : List (List Int)), E1.length = p1.length → okC (p1 ++ p2) (E1 ++ E2) all = (okC p1 E1 all && okC p2 E2 (all ++ selL p1 E1))
  | [], E1, p2, E2, all, h => by
    obtain rfl : E1 = [] := List.eq_nil_of_length_eq_zero (by simpa using h)
    simp [okC, checkD, selL]
  | c :: r, [], p2, E2, all, h => by simp at h
  | c :: r, d :: E1, p2, E2, all, h => by
    have h' : E1.length = r.length := by simpa using h
    rw [List.cons_append, List.cons_append, okC_cons, okC_cons, selL_cons]
    cases d with
    | true => simpa using okC_app r E1 p2 E2 all h'
    | false =>
      simp only [Bool.false_eq_true, if_false]
      rw [okC_app r E1 p2 E2 (all ++ [c]) h', Bool.and_assoc, List.append_assoc]
      rfl
theorem selL_app : ∀ (p1 : List (List Int)) (E1 : List Bool) (p2 : List (List Int)) (E2 : List Bool), E1.length = p1.length → selL (p1 ++ p2) (E1 ++ E2) = selL p1 E1 ++ selL p2 E2
  | [], E1, p2, E2, h => by
    obtain rfl : E1 = [] := List.eq_nil_of_length_eq_zero (by simpa using h)
    simp [selL]
  | c :: r, [], p2, E2, h => by simp at h
  | c :: r, d :: E1, p2, E2, h => by
    have h' : E1.length = r.length := by simpa using h
    rw [List.cons_append, List.cons_append, selL_cons, selL_cons, selL_app r E1 p2 E2 h']
    cases d <;> rfl
theorem selL_repl : ∀ (p : List (List Int)), selL p (List.replicate p.length false) = p
  | [] => rfl
  | c :: r => by
    rw [List.length_cons, List.replicate_succ, selL_cons, selL_repl r]
    rfl
theorem okC_mono : ∀ (q : List (List Int)) (es : List Bool) (all all' : List (List Int)), es.length = q.length → (∀ c ∈ all, c ∈ all') → LitsOk all → LitsOk all' → LitsOk q → (∀ c ∈ q, ∀ n ∈ c, -n ∉ c) → okC q es all = true → okC q es all' = true
  | [], es, all, all', _, _, _, _, _, _, _ => by simp [okC, checkD]
  | c :: r, [], all, all', h, _, _, _, _, _, _ => by simp at h
  | c :: r, d :: es, all, all', h, hs, h1, h2, h3, h4, hok => by
    have h' : es.length = r.length := by simpa using h
    have hr : LitsOk r := fun x hx => h3 x (List.mem_cons_of_mem _ hx)
    have hr4 : ∀ c ∈ r, ∀ n ∈ c, -n ∉ c := fun x hx => h4 x (List.mem_cons_of_mem _ hx)
    have hcc := h3 c List.mem_cons_self
    rw [okC_cons] at hok ⊢
    cases d with
    | true =>
      simp only [if_true] at hok ⊢
      exact okC_mono r es all all' h' hs h1 h2 hr hr4 hok
    | false =>
      simp only [Bool.false_eq_true, if_false, Bool.and_eq_true] at hok ⊢
      refine ⟨atOnce_mono h1 h2 hs (fun n hn => hcc.2 n hn) (h4 c List.mem_cons_self) hok.1, okC_mono r es (all ++ [c]) (all' ++ [c]) h' (fun x hx => ?_) (litsOk_snoc h1 hcc) (litsOk_snoc h2 hcc) hr hr4 hok.2⟩
      rcases List.mem_append.1 hx with hx | hx
      · exact List.mem_append_left _ (hs x hx)
      · exact List.mem_append_right _ hx
theorem accB_ok (l p : List (List Int)) (ds : List Bool) : accB l p ds = (okC p ds l && lastEmpty p) := rfl
theorem set_repl (d : Nat) (X : List Bool) (b : Bool) : (List.replicate (d + 1) false ++ X).set d b = List.replicate d false ++ b :: X := by
  rw [List.replicate_succ', List.append_assoc, List.set_append_right _ _ (by simp)]
  simp
theorem needL_spec (l p : List (List Int)) : ∀ (d : Nat) (X : List Bool), accB l p (List.replicate d false ++ X) = true → (needL l p d (List.replicate d false ++ X)).drop d = X ∧ accB l p (needL l p d (List.replicate d false ++ X)) = true ∧
    ∀ m, m < d → accB l p (List.replicate (m + 1) false ++ (needL l p d (List.replicate d false ++ X)).drop (m + 1)) = true ∧ (needL l p d (List.replicate d false ++ X))[m]? = some (accB l p (List.replicate m false ++ true :: (needL l p d (List.replicate d false ++ X)).drop (m + 1)))
  | 0, X, h => by
    rw [needL]
    exact ⟨by simp, h, fun m hm => absurd hm (Nat.not_lt_zero _)⟩
  | d + 1, X, h => by
    rw [needL, set_repl]
    obtain ⟨b, hb⟩ : ∃ b, accB l p (List.replicate d false ++ true :: X) = b := ⟨_, rfl⟩
    have hds : (if accB l p (List.replicate d false ++ true :: X) = true then List.replicate d false ++ true :: X else List.replicate (d + 1) false ++ X) = List.replicate d false ++ b :: X := by
      rw [hb]
      cases b with
      | true => rfl
      | false =>
        rw [if_neg Bool.false_ne_true, List.replicate_succ', List.append_assoc]
        rfl
    rw [hds]
    have hacc : accB l p (List.replicate d false ++ b :: X) = true := by
      cases b with
      | true => exact hb
      | false =>
        have : List.replicate (d + 1) false ++ X = List.replicate d false ++ false :: X := by
          rw [List.replicate_succ', List.append_assoc]
          rfl
        rw [← this]
        exact h
    obtain ⟨h1, h2, h3⟩ := needL_spec l p d (b :: X) hacc
    generalize needL l p d (List.replicate d false ++ b :: X) = R at h1 h2 h3
    have hd1 : R.drop (d + 1) = X := by
      rw [show d + 1 = 1 + d by omega, Nat.add_comm 1 d, ← List.drop_drop, h1]
      rfl
    have hdm : R[d]? = some b := by
      have : (R.drop d)[0]? = some b := by rw [h1]; rfl
      rw [List.getElem?_drop] at this
      simpa using this
    refine ⟨hd1, h2, fun m hm => ?_⟩
    rcases Nat.lt_or_eq_of_le (Nat.le_of_lt_succ hm) with hlt | heq
    · exact h3 m hlt
    · subst heq
      rw [hd1, hdm, hb]
      exact ⟨h, rfl⟩
theorem selL_split : ∀ (p : List (List Int)) (R : List Bool) (k : Nat), R.length = p.length → k < (selL p R).length → ∃ p1 c p2 R1 R2, p = p1 ++ c :: p2 ∧ R = R1 ++ false :: R2 ∧ R1.length = p1.length ∧ (selL p1 R1).length = k
  | [], R, k, _, h => by simp [selL] at h
  | c :: r, [], k, h, _ => by simp at h
  | c :: r, true :: R, k, h, hk => by
    rw [selL_cons, if_pos rfl] at hk
    obtain ⟨p1, c', p2, R1, R2, h1, h2, h3, h4⟩ := selL_split r R k (by simpa using h) hk
    exact ⟨c :: p1, c', p2, true :: R1, R2, by rw [h1]; rfl, by rw [h2]; rfl, by simp [h3], by rw [selL_cons, if_pos rfl]; exact h4⟩
  | c :: r, false :: R, k, h, hk => by
    rw [selL_cons, if_neg Bool.false_ne_true, List.length_cons] at hk
    match k with
    | 0 => exact ⟨[], c, r, [], R, rfl, rfl, rfl, rfl⟩
    | k + 1 =>
      obtain ⟨p1, c', p2, R1, R2, h1, h2, h3, h4⟩ := selL_split r R k (by simpa using h) (by omega)
      exact ⟨c :: p1, c', p2, false :: R1, R2, by rw [h1]; rfl, by rw [h2]; rfl, by simp [h3], by rw [selL_cons, if_neg Bool.false_ne_true, List.length_cons, h4]⟩
theorem okC_none : ∀ (q : List (List Int)) (S : List Bool) (all : List (List Int)), S.length = q.length → selL q S = [] → okC q S all = true
  | [], S, all, _, _ => by simp [okC, checkD]
  | c :: r, [], all, h, _ => by simp at h
  | c :: r, true :: S, all, h, hs => by
    rw [selL_cons, if_pos rfl] at hs
    rw [okC_cons, if_pos rfl]
    exact okC_none r S all (by simpa using h) hs
  | c :: r, false :: S, all, h, hs => by
    rw [selL_cons, if_neg Bool.false_ne_true] at hs
    cases hs
theorem lastEmpty_split {p : List (List Int)} (h : lastEmpty p = true) : ∃ q, p = q ++ [[]] := by
  unfold lastEmpty at h
  match hl : p.getLast? with
  | none => rw [hl] at h; cases h
  | some c =>
    rw [hl] at h
    have : c = [] := by simpa using h
    subst this
    exact List.getLast?_eq_some_iff.1 hl
/-- A trimmed proof is accepted; without any one of its clauses it is not. -/
theorem trim_core {l p : List (List Int)} (hl : LitsOk l) (hp : LitsOk p) (hpc : ∀ c ∈ p, ∀ n ∈ c, -n ∉ c) (hacc : accB l p [] = true) :
    ∃ R : List Bool, needL l p (p.length - 1) (List.replicate p.length false) = R ∧ R.length = p.length ∧ R.getLast? = some false ∧ accB l p R = true ∧ ∀ k, k < (selL p R).length → accB l ((selL p R).take k ++ (selL p R).drop (k + 1)) [] = false := by
  have hpos := acc_pos hacc
  have hle : lastEmpty p = true := by
    rw [accB_ok, Bool.and_eq_true] at hacc
    exact hacc.2
  have e0 : List.replicate p.length false = List.replicate (p.length - 1) false ++ [false] := by
    rw [← List.replicate_succ', show p.length - 1 + 1 = p.length by omega]
  have hacc0 : accB l p (List.replicate (p.length - 1) false ++ [false]) = true := by
    rw [← e0, accB_none]
    exact hacc
  obtain ⟨h1, h2, h3⟩ := needL_spec l p (p.length - 1) [false] hacc0
  have hlen := needL_length l p (p.length - 1) (List.replicate p.length false)
  rw [List.length_replicate, e0] at hlen
  rw [e0]
  generalize needL l p (p.length - 1) (List.replicate (p.length - 1) false ++ [false]) = R at *
  have hlast : R.getLast? = some false := by
    have h4 : (R.drop (p.length - 1))[0]? = some false := by rw [h1]; rfl
    rw [List.getElem?_drop] at h4
    rw [List.getLast?_eq_getElem?, hlen]
    simpa using h4
  refine ⟨R, rfl, hlen, hlast, h2, fun k hk => ?_⟩
  obtain ⟨p1, c, p2, R1, R2, hp1, hR1, hlen1, hk1⟩ := selL_split p R k hlen hk
  have hlen2 : R2.length = p2.length := by
    rw [hp1, hR1] at hlen
    simp at hlen
    omega
  have hsel : selL p R = selL p1 R1 ++ c :: selL p2 R2 := by
    rw [hp1, hR1, selL_app _ _ _ _ hlen1, selL_cons, if_neg Bool.false_ne_true]
  have hrest : (selL p R).take k ++ (selL p R).drop (k + 1) = selL p1 R1 ++ selL p2 R2 := by
    rw [hsel, ← hk1]
    simp
  rw [hrest]
  have hp1l : LitsOk p1 := fun x hx => hp x (by rw [hp1]; exact List.mem_append_left _ hx)
  have hp2l : LitsOk p2 := fun x hx => hp x (by rw [hp1]; exact List.mem_append_right _ (List.mem_cons_of_mem _ hx))
  have hp2c : ∀ c ∈ p2, ∀ n ∈ c, -n ∉ c := fun x hx => hpc x (by rw [hp1]; exact List.mem_append_right _ (List.mem_cons_of_mem _ hx))
  have happ : ∀ {a b : List (List Int)}, LitsOk a → LitsOk b → LitsOk (a ++ b) := fun ha hb x hx => (List.mem_append.1 hx).elim (ha x) (hb x)
  cases hres : accB l (selL p1 R1 ++ selL p2 R2) [] with
  | false => rfl
  | true =>
    exfalso
    rw [accB_ok, Bool.and_eq_true] at hres
    by_cases hp2e : p2 = []
    · subst hp2e
      obtain rfl : R2 = [] := List.eq_nil_of_length_eq_zero (by simpa using hlen2)
      have hce : c = [] := by
        obtain ⟨q, hq⟩ := lastEmpty_split hle
        rw [hp1] at hq
        have := List.append_inj' hq rfl
        simpa using this.2
      obtain ⟨q, hq⟩ := lastEmpty_split hres.2
      simp only [selL, List.append_nil] at hq
      have hqk : q.length < (selL p1 R1).length := by rw [hq]; simp
      obtain ⟨q1, e, q2, S1, S2, g1, g2, g3, g4⟩ := selL_split p1 R1 q.length hlen1 hqk
      have g5 : S2.length = q2.length := by
        rw [g1, g2] at hlen1
        simp at hlen1
        omega
      have hs2 : selL p1 R1 = selL q1 S1 ++ e :: selL q2 S2 := by
        rw [g1, g2, selL_app _ _ _ _ g3, selL_cons, if_neg Bool.false_ne_true]
      rw [hs2] at hq
      obtain ⟨hq1, hq2⟩ := List.append_inj hq g4
      have he : e = [] ∧ selL q2 S2 = [] := by simpa using hq2
      obtain ⟨he1, he2⟩ := he
      have hpe : p = q1 ++ e :: (q2 ++ [c]) := by rw [hp1, g1]; simp
      have hRe : R = S1 ++ false :: (S2 ++ [false]) := by rw [hR1, g2]; simp
      have hm : q1.length < p.length - 1 := by rw [hpe]; simp
      obtain ⟨a1, a2⟩ := h3 q1.length hm
      have hdrop : R.drop (q1.length + 1) = S2 ++ [false] := by
        rw [hRe, ← g3]
        simp
      rw [hdrop] at a1 a2
      have hRm : R[q1.length]? = some false := by
        rw [hRe, ← g3]
        simp
      rw [hRm] at a2
      have a3 := (Option.some.inj a2).symm
      rw [accB_ok, hle, Bool.and_true] at a1 a3
      rw [List.replicate_succ', List.append_assoc] at a1
      rw [hpe, okC_app _ _ _ _ _ (by simp), Bool.and_eq_true] at a1
      rw [hpe, okC_app _ _ _ _ _ (by simp)] at a3
      have a5 := a1.2
      rw [List.singleton_append, okC_cons, if_neg Bool.false_ne_true, Bool.and_eq_true] at a5
      rw [a1.1, Bool.true_and, okC_cons, if_pos rfl, okC_app _ _ _ _ _ g5, okC_none q2 S2 _ g5 he2, Bool.true_and, he2, List.append_nil, okC_cons, if_neg Bool.false_ne_true, hce, ← he1, a5.1] at a3
      simp [okC, checkD] at a3
    · have hm : p1.length < p.length - 1 := by
        have : 0 < p2.length := List.length_pos_iff.2 hp2e
        rw [hp1]
        simp
        omega
      obtain ⟨a1, a2⟩ := h3 p1.length hm
      have hdrop : R.drop (p1.length + 1) = R2 := by
        rw [hR1, ← hlen1]
        simp
      rw [hdrop] at a1 a2
      have hRm : R[p1.length]? = some false := by
        rw [hR1, ← hlen1]
        simp
      rw [hRm] at a2
      have a3 := (Option.some.inj a2).symm
      rw [accB_ok, hle, Bool.and_true] at a1 a3
      rw [List.replicate_succ', List.append_assoc] at a1
      rw [hp1, okC_app _ _ _ _ _ (by simp), Bool.and_eq_true] at a1
      rw [hp1, okC_app _ _ _ _ _ (by simp), a1.1, Bool.true_and, selL_repl, okC_cons, if_pos rfl] at a3
      have hsp : okC (p1 ++ p2) (R1 ++ R2) l = true := by
        have := checkD_sel (p1 ++ p2) (R1 ++ R2) l 0 0
        rw [selL_app _ _ _ _ hlen1] at this
        unfold okC
        rw [this]
        exact hres.1
      rw [okC_app _ _ _ _ _ hlen1, Bool.and_eq_true] at hsp
      have := okC_mono p2 R2 (l ++ selL p1 R1) (l ++ p1) hlen2 (fun x hx => by
        rcases List.mem_append.1 hx with hx | hx
        · exact List.mem_append_left _ hx
        · exact List.mem_append_right _ (selL_sub p1 R1 x hx)) (happ hl fun x hx => hp1l x (selL_sub p1 R1 x hx)) (happ hl hp1l) hp2l hp2c hsp.2
      rw [this] at a3
      cases a3

theorem solveP_true {v : Int} {l : List (List Int)} (h0 : 0 ≤ v) (h1 : v ≤ 12) (hl : LitsV v l) (hn : l.length ≤ 1000) (h : (solveP v l).1 = true) : (solveP v l).2.1.length = v.toNat ∧ (solveP v l).2.2.2 = true ∧ holdsB l (solveP v l).2.1 = true :=
  solveL_true v l 700 [] [] (solveOk_nil h0 h1 hl hn) (by unfold solveM; simp) h
def unitsL (l : List Int) : List (List Int) := l.map fun x => [x]
theorem unitsL_length (l : List Int) : (unitsL l).length = l.length := by simp [unitsL]
theorem units_l (l : List Int) (hl : l.length ≤ 1048576) : ∀ (d i k : Nat) (y : List (List Int)), i + d = l.length → y.length = i → d < k → impl_units.l0 k y l (l.length : Int) (i : Int) = some (y ++ unitsL (l.drop i))
  | 0, i, k, y, h1, h2, hk => by
    obtain ⟨k, rfl⟩ : ∃ m, k = m + 1 := ⟨k - 1, by omega⟩
    simp only [impl_units.l0]
    rw [if_neg (by omega), List.drop_of_length_le (by omega)]
    simp [unitsL]
  | d + 1, i, k, y, h1, h2, hk => by
    obtain ⟨k, rfl⟩ : ∃ m, k = m + 1 := ⟨k - 1, by omega⟩
    simp only [impl_units.l0]
    rw [if_pos (by omega), if_pos (by omega), if_pos (by omega), if_pos (by omega), rd_nat l i (by omega), next64 (by omega), units_l l hl d (i + 1) k _ (by omega) (by simp [h2]) (by omega), drop_at l i (by omega), unitsL, unitsL, List.map_cons, List.append_assoc]
    rfl
theorem units_val (l : List Int) (hl : l.length ≤ 1048576) (k : Nat) (hk : l.length < k) : impl_units.f k l = some (unitsL l) := by
  unfold impl_units.f
  have := units_l l hl l.length 0 k [] (by omega) rfl hk
  simpa using this
theorem units_litsV {v : Int} (h0 : 0 ≤ v) (h1 : v ≤ 12) {g : List Int} (h : isClauseB g v = true) : LitsV v (unitsL g) := by
  obtain ⟨_, b⟩ := isClause_facts h
  intro c hc
  obtain ⟨x, hx, rfl⟩ := List.mem_map.1 hc
  refine ⟨by simp, fun n hn => ?_⟩
  have : n = x := by simpa using hn
  subst this
  exact litB_small h0 h1 (b n hx)
def noR_ : Bool × List Bool × List (List Int) × Bool := (false, [], [], false)
def solveWithR (v : Int) (l : List (List Int)) (g : List Int) : Bool × List Bool × List (List Int) × Bool :=
  if goodB v l = true then (if isClauseB g v = true then (if l.length + g.length > 60 then noR_ else solveP v (l ++ unitsL g)) else noR_) else noR_
theorem implSolveWith_val (v : Int) (l : List (List Int)) (g : List Int) (hl : l.length ≤ 1048576) (hg : g.length ≤ 1048576) (k : Nat) (hk : 8000000 ≤ k) : impl_SolveWith.f k v l g = some (solveWithR v l g) := by
  unfold impl_SolveWith.f impl_isClause.f solveWithR
  rw [units_val g hg k (by omega)]
  simp only [Option.bind_some]
  rw [if_pos (by rw [unitsL_length]; omega), implGood_val]
  simp only [Option.bind_some]
  cases hgo : goodB v l with
  | false => rfl
  | true =>
    obtain ⟨h0, h1, h60, _⟩ := goodB_facts hgo
    rw [if_pos rfl, if_pos rfl]
    cases hc : isClauseB g v with
    | false => rfl
    | true =>
      rw [if_pos rfl, if_pos rfl, List.length_append, unitsL_length]
      by_cases h6 : l.length + g.length > 60
      · rw [if_pos h6, if_pos h6]
        rfl
      · rw [if_neg h6, if_neg h6]
        exact implSolve_val v _ h0 h1 ((good_litsV hgo).app (units_litsV h0 h1 hc)) (by rw [List.length_append, unitsL_length]; omega) k (by omega)
def followsR (v : Int) (l : List (List Int)) (c : List Int) : Bool × Bool :=
  if goodB v l = true then (if isClauseB c v = true then (if (solveWithR v l (negL c)).2.2.2 = true then (!(solveWithR v l (negL c)).1, true) else (false, false)) else (false, false)) else (false, false)
theorem negL_length (c : List Int) : (negL c).length = c.length := by simp [negL]
theorem implFollows_val (v : Int) (l : List (List Int)) (c : List Int) (hl : l.length ≤ 1048576) (hg : c.length ≤ 1048576) (k : Nat) (hk : 9000000 ≤ k) : impl_FollowsFrom.f k v l c = some (followsR v l c) := by
  obtain ⟨k, rfl⟩ : ∃ m, k = m + 1 := ⟨k - 1, by omega⟩
  have hf : impl_FollowsFrom.j0 (k + 1) v l c true = some (false, false) := by
    rw [impl_FollowsFrom.j0, if_pos rfl]
  unfold impl_FollowsFrom.f impl_isClause.f followsR
  rw [implGood_val, hf]
  simp only [Option.bind_some]
  cases hgo : goodB v l with
  | false => rfl
  | true =>
    rw [if_pos rfl, if_pos rfl]
    cases hc : isClauseB c v with
    | false => exact hf
    | true =>
      simp only [impl_FollowsFrom.j0, Bool.not_true]
      simp only [if_true]
      first | rw [if_neg Bool.false_ne_true] | skip
      rw [learn_val c hg k (by omega)]
      simp only [Option.bind_some]
      rw [show (c.map fun x => wrap64 (-x)) = negL c from rfl, implSolveWith_val v l (negL c) hl (by rw [negL_length]; exact hg) k (by omega)]
      simp only [Option.bind_some]
      cases (solveWithR v l (negL c)).2.2.2 <;> rfl

theorem holds_app {a b : List (List Int)} {m : List Bool} : holdsB (a ++ b) m = true ↔ holdsB a m = true ∧ holdsB b m = true := by
  rw [holds_iff, holds_iff, holds_iff]
  constructor
  · intro h
    exact ⟨fun c hc => h c (List.mem_append_left _ hc), fun c hc => h c (List.mem_append_right _ hc)⟩
  · rintro ⟨h1, h2⟩ c hc
    exact (List.mem_append.1 hc).elim (h1 c) (h2 c)
theorem holds_units {g : List Int} {m : List Bool} : holdsB (unitsL g) m = true ↔ ∀ x ∈ g, litAt m x = true := by
  rw [holds_iff]
  unfold unitsL
  constructor
  · intro h x hx
    have := h [x] (List.mem_map.2 ⟨x, hx, rfl⟩)
    simpa using this
  · intro h c hc
    obtain ⟨x, hx, rfl⟩ := List.mem_map.1 hc
    simpa using h x hx
theorem solveWith_cases {v : Int} {l : List (List Int)} {g : List Int} (h : (solveWithR v l g).2.2.2 = true) : goodB v l = true ∧ isClauseB g v = true ∧ l.length + g.length ≤ 60 ∧ solveWithR v l g = solveP v (l ++ unitsL g) := by
  unfold solveWithR at h ⊢
  cases hg : goodB v l with
  | false => rw [hg] at h; cases h
  | true =>
    cases hc : isClauseB g v with
    | false => rw [hg, hc] at h; cases h
    | true =>
      rw [hg, hc] at h
      simp only [if_true] at h ⊢
      by_cases h6 : l.length + g.length > 60
      · rw [if_pos h6] at h; cases h
      · rw [if_neg h6]
        exact ⟨by trivial, by trivial, by omega, rfl⟩
theorem with_lits {v : Int} {l : List (List Int)} {g : List Int} (hg : goodB v l = true) (hc : isClauseB g v = true) : LitsV v (l ++ unitsL g) := by
  obtain ⟨h0, h1, _, _⟩ := goodB_facts hg
  exact (good_litsV hg).app (units_litsV h0 h1 hc)
theorem solveWith_true {v : Int} {l : List (List Int)} {g : List Int} (h : (solveWithR v l g).2.2.2 = true) (hf : (solveWithR v l g).1 = true) : (solveWithR v l g).2.1.length = v.toNat ∧ holdsB l (solveWithR v l g).2.1 = true ∧ ∀ x ∈ g, litAt (solveWithR v l g).2.1 x = true := by
  obtain ⟨hg, hc, h6, e⟩ := solveWith_cases h
  obtain ⟨h0, h1, h60, _⟩ := goodB_facts hg
  rw [e] at hf ⊢
  obtain ⟨a, _, b⟩ := solveP_true h0 h1 (with_lits hg hc) (by rw [List.length_append, unitsL_length]; omega) hf
  obtain ⟨b1, b2⟩ := holds_app.1 b
  exact ⟨a, b1, holds_units.1 b2⟩
theorem follows_ok {v : Int} {l : List (List Int)} {c : List Int} (h : (followsR v l c).2 = true) : goodB v l = true ∧ isClauseB c v = true ∧ (solveWithR v l (negL c)).2.2.2 = true ∧ (followsR v l c).1 = !(solveWithR v l (negL c)).1 := by
  unfold followsR at h ⊢
  cases hg : goodB v l with
  | false => rw [hg] at h; cases h
  | true =>
    cases hc : isClauseB c v with
    | false => rw [hg, hc] at h; cases h
    | true =>
      cases hs : (solveWithR v l (negL c)).2.2.2 with
      | false => rw [hg, hc, hs] at h; cases h
      | true => exact ⟨rfl, rfl, rfl, rfl⟩
theorem clause_litsC {v : Int} {c : List Int} (h0 : 0 ≤ v) (h1 : v ≤ 12) (h : isClauseB c v = true) : LitsC c := fun n hn => by
  have := litB_small h0 h1 ((isClause_facts h).2 n hn)
  omega
/-- A clause that holds in all models follows. -/
theorem follows_of {v : Int} {l : List (List Int)} {c : List Int} (himp : ∀ m, holdsB l m = true → c.any (litAt m) = true) (h : (followsR v l c).2 = true) : (followsR v l c).1 = true := by
  obtain ⟨hg, hc, hs, e⟩ := follows_ok h
  obtain ⟨h0, h1, _, _⟩ := goodB_facts hg
  have hcl := clause_litsC h0 h1 hc
  rw [e]
  cases hf : (solveWithR v l (negL c)).1 with
  | false => rfl
  | true =>
    obtain ⟨_, b1, b2⟩ := solveWith_true hs hf
    obtain ⟨n, hn, hnt⟩ := List.any_eq_true.1 (himp _ b1)
    obtain ⟨n0, n1, n2⟩ := hcl n hn
    have := b2 (-n) ((negL_mem hcl).2 (by rw [Int.neg_neg]; exact hn))
    rw [asg_lit _ n n0 n1 n2, hnt] at this
    cases this
theorem vab_iff {a b : Int} (ha : -12 ≤ a ∧ a ≤ 12) (hb : -12 ≤ b ∧ b ≤ 12) : (vab a == vab b) = true ↔ a = b ∨ a = -b := by
  rw [beq_iff_eq, vab_abs ha.1 ha.2, vab_abs hb.1 hb.2]
  split <;> split <;> omega
theorem litB12 {n : Int} : litB n 12 = true ↔ n ≠ 0 ∧ -12 ≤ n ∧ n ≤ 12 := by
  unfold litB
  rw [neg64 (n := 12) (by omega) (by omega)]
  simp only [Bool.and_eq_true, decide_eq_true_eq]
/-- A clause of 12 variables, letter by letter. -/
theorem clause12_iff : ∀ (l seen : List Int), LitsC seen → (clauseFrom 12 seen l = true ↔ (∀ n ∈ l, n ≠ 0 ∧ -12 ≤ n ∧ n ≤ 12) ∧ (∀ n ∈ l, n ∉ seen ∧ -n ∉ seen) ∧ l.Nodup ∧ ∀ n ∈ l, -n ∉ l)
  | [], seen, _ => by simp [clauseFrom]
  | a :: r, seen, hs => by
    unfold clauseFrom
    rw [Bool.and_eq_true, Bool.and_eq_true, litB12]
    constructor
    · rintro ⟨h1, h2, h3⟩
      have hs' : LitsC (seen ++ [a]) := fun n hn => (List.mem_append.1 hn).elim (hs n) fun hn => by
        have : n = a := by simpa using hn
        exact this ▸ h1
      obtain ⟨b1, b2, b3, b4⟩ := (clause12_iff r (seen ++ [a]) hs').1 h3
      rw [Bool.not_eq_true', List.any_eq_false] at h2
      have ha : a ∉ seen ∧ -a ∉ seen := by
        constructor
        · intro h
          exact h2 a h ((vab_iff ⟨h1.2.1, h1.2.2⟩ ⟨h1.2.1, h1.2.2⟩).2 (.inl rfl))
        · intro h
          have := hs _ h
          exact h2 _ h ((vab_iff ⟨this.2.1, this.2.2⟩ ⟨h1.2.1, h1.2.2⟩).2 (.inr rfl))
      refine ⟨fun n hn => ?_, fun n hn => ?_, ?_, fun n hn hm => ?_⟩
      · rcases List.mem_cons.1 hn with rfl | hn
        · exact h1
        · exact b1 n hn
      · rcases List.mem_cons.1 hn with rfl | hn
        · exact ha
        · have := b2 n hn
          exact ⟨fun h => this.1 (List.mem_append_left _ h), fun h => this.2 (List.mem_append_left _ h)⟩
      · refine List.nodup_cons.2 ⟨fun h => (b2 a h).1 (by simp), b3⟩
      · rcases List.mem_cons.1 hn with rfl | hn'
        · rcases List.mem_cons.1 hm with hm | hm
          · omega
          · exact (b2 _ hm).2 (by rw [Int.neg_neg]; simp)
        · rcases List.mem_cons.1 hm with hm | hm
          · exact (b2 n hn').2 (by rw [hm]; simp)
          · exact b4 n hn' hm
    · rintro ⟨h1, h2, h3, h4⟩
      have ha := h1 a List.mem_cons_self
      have hs' : LitsC (seen ++ [a]) := fun n hn => (List.mem_append.1 hn).elim (hs n) fun hn => by
        have : n = a := by simpa using hn
        exact this ▸ ha
      obtain ⟨n1, n2⟩ := List.nodup_cons.1 h3
      refine ⟨ha, ?_, (clause12_iff r (seen ++ [a]) hs').2 ⟨fun n hn => h1 n (List.mem_cons_of_mem _ hn), fun n hn => ?_, n2, fun n hn hm => h4 n (List.mem_cons_of_mem _ hn) (List.mem_cons_of_mem _ hm)⟩⟩
      · rw [Bool.not_eq_true', List.any_eq_false]
        intro k hk he
        have hk' := hs k hk
        have h5 := h2 a List.mem_cons_self
        rcases (vab_iff ⟨hk'.2.1, hk'.2.2⟩ ⟨ha.2.1, ha.2.2⟩).1 he with e | e
        · exact h5.1 (e ▸ hk)
        · exact h5.2 (e ▸ hk)
      · have h5 := h2 n (List.mem_cons_of_mem _ hn)
        constructor
        · intro h
          rcases List.mem_append.1 h with h | h
          · exact h5.1 h
          · have : n = a := by simpa using h
            exact n1 (this ▸ hn)
        · intro h
          rcases List.mem_append.1 h with h | h
          · exact h5.2 h
          · have : -n = a := by simpa using h
            exact h4 n (List.mem_cons_of_mem _ hn) (by rw [this]; simp)
theorem free_len : ∀ (l out : List Int), (∀ n ∈ l, n ≠ 0 ∧ -12 ≤ n ∧ n ≤ 12) → (∀ n ∈ l, n ∉ out ∧ -n ∉ out) → l.Nodup → (∀ n ∈ l, -n ∉ l) → freeV (out ++ l) + l.length ≤ freeV out
  | [], out, _, _, _, _ => by simp
  | a :: r, out, h1, h2, h3, h4 => by
    have ha := h1 a List.mem_cons_self
    have ho := h2 a List.mem_cons_self
    obtain ⟨n1, n2⟩ := List.nodup_cons.1 h3
    have hlt := freeV_lt out a ha.1 ha.2.1 ha.2.2 (hasB_no.2 ho.1) (hasB_no.2 ho.2)
    have ih := free_len r (out ++ [a]) (fun n hn => h1 n (List.mem_cons_of_mem _ hn)) (fun n hn => by
      have h5 := h2 n (List.mem_cons_of_mem _ hn)
      constructor
      · intro h
        rcases List.mem_append.1 h with h | h
        · exact h5.1 h
        · have : n = a := by simpa using h
          exact n1 (this ▸ hn)
      · intro h
        rcases List.mem_append.1 h with h | h
        · exact h5.2 h
        · have : -n = a := by simpa using h
          exact h4 n (List.mem_cons_of_mem _ hn) (by rw [this]; simp)) n2 (fun n hn hm => h4 n (List.mem_cons_of_mem _ hn) (List.mem_cons_of_mem _ hm))
    rw [List.append_assoc] at ih
    simp only [List.singleton_append] at ih
    rw [List.length_cons]
    omega
theorem isClause12 {l : List Int} : isClauseB l 12 = true ↔ (∀ n ∈ l, n ≠ 0 ∧ -12 ≤ n ∧ n ≤ 12) ∧ l.Nodup ∧ ∀ n ∈ l, -n ∉ l := by
  unfold isClauseB
  rw [Bool.and_eq_true, decide_eq_true_eq, clause12_iff l [] (by simp [LitsC])]
  constructor
  · rintro ⟨⟨a, _, b, c⟩, _⟩
    exact ⟨a, b, c⟩
  · rintro ⟨a, b, c⟩
    refine ⟨⟨a, by simp, b, c⟩, ?_⟩
    have h1 := free_len l [] a (by simp) b c
    have h2 := freeV_le []
    omega
theorem sameInts_l (l : List Int) (hl : l.length ≤ 1048576) : ∀ (d i k : Nat), i + d = l.length → d < k → laws_sameInts.l0 k l l (l.length : Int) (i : Int) = some true
  | 0, i, k, h1, hk => by
    obtain ⟨k, rfl⟩ : ∃ m, k = m + 1 := ⟨k - 1, by omega⟩
    simp only [laws_sameInts.l0]
    rw [if_neg (by omega)]
  | d + 1, i, k, h1, hk => by
    obtain ⟨k, rfl⟩ : ∃ m, k = m + 1 := ⟨k - 1, by omega⟩
    simp only [laws_sameInts.l0, if_true]
    rw [if_pos (by omega), if_pos (by omega), if_pos (by omega), if_pos (by omega), next64 (by omega)]
    exact sameInts_l l hl d (i + 1) k (by omega) (by omega)
theorem sameInts_refl (l : List Int) (hl : l.length ≤ 1048576) (k : Nat) (hk : l.length < k) : laws_sameInts.f k l l = some true := by
  unfold laws_sameInts.f
  rw [if_pos rfl]
  exact sameInts_l l hl l.length 0 k (by omega) hk

theorem sameRows_l (l : List (List Int)) (hl : l.length ≤ 1048576) (hi : ∀ x ∈ l, x.length ≤ 1048576) : ∀ (d i k : Nat), i + d = l.length → d + 1048577 < k → laws_sameRows.l0 k l l (l.length : Int) (i : Int) = some true
  | 0, i, k, h1, hk => by
    obtain ⟨k, rfl⟩ : ∃ m, k = m + 1 := ⟨k - 1, by omega⟩
    simp only [laws_sameRows.l0]
    rw [if_neg (by omega)]
  | d + 1, i, k, h1, hk => by
    obtain ⟨k, rfl⟩ : ∃ m, k = m + 1 := ⟨k - 1, by omega⟩
    have hil : i < l.length := by omega
    have hx : (rd_L1 l (i : Int)).length ≤ 1048576 := by
      unfold rd_L1
      rw [List.getD_eq_getElem?_getD, show ((i : Int).toNat) = i by omega, List.getElem?_eq_getElem hil]
      exact hi _ (List.getElem_mem _)
    simp only [laws_sameRows.l0]
    rw [if_pos (by omega), if_pos (by omega), if_pos (by omega), if_pos (by omega), sameInts_refl _ hx k (by omega), next64 (by omega)]
    simp only [Option.bind_some, if_true]
    exact sameRows_l l hl hi d (i + 1) k (by omega) (by omega)
theorem sameRows_refl (l : List (List Int)) (hl : l.length ≤ 1048576) (hi : ∀ x ∈ l, x.length ≤ 1048576) (k : Nat) (hk : 3000000 ≤ k) : laws_sameRows.f k l l = some true := by
  unfold laws_sameRows.f
  rw [if_pos rfl]
  exact sameRows_l l hl hi l.length 0 k (by omega) (by omega)

theorem numberOf_l (l : List Int) (hl : l.length ≤ 10000000) (hu : U8 l) : ∀ (d i k : Nat) (n : Int), i + d = l.length → d < k → 0 ≤ n → n ≤ 1000003 → ∃ r, laws_numberOf.l0 k n l (l.length : Int) (i : Int) = some r ∧ 0 ≤ r ∧ r ≤ 1000003
  | 0, i, k, n, h1, hk, h2, h3 => by
    obtain ⟨k, rfl⟩ : ∃ m, k = m + 1 := ⟨k - 1, by omega⟩
    simp only [laws_numberOf.l0]
    rw [if_neg (by omega)]
    exact ⟨n, rfl, h2, h3⟩
  | d + 1, i, k, n, h1, hk, h2, h3 => by
    obtain ⟨k, rfl⟩ : ∃ m, k = m + 1 := ⟨k - 1, by omega⟩
    have hil : i < l.length := by omega
    have hb := hu _ (List.getElem_mem hil)
    simp only [laws_numberOf.l0]
    rw [if_pos (by omega), if_pos (by omega), if_pos (by omega), rd_nat l i hil, next64 (by omega), w64 (x := 31 * n) (by omega) (by omega), w64 (x := l[i]) (by omega) (by omega), w64 (by omega) (by omega), Int.tmod_eq_emod_of_nonneg (by omega)]
    exact numberOf_l l hl hu d (i + 1) k _ (by omega) (by omega) (by omega) (by omega)
theorem numberOf_ok (l : List Int) (hl : l.length ≤ 10000000) (hu : U8 l) (k : Nat) (hk : l.length < k) : ∃ r, laws_numberOf.f k l = some r ∧ 0 ≤ r ∧ r ≤ 1000003 := by
  unfold laws_numberOf.f
  exact numberOf_l l hl hu l.length 0 k 0 (by omega) hk (by omega) (by omega)

/-- What IsAtOnce returns. -/
def isAtOnceR (v : Int) (l : List (List Int)) (c : List Int) : Bool × Bool := if goodB v l = true then (if isClauseB c v = true then (atOnceB l c, true) else (false, false)) else (false, false)
theorem isAtOnceR_true {v : Int} {l : List (List Int)} {c : List Int} (h2 : (isAtOnceR v l c).2 = true) (h1 : (isAtOnceR v l c).1 = true) : goodB v l = true ∧ isClauseB c v = true ∧ atOnceB l c = true := by
  unfold isAtOnceR at h1 h2
  cases hg : goodB v l with
  | false => rw [hg] at h2; cases h2
  | true =>
    cases hc : isClauseB c v with
    | false => rw [hg, hc] at h2; cases h2
    | true =>
      rw [hg, hc] at h1
      exact ⟨rfl, rfl, h1⟩
theorem implIsAtOnce_val (v : Int) (l : List (List Int)) (c : List Int) (k : Nat) (hk : 5000000 ≤ k) : impl_IsAtOnce.f k v l c = some (isAtOnceR v l c) := by
  unfold impl_IsAtOnce.f impl_isClause.f isAtOnceR
  rw [implGood_val]
  simp only [Option.bind_some]
  cases hg : goodB v l with
  | false => rfl
  | true =>
    obtain ⟨h0, h1, h60, _⟩ := goodB_facts hg
    simp only [if_true]
    cases hcl : isClauseB c v with
    | false => rfl
    | true =>
      have hc12 := (isClause_facts hcl).1
      simp only [if_true]
      unfold impl_atOnce.f
      rw [learn_val c (by omega) k (by omega)]
      simp only [Option.bind_some]
      rw [implProp_val l (good_litsOk hg) (by omega) _ (by simp; omega) k (by omega)]
      rfl
theorem specIsAtOnce_val (v : Int) (l : List (List Int)) (c : List Int) (hl : l.length ≤ 1048576) (hi : ∀ x ∈ l, x.length ≤ 1048576) (hc : c.length ≤ 1048576) (k : Nat) (hk : 5000000 ≤ k) : spec_IsAtOnce.f k v l c = some (isAtOnceR v l c) := by
  unfold spec_IsAtOnce.f spec_l4Given.f isAtOnceR
  rw [specGood_val v l hl hi k hk]
  simp only [Option.bind_some]
  cases hg : goodB v l with
  | false => rfl
  | true =>
    obtain ⟨h0, h1, h60, _⟩ := goodB_facts hg
    simp only [if_true]
    rw [clause_val v h0 h1 c hc k (by omega)]
    simp only [Option.bind_some]
    cases hcl : isClauseB c v with
    | false => rfl
    | true =>
      have hc12 := (isClause_facts hcl).1
      simp only [if_true]
      unfold spec_l6AtOnce.f
      rw [negate_val c hc k (by omega)]
      simp only [Option.bind_some]
      rw [specProp_val l (good_litsOk hg) (by omega) _ (by simp; omega) k (by omega)]
      rfl

theorem clause_no {v : Int} (h0 : 0 ≤ v) (h1 : v ≤ 12) {c : List Int} (h : isClauseB c v = true) : ∀ n ∈ c, -n ∉ c := by
  have hall := (isClause_facts h).2
  have h12 : isClauseB c 12 = true := by
    unfold isClauseB at h ⊢
    rw [Bool.and_eq_true] at h ⊢
    refine ⟨?_, h.2⟩
    have : ∀ (l seen : List Int), clauseFrom v seen l = true → clauseFrom 12 seen l = true := by
      intro l
      induction l with
      | nil => intro seen _; rfl
      | cons a r ih =>
        intro seen hh
        unfold clauseFrom at hh ⊢
        simp only [Bool.and_eq_true] at hh ⊢
        have := litB_small h0 h1 hh.1
        exact ⟨litB12.2 (by omega), hh.2.1, ih _ hh.2.2⟩
    exact this c [] h.1
  exact (isClause12.1 h12).2.2
theorem resolveLen (a b : List Int) (v : Int) (ha : a.length ≤ 1048576) (hb : b.length ≤ 1048576) (k : Nat) (hk : 5000000 ≤ k) : ∃ r ok, spec_Resolve.f k a b v = some (r, ok) ∧ r.length ≤ 1048576 := by
  obtain ⟨⟨r, ok⟩, h, h1⟩ := specResolve_some a b v ha hb k hk
  exact ⟨r, ok, h, h1⟩
theorem absVal (x : Int) : ∃ y, spec_l4Abs.f x = some y := by
  unfold spec_l4Abs.f
  split <;> exact ⟨_, rfl⟩
theorem followsFrom_l0 (n : Int) (l : List (List Int)) (hl : 1 < l.length) (hli : ∀ x ∈ l, x.length ≤ 100) (g : List Int) (hg : g.length ≤ 100) : ∀ (d i k : Nat), i + d = g.length → 6000000 + d ≤ k → ∃ c, spec_DrawFollowsFrom.l0 k n l g (g.length : Int) (i : Int) = some (n, l, c) ∧ c.length ≤ 1048576
  | 0, i, k, h1, hk => by
    obtain ⟨k, rfl⟩ : ∃ m, k = m + 1 := ⟨k - 1, by omega⟩
    simp only [spec_DrawFollowsFrom.l0]
    rw [if_neg (by omega), if_pos (by omega)]
    refine ⟨_, rfl, ?_⟩
    have := rdL_nat l 0 (by omega)
    rw [show ((0 : Nat) : Int) = 0 from rfl] at this
    rw [this]
    have := hli _ (List.getElem_mem (show 0 < l.length by omega))
    omega
  | d + 1, i, k, h1, hk => by
    obtain ⟨k, rfl⟩ : ∃ m, k = m + 1 := ⟨k - 1, by omega⟩
    have e0 := rdL_nat l 0 (by omega)
    have e1 := rdL_nat l 1 (by omega)
    rw [show ((0 : Nat) : Int) = 0 from rfl] at e0
    rw [show ((1 : Nat) : Int) = 1 from rfl] at e1
    have b0 := hli _ (List.getElem_mem (show 0 < l.length by omega))
    have b1 := hli _ (List.getElem_mem (show 1 < l.length by omega))
    simp only [spec_DrawFollowsFrom.l0]
    rw [if_pos (by omega), if_pos (by omega), if_pos (by omega), if_pos (by omega), if_pos (by omega), e0, e1, next64 (by omega)]
    obtain ⟨y, hy⟩ := absVal (rd g (i : Int))
    obtain ⟨r, ok, hr, hrl⟩ := resolveLen l[0] l[1] y (by omega) (by omega) k (by omega)
    rw [hy]
    simp only [Option.bind_some]
    rw [hr]
    simp only [Option.bind_some]
    cases ok with
    | true =>
      rw [if_pos rfl]
      exact ⟨r, rfl, hrl⟩
    | false =>
      rw [if_neg Bool.false_ne_true]
      exact followsFrom_l0 n l hl hli g hg d (i + 1) k (by omega) (by omega)
theorem drawFollows_ok {c : List Int} (hc : U8 c) (k : Nat) (hk : 9000000 ≤ k) : ∃ v l g, spec_DrawFollowsFrom.f k c = some (v, l, g) ∧ ClOk l 14 60 ∧ g.length ≤ 1048576 := by
  obtain ⟨k, rfl⟩ : ∃ m, k = m + 1 := ⟨k - 1, by omega⟩
  obtain ⟨v, l, g, e, hl, hg, v0, v1⟩ := drawPropagate_ok hc (k + 1) (by omega)
  unfold spec_DrawFollowsFrom.f
  rw [e]
  simp only [Option.bind_some]
  have hj : ∀ b : Bool, (b = true → 1 < l.length) → ∃ g', spec_DrawFollowsFrom.j0 (k + 1) v l g b = some (v, l, g') ∧ g'.length ≤ 1048576 := by
    intro b hb
    simp only [spec_DrawFollowsFrom.j0]
    cases b with
    | false =>
      rw [if_neg Bool.false_ne_true]
      exact ⟨g, rfl, by omega⟩
    | true =>
      have h1 := hb rfl
      have e0 := rdL_nat l 0 (by omega)
      rw [show ((0 : Nat) : Int) = 0 from rfl] at e0
      have b0 := hl.2 _ (List.getElem_mem (show 0 < l.length by omega))
      rw [if_pos rfl, if_pos (by omega), e0]
      exact followsFrom_l0 v l h1 (fun x hx => by have := hl.2 x hx; omega) l[0] (by omega) l[0].length 0 k (by omega) (by omega)
  by_cases h1 : (l.length : Int) > 1
  · rw [if_pos h1]
    obtain ⟨b, p2, s2, e2, a2, b2⟩ := one_ok hc 0 2 (p := 0) (by omega) (by omega)
    rw [e2]
    simp only [Option.bind_some]
    obtain ⟨g', e', hg'⟩ := hj b (fun _ => by omega)
    exact ⟨v, l, g', e', hl, hg'⟩
  · rw [if_neg h1]
    obtain ⟨g', e', hg'⟩ := hj false (fun h => by cases h)
    exact ⟨v, l, g', e', hl, hg'⟩
theorem trimmed_j3 {d : List Int} (hd : U8 d) (k : Nat) (hk : 12000000 ≤ k) : laws_FnTrimmed.j3 k d = some true := by
  obtain ⟨k, rfl⟩ : ∃ m, k = m + 2 := ⟨k - 2, by omega⟩
  obtain ⟨v, l, c, e, hl, hcl⟩ := drawFollows_ok hd (k + 1) (by omega)
  obtain ⟨hlb, hli⟩ := clOk_bounds hl (by omega) (by omega)
  have hdraw : spec_DrawIsAtOnce.f (k + 1) d = some (v, l, c) := by
    unfold spec_DrawIsAtOnce.f
    rw [e]
    rfl
  simp only [laws_FnTrimmed.j3]
  rw [hdraw]
  simp only [Option.bind_some]
  rw [implIsAtOnce_val v l c (k + 1) (by omega), specIsAtOnce_val v l c hlb hli hcl (k + 1) (by omega)]
  simp only [Option.bind_some, bne_self_eq_false]
  rw [if_neg Bool.false_ne_true]
  simp only [laws_FnTrimmed.j4]
  rw [if_neg Bool.false_ne_true]
  cases h2 : (isAtOnceR v l c).2 with
  | false => rw [if_neg Bool.false_ne_true]
  | true =>
    rw [if_pos rfl]
    cases h1 : (isAtOnceR v l c).1 with
    | false => rw [if_neg Bool.false_ne_true]
    | true =>
      rw [if_pos rfl, implFollows_val v l c hlb hcl k (by omega)]
      simp only [Option.bind_some]
      cases h3 : (followsR v l c).2 with
      | false => rw [if_neg Bool.false_ne_true]
      | true =>
        obtain ⟨hg, hcb, hat⟩ := isAtOnceR_true h2 h1
        obtain ⟨h0, h12, _, _⟩ := goodB_facts hg
        rw [if_pos rfl, follows_of (fun m hm => atOnce_sound (asg_lit m) (good_litsC hg) (holds_iff.1 hm) (clause_litsC h0 h12 hcb) hat) h3]
theorem trimmed_l0 {d : List Int} (hd : U8 d) (hdl : d.length ≤ 1048576) {v : Int} {l p t : List (List Int)} {n : List Int} (hp : p.length ≤ 1000) (hpi : ∀ x ∈ p, x.length ≤ 1000) (hn : ∀ x ∈ n, 0 ≤ x ∧ x < (p.length : Int)) (ht : t = n.map (rowIn_ p)) (htl : t.length ≤ 1000) (ht0 : 0 < t.length)
    (hg : goodB v l = true) (hgt : goodN v t 300 = true) (hrej : ∀ k, k < t.length → accB l (t.take k ++ t.drop (k + 1)) [] = false) : ∀ (q i k : Nat), i + q = n.length → 13000000 + q ≤ k → laws_FnTrimmed.l0 k d v l p t n (n.length : Int) (i : Int) = some true
  | 0, i, k, h1, hk => by
    obtain ⟨k, rfl⟩ : ∃ m, k = m + 1 := ⟨k - 1, by omega⟩
    obtain ⟨r, hr, r0, r1⟩ := numberOf_ok d (by omega) hd k (by omega)
    simp only [laws_FnTrimmed.l0]
    rw [if_neg (by omega), hr]
    simp only [Option.bind_some, List.nil_append, List.length_nil]
    have hm : Int.tmod r (t.length : Int) = r % (t.length : Int) := Int.tmod_eq_emod_of_nonneg r0
    have hm0 : 0 ≤ r % (t.length : Int) := Int.emod_nonneg _ (by omega)
    have hm1 : r % (t.length : Int) < (t.length : Int) := Int.emod_lt_of_pos _ (by omega)
    rw [hm]
    generalize r % (t.length : Int) = x at hm0 hm1
    obtain ⟨y, rfl⟩ : ∃ y : Nat, x = y := ⟨x.toNat, by omega⟩
    rw [w64 (x := (y : Int) + 1) (by omega) (by omega), if_neg (by omega), if_pos (by omega), if_pos (by omega), show ((y : Int).toNat) = y by omega, if_pos (by rw [List.length_take]; omega), if_pos (by omega), if_pos (by omega), show (((y : Int) + 1).toNat) = y + 1 by omega, if_pos (by rw [List.length_take, List.length_drop]; omega), implCheckProof_val v l _ k (by omega)]
    simp only [Option.bind_some]
    have hgood : goodN v (t.take y ++ t.drop (y + 1)) 300 = true := by
      obtain ⟨a, b, c, e⟩ := goodN_facts hgt
      unfold goodN
      rw [decide_eq_true a, decide_eq_true b, decide_eq_true (show (t.take y ++ t.drop (y + 1)).length ≤ 300 by rw [List.length_append, List.length_take, List.length_drop]; omega), List.all_eq_true.2 fun x hx => (List.mem_append.1 hx).elim (fun h => e x (List.mem_of_mem_take h)) (fun h => e x (List.mem_of_mem_drop h))]
      rfl
    unfold checkProofR
    rw [hg, hgood, Bool.and_self, if_pos rfl, checkR_acc, hrej y (by omega)]
    simp only [if_true]
    rw [if_neg Bool.false_ne_true]
    exact trimmed_j3 hd k (by omega)
  | q + 1, i, k, h1, hk => by
    obtain ⟨k, rfl⟩ : ∃ m, k = m + 1 := ⟨k - 1, by omega⟩
    have hil : i < n.length := by omega
    have htn : t.length = n.length := by rw [ht, List.length_map]
    obtain ⟨n0, n1⟩ := hn _ (List.getElem_mem hil)
    have e1 : rd_L1 t (i : Int) = rowIn_ p n[i] := by
      rw [rdL_nat t i (by omega)]
      simp only [ht, List.getElem_map]
    have e2 : rd_L1 p n[i] = rowIn_ p n[i] := rfl
    have e3 : (rowIn_ p n[i]).length ≤ 1000 := hpi _ (rowIn_mem_ n0 n1)
    simp only [laws_FnTrimmed.l0]
    rw [if_pos (by omega), if_pos (by omega), if_pos (by omega), if_pos (by omega), rd_nat n i hil, if_pos n0, if_pos n1, e1, e2, sameInts_refl _ (by omega) k (by omega), next64 (by omega)]
    simp only [Option.bind_some, if_true]
    exact trimmed_l0 hd hdl hp hpi hn ht htl ht0 hg hgt hrej q (i + 1) k (by omega) (by omega)

theorem FnTrimmed : laws_FnTrimmed.Pure := by
  intro c d hc0 hc1 hc2 hd0 hd1 hd2
  obtain ⟨k, hk⟩ : ∃ k : Nat, 20000000 ≤ k := ⟨_, Nat.le_refl _⟩
  refine ⟨k + 2, ?_⟩
  have hc := u8_of hc2
  have hd := u8_of hd2
  unfold laws_FnTrimmed.f
  by_cases hbig : wrap64 ((c.length : Int) + (d.length : Int)) > 1048576
  · rw [if_pos hbig]
  · rw [if_neg hbig]
    have hdl : d.length ≤ 1048576 := by
      rw [w64 (by omega) (by omega)] at hbig
      omega
    obtain ⟨v, l, p, p', s', e, hl, hp⟩ := proofOf_ok hc (k + 2) (by omega)
    obtain ⟨hlb, hli⟩ := clOk_bounds hl (by omega) (by omega)
    obtain ⟨hpb, hpi⟩ := clOk_bounds hp (by omega) (by omega)
    have hdraw : spec_DrawTrimProof.f (k + 2) c = some (v, l, p) := by
      unfold spec_DrawTrimProof.f spec_DrawCheckProof.f
      rw [e]
      rfl
    obtain ⟨hb1, hb2⟩ := trimR_bounds v l p hpb hpi
    have hb3 := neededR_length v l p hpb
    rw [hdraw]
    simp only [Option.bind_some]
    rw [implTrim_val v l p hpb hpi (k + 2) (by omega), specTrim_val v l p hlb hli hpb hpi (k + 2) (by omega), implNeeded_val v l p (k + 2) (by omega), specNeeded_val v l p hlb hli hpb hpi (k + 2) (by omega)]
    simp only [Option.bind_some, bne_self_eq_false]
    rw [if_neg Bool.false_ne_true, sameRows_refl _ hb1 hb2 (k + 2) (by omega)]
    simp only [Option.bind_some, if_true]
    rw [if_neg Bool.false_ne_true, sameInts_refl _ hb3 (k + 2) (by omega)]
    simp only [Option.bind_some, if_true, laws_FnTrimmed.j0]
    rw [show ((trimR v l p).2 != (neededR v l p).2) = false from bne_self_eq_false _, if_neg Bool.false_ne_true]
    cases hok : (trimR v l p).2 with
    | false =>
      rw [if_neg Bool.false_ne_true]
      exact trimmed_j3 hd (k + 1) (by omega)
    | true =>
      have hok2 : (neededR v l p).2 = true := hok
      have hgood : (goodB v l && goodN v p 300) = true ∧ accB l p [] = true := by
        unfold neededR at hok2
        split at hok2
        · split at hok2
          · exact ⟨by assumption, by assumption⟩
          · cases hok2
        · cases hok2
      obtain ⟨hgn, hacc⟩ := hgood
      have hne : (neededR v l p).1 = keepFrom (needL l p (p.length - 1) (List.replicate p.length false)) 0 := by
        unfold neededR
        rw [if_pos hgn, if_pos hacc]
      rw [Bool.and_eq_true] at hgn
      obtain ⟨hg, hnp⟩ := hgn
      obtain ⟨v0, v12, h60, _⟩ := goodB_facts hg
      obtain ⟨_, _, h300, hcla⟩ := goodN_facts hnp
      obtain ⟨R, hR1, hR2, hR3, hR4, hR5⟩ := trim_core (good_litsOk hg) (goodN_litsOk hnp) (fun c hc => clause_no v0 v12 (hcla c hc)) hacc
      rw [hR1] at hne
      have hts : (trimR v l p).1 = selL p R := by
        unfold trimR
        rw [hne]
        exact sel_keep p p R 0 hR2 (by simp)
      have hlen := selL_length p R
      have hgt : goodN v (selL p R) 300 = true := by
        unfold goodN
        rw [decide_eq_true v0, decide_eq_true v12, decide_eq_true (show (selL p R).length ≤ 300 by omega), List.all_eq_true.2 fun x hx => hcla x (selL_sub p R x hx)]
        rfl
      have hacct : accB l (selL p R) [] = true := by rw [accB_sel l p R hR2 hR3]; exact hR4
      have htpos := acc_pos hacct
      have hchk : checkProofR v l (selL p R) = (true, ((selL p R).length : Int), true) := by
        unfold checkProofR
        rw [hg, hgt, Bool.and_self, if_pos rfl, checkR_acc, hacct]
        rw [accB_ok, Bool.and_eq_true] at hacct
        unfold checkR
        have := hacct.1
        unfold okC at this
        rw [Option.isNone_iff_eq_none.1 this]
      have htn : (selL p R).length = (neededR v l p).1.length := by rw [← hts]; unfold trimR; rw [List.length_map]
      rw [if_pos rfl, implCheckProof_val v l _ (k + 1) (by omega), hts, hchk]
      simp only [Option.bind_some, if_true]
      rw [htn, if_pos rfl, ← htn, decide_eq_false (by omega)]
      simp only [laws_FnTrimmed.j1]
      rw [if_neg Bool.false_ne_true]
      refine trimmed_l0 hd hdl (by omega) (fun x hx => by have := (goodN_lits hnp x hx).1; omega) (neededR_mem v l p) hts.symm (by omega) htpos hg hgt hR5 (neededR v l p).1.length 0 k (by omega) (by omega)

end Go.Proofs.Ytpkbjgmeejlchaa.Pure
