-- Made by a program of this session (wip/tools), which leans on the kit's print: checked by Lean alone.
import Derived.Test.YtjopmdogdmdanaaPFnExactGoodDiagramx0
import Derived.Test.YtjopmdogdmdanaaPFnExactGoodDiagramx2
namespace Go.Proofs.Ytjopmdogdmdanaa.PFnExactGoodDiagram
open Go.RowKit Go.Proofs.YtjopmdogdmdanaaW.PrintWords Go.Proofs.YtjopmdogdmdanaaW.PrintLast Go.Proofs.YtjopmdogdmdanaaW.PrintMore
attribute [local go_sem] max2_int min2_int max_two min_two max_three min_three max_four min_four   -- for this text's walks alone
set_option linter.unusedVariables false
set_option linter.unusedSimpArgs false

/-! ### spec_l7B_build: function 83 -/
/-- What a builder's variable at g is: its row of nodes, what stays. -/
def ds_St (w0 w : World) (g : Nat) (a0 : Int) (u0 u : Value) (xs : List S92) (wc : World) : Prop :=
  wc.heap[g]? = some (.cells #[.int .i64 a0, u] 107 (0, 0)) ∧ Kd.R k92 92 wc w0.heap.size (fun k_ => some k_ = (u0 : Value).ownBlock ∨ w.heap.size ≤ k_) u xs ∧ Below w0.heap.size w0 wc ∧ Kept w wc (fun k_ => some k_ = (u0 : Value).ownBlock ∨ k_ = g)
theorem ds_St.start {w0 w : World} {g : Nat} {a0 : Int} {u : Value} {xs : List S92} (hbx : w.heap[g]? = some (.cells #[.int .i64 a0, u] 107 (0, 0))) (hB : Below w0.heap.size w0 w) (hR : Kd.R k92 92 w w0.heap.size (fun _ => True) u xs) : ds_St w0 w g a0 u u xs w := ⟨hbx, Kd.R_mono (Kd.R_tight rfl hR) (fun _ h => .inl h), hB, Kept.refl _ _⟩
theorem ds_St.below {w0 w wc w' : World} {g : Nat} {a0 : Int} {u0 u : Value} {xs : List S92} (h : ds_St w0 w g a0 u0 u xs wc) (hb : Below wc.heap.size wc w') : ds_St w0 w g a0 u0 u xs w' := ⟨blk_below h.1 hb, Kd.R_below h.2.1 hb, below_step h.2.2.1 hb, h.2.2.2.below hb⟩
theorem ds_St.z {w0 w wc w' : World} {g : Nat} {a0 : Int} {u0 u : Value} {xs : List S92} [i : Gw wc w'] (h : ds_St w0 w g a0 u0 u xs wc) : ds_St w0 w g a0 u0 u xs w' := h.below i.out
theorem ds_St.call {w0 w wc w' : World} {g : Nat} {a0 : Int} {u0 u u' : Value} {xs ys : List S92} (h : ds_St w0 w g a0 u0 u xs wc) (k : ds_St w0 wc g a0 u u' ys w') : ds_St w0 w g a0 u0 u' ys w' := by
  obtain ⟨h1, h2, h3, h4⟩ := h
  obtain ⟨k1, k2, k3, k4⟩ := k
  refine ⟨k1, Kd.R_mono k2 (fun k_ hk => hk.elim (fun e_ => h2.1 k_ e_.symm) (fun h_ => .inr (Nat.le_trans h4.1 h_))), k3, h4.then_ k4 (fun k_ hk => hk.elim (fun e_ => ?_) (fun e_ => .inl (.inr e_)))⟩
  exact (h2.1 k_ e_.symm).imp (fun h_ => .inl h_) id
theorem ds_St.set {w0 w wc : World} {g gn j : Nat} {a0 : Int} {u0 u v : Value} {xs : List S92} (h : ds_St w0 w g a0 u0 u xs wc) (h0 : w0.heap.size ≤ gn) (h1 : w.heap.size ≤ gn) (h2 : g ≠ gn) (h3 : some gn ≠ (u : Value).ownBlock) : ds_St w0 w g a0 u0 u xs (wc.setCell ⟨gn, j, none⟩ v) := ⟨blk_far h.1 (p := ⟨gn, j, none⟩) h2 v, Kd.R_mono (Kd.R_far (p := ⟨gn, j, none⟩) (Kd.R_tight2 rfl h.2.1) (fun k_ hk e_ => h3 (by have e2_ : k_ = gn := e_; rw [← e2_]; exact hk.1)) v) (fun _ hk => hk.2), below_set h.2.2.1 h0, h.2.2.2.setCell (p := ⟨gn, j, none⟩) (.inr h1) v⟩
theorem ds_St.ne {w0 wc w' : World} {g gn : Nat} {a0 : Int} {u0 u' : Value} {xs : List S92} (h : ds_St w0 wc g a0 u0 u' xs w') (h1 : gn < wc.heap.size) (h3 : some gn ≠ (u0 : Value).ownBlock) : some gn ≠ (u' : Value).ownBlock := fun e_ => (h.2.1.1 gn e_.symm).elim h3 (fun h_ => Nat.lt_irrefl _ (Nat.lt_of_lt_of_le h1 h_))
theorem ds_St.blk {w0 wc w' : World} {g gn : Nat} {a0 : Int} {u0 u' : Value} {xs : List S92} {ob : Obj} (h : ds_St w0 wc g a0 u0 u' xs w') (hb : wc.heap[gn]? = some ob) (h2 : g ≠ gn) (h3 : some gn ≠ (u0 : Value).ownBlock) : w'.heap[gn]? = some ob := (h.2.2.2.2 gn (blk_lt hb) (fun hk => hk.elim h3 (fun e_ => h2 e_.symm))).trans hb
theorem ds_St.row {w0 w wc w' : World} {g base : Nat} {a0 : Int} {u0 u u' v : Value} {xs ys : List S92} {l : List Bool} {ok : Nat → Prop} (h : ds_St w0 w g a0 u0 u ys wc) (k : ds_St w0 wc g a0 u u' xs w') (hl : Kd.R Kd.bool 4 wc base ok v l) : Kd.R Kd.bool 4 w' base ok v l := Kd.R_mono (Kd.R_kept (Kd.R_types (Kd.R_apart' hl (Kd.R_typed h.2.1) (by decide)) h.1 (by decide)) k.2.2.2 (fun k_ hk hs_ => hs_.elim hk.1.2 hk.2)) (fun _ hk => hk.1.1)
theorem ds_St.app {w0 w wc w' : World} {g : Nat} {a0 : Int} {u0 u v : Value} {xs ys : List S92} (h : ds_St w0 w g a0 u0 u xs wc) (ho : Kd.R k92 92 w' w0.heap.size (fun k_ => some k_ = (u0 : Value).ownBlock ∨ w.heap.size ≤ k_) v ys) (hb : Below w0.heap.size w0 w') (hg : wc.grownBy w' (u : Value).ownBlock) (hG : w0.heap.size ≤ g) : ds_St w0 w g a0 u0 v ys (w'.setCell ⟨g, 1, none⟩ v) := by
  have hx := blk_grown h.1 hg (Kd.R_ne h.2.1 h.1 (by decide))
  refine ⟨blk_put hx 1 v rfl, Kd.R_set ho hx (by decide) 1 v, below_set hb hG, Kept.setCell (Kept.of_grown hg h.2.2.2 (fun k_ e_ => (h.2.1.1 k_ e_).imp (fun h_ => .inl h_) id)) (p := ⟨g, 1, none⟩) (.inl (.inr rfl)) v⟩
theorem ds_n3 {w : World} {gn : Nat} {a b c x y z : Value} (h : w.heap[gn]? = some (.cells #[a, b, c] 92 (0, 0))) : (((w.setCell ⟨gn, 0, none⟩ x).setCell ⟨gn, 1, none⟩ y).setCell ⟨gn, 2, none⟩ z).heap[gn]? = some (.cells #[x, y, z] 92 (0, 0)) := blk_put (blk_put (blk_put h 0 x rfl) 1 y rfl) 2 z rfl
theorem ds_r3 {w : World} {gn base : Nat} {a b c x y z v : Value} {l : List Bool} {ok : Nat → Prop} (hl : Kd.R Kd.bool 4 w base ok v l) (h : w.heap[gn]? = some (.cells #[a, b, c] 92 (0, 0))) : Kd.R Kd.bool 4 (((w.setCell ⟨gn, 0, none⟩ x).setCell ⟨gn, 1, none⟩ y).setCell ⟨gn, 2, none⟩ z) base ok v l := Kd.R_set (Kd.R_set (Kd.R_set hl h (by decide) 0 x) (blk_put h 0 x rfl) (by decide) 1 y) (blk_put (blk_put h 0 x rfl) 1 y rfl) (by decide) 2 z
def spec_l7B_build.l1 : Nat → List S92 → Int → Int → Int → Int → Option Int
  | 0, _, _, _, _, _ => none
  | k + 1, ns, v, q, s, i => if i < (ns.length : Int) then (if 0 ≤ i then (if ((rd_T92 ns i).f0 == v && ((rd_T92 ns i).f1 == q && (rd_T92 ns i).f2 == s)) = true then some i else spec_l7B_build.l1 k ns v q s (wrap64 (i + 1))) else none) else some (-1)
def spec_l7B_build.f : Nat → Int → List S92 → List Bool → Option (Int × List S92)
  | 0, _, _, _ => none
  | k + 1, v, l0, l1 => if (l1.length : Int) = 1 then (if rdOf false l1 0 = true then some (1, l0) else some (0, l0)) else (spec_l7Half.f k l1 0).bind fun lo => (spec_l7Half.f k l1 1).bind fun hi => (spec_l7SameTable.f k lo hi).bind fun e => (if e = true then spec_l7B_build.f k (wrap64 (v + 1)) l0 lo else (spec_l7B_build.f k (wrap64 (v + 1)) l0 lo).bind fun q => (spec_l7B_build.f k (wrap64 (v + 1)) q.2 hi).bind fun s => (spec_l7B_build.l1 k s.2 v q.1 s.1 0).bind fun a => (if a < 0 then (if s.2.length < 17592186044 then some (wrap64 (((s.2.length + 1 : Nat) : Int) + 1), s.2 ++ [⟨v, q.1, s.1⟩]) else none) else some (wrap64 (a + 2), s.2)))
theorem spec_l7B_build.mono_l : ∀ k, (∀ y0 y1 y2 y3 y4, LeO (spec_l7B_build.l1 k y0 y1 y2 y3 y4) (spec_l7B_build.l1 (k + 1) y0 y1 y2 y3 y4))
  | 0 => fun _ _ _ _ _ r h => by simp [spec_l7B_build.l1] at h
  | k + 1 => by
    have ih0 := spec_l7B_build.mono_l k
    intro y0 y1 y2 y3 y4
    unfold spec_l7B_build.l1
    repeat' first
    | (with_reducible exact ih0 _ _ _ _ _)
    | (with_reducible exact LeO.refl _)
    | (with_reducible exact LeO.none _)
    | (with_reducible refine LeO.ite ?_ ?_)
theorem spec_l7B_build.mono_f : ∀ k, (∀ y0 y1 y2, LeO (spec_l7B_build.f k y0 y1 y2) (spec_l7B_build.f (k + 1) y0 y1 y2))
  | 0 => fun _ _ _ r h => by simp [spec_l7B_build.f] at h
  | k + 1 => by
    have ih0 := spec_l7B_build.mono_f k
    intro y0 y1 y2
    unfold spec_l7B_build.f
    repeat' first
    | (with_reducible exact ih0 _ _ _)
    | (with_reducible exact spec_l7B_build.mono_l k _ _ _ _ _)
    | (with_reducible exact spec_l7Half.mono _ _ _)
    | (with_reducible exact spec_l7SameTable.mono _ _ _)
    | (with_reducible exact LeO.refl _)
    | (with_reducible exact LeO.none _)
    | (with_reducible refine LeO.ite ?_ ?_)
    | (with_reducible refine LeO.bind ?_ (fun _ => ?_))
theorem spec_l7B_build.mono : ∀ a0 a1 a2 k, LeO (spec_l7B_build.f k a0 a1 a2) (spec_l7B_build.f (k + 1) a0 a1 a2) := fun a0 a1 a2 k => spec_l7B_build.mono_f k a0 a1 a2
theorem ds_eqA (d : Nat) (w : World) (x0 y0 : Int) (x1 y1 : Int) (x2 y2 : Int) :
    (Op.equalIn (d + 2) 92 (.agg #[.int .i64 x0, .int .i64 x1, .int .i64 x2]) (.agg #[.int .i64 y0, .int .i64 y1, .int .i64 y2])).run Try.prog w = .ok (x0 == y0 && (x1 == y1 && (x2 == y2))) w := by
  refine eqA_of Try.underlying92 (by kernel_rfl) ?_
  refine eqf_cons (by rfl) (by go_simp; rfl) (by go_simp; rfl) (by go_simp) ?_
  refine eqf_cons (by rfl) (by go_simp; rfl) (by go_simp; rfl) (by go_simp) ?_
  exact eqf_last (by rfl) (by go_simp; rfl) (by go_simp; rfl) (by go_simp)
attribute [local go_sem high] ds_eqA
set_option maxHeartbeats 4000000 in
set_option maxRecDepth 100000 in
theorem spec_l7B_build.calls : ∀ (k : Nat) (g : Nat) (a0 : Int) (u : Value) (l0 : List S92) (v : Int) (A1 : Option Addr) (c1 : Nat) (l1 : List Bool) (r1 : Int) (r2 : List S92) (w0 w : World) (hbx : w.heap[g]? = some (.cells #[.int .i64 a0, u] 107 (0, 0))) (hbg : w0.heap.size ≤ g) (hB : Below w0.heap.size w0 w) (hR : Kd.R k92 92 w w0.heap.size (fun _ => True) u l0) (hr1 : Kd.C Kd.bool w A1 l1.length l1) (hc1 : l1.length ≤ c1) (h : spec_l7B_build.f k v l0 l1 = some (r1, r2)),
    Calls Try.prog 83 #[.pointer (some ⟨g, 0, none⟩), .int .i64 v, .slice A1 l1.length c1] w fun e w' => ∃ u' : Value, e = .returned (.int .i64 r1) ∧ ds_St w0 w g a0 u u' r2 w' := by
  intro k
  induction k with
  | zero => intro g a0 u l0 v A1 c1 l1 r1 r2 w0 w hbx hbg hB hR hr1 hc1 h; simp [spec_l7B_build.f] at h
  | succ k ih =>
  intro g a0 u l0 v A1 c1 l1 r1 r2 w0 w hbx hbg hB hR hr1 hc1 h
  have hu := Try.underlying107
  have hun := Try.underlying92
  have HR1 := Aside0.mk hr1
  have HC1 := Aside0.mk hc1
  have HS0 := Aside0.mk (ds_St.start (a0 := a0) hbx hB hR)
  have HB0 := Aside0.mk hB
  have GB := Aside0.mk hbg
  have HB := Aside0.mk (Below.refl w.heap.size w)
  clear hbx hbg hB hR hr1 hc1
  simp only [spec_l7B_build.f] at h
  go_enter Try.func83, Try.ntmps83
  by_cases c1' : (l1.length : Int) = 1
  · rw [if_pos c1'] at h
    have c1b0 : ((l1.length : Int) == 1) = true := beq_iff_eq.mpr c1'
    have p1 : 0 ≤ (0 : Int) := by omega
    have q1 : (0 : Int) < (l1.length : Int) := by omega
    obtain ⟨ad, ea, hx1⟩ := Kd.at_bool HR1.out 0 p1 q1
    cases ea
    clear c1'
    have q2 : 0 < l1.length := by omega
    replace q1 := eq_true q1
    replace q2 := eq_true q2
    replace p1 := eq_true p1
    by_cases c2 : rdOf false l1 0 = true
    · rw [if_pos c2] at h
      rw [c2] at hx1
      replace hx1 : w.cell? ad = _ := hx1
      clear c2
      simp only [Option.some.injEq, Prod.mk.injEq] at h
      obtain ⟨rfl, rfl⟩ := h
      go_wp2
      repeat (go_quiet (fail); try go_wp2)
      go_ret
      first | exact ⟨by first | rfl | simp | (simp [*]; done), _, ds_St.z HS0.out⟩ | exact ⟨_, by first | rfl | simp | (simp [*]; done), ds_St.z HS0.out⟩
    · rw [if_neg c2] at h
      rw [Bool.not_eq_true] at c2
      rw [c2] at hx1
      replace hx1 : w.cell? ad = _ := hx1
      clear c2
      simp only [Option.some.injEq, Prod.mk.injEq] at h
      obtain ⟨rfl, rfl⟩ := h
      go_wp2
      repeat (go_quiet (fail); try go_wp2)
      go_ret
      first | exact ⟨by first | rfl | simp | (simp [*]; done), _, ds_St.z HS0.out⟩ | exact ⟨_, by first | rfl | simp | (simp [*]; done), ds_St.z HS0.out⟩
  · rw [if_neg c1'] at h
    have c1b0 : ((l1.length : Int) == 1) = false := beq_eq_false_iff_ne.mpr c1'
    clear c1'
    replace h := Option.bind_eq_some_iff.mp h
    obtain ⟨lo, G1', h⟩ := h
    replace h := Option.bind_eq_some_iff.mp h
    obtain ⟨hi, G1b', h⟩ := h
    replace h := Option.bind_eq_some_iff.mp h
    obtain ⟨eb, G2', h⟩ := h
    have G1 := Aside0.mk G1'
    have G1b := Aside0.mk G1b'
    have G2 := Aside0.mk G2'
    have H' := Aside0.mk h
    clear G1' G1b' G2' h
    have h := H'.out
    clear H'
    cases eb with
    | true =>
      rw [if_pos rfl] at h
      have H' := Aside0.mk h
      clear h
      go_wp2_with (first | (go_at_call 97; (with_reducible refine (spec_l7Half.calls k _ _ l1 0 lo _ ?side1 ?side2 G1.out).mono ?_); (case side1 => exact Kd.C_below HR1.out (zb_ HB.out)); (case side2 => exact HC1.out); rintro e w19 ⟨v_, rfl, ho, hb⟩; have n0_ := Aside0.mk (Kd.R_lower ho (below_size (zb_ HB.out))); have n1_ := Aside0.mk (below_step (zb_ HB.out) hb); clear HB ho hb; have HL := n0_; have HB := n1_; clear n0_ n1_; obtain ⟨Alo, clo, elo⟩ := Kd.R_slice HL.out; subst elo) | (go_at_call 97; (with_reducible refine (spec_l7Half.calls k _ _ l1 1 hi _ ?side1 ?side2 G1b.out).mono ?_); (case side1 => exact Kd.C_below HR1.out (zb_ HB.out)); (case side2 => exact HC1.out); rintro e w21 ⟨v_, rfl, ho, hb⟩; have n0_ := Aside0.mk (Kd.R_lower ho (below_size (zb_ HB.out))); have n1_ := Aside0.mk (below_step (zb_ HB.out) hb); have n2_ := Aside0.mk (Kd.R_below (zR_ HL.out) hb); clear HB HL ho hb; have HH := n0_; have HB := n1_; have HL := n2_; clear n0_ n1_ n2_; obtain ⟨Ahi, chi, ehi⟩ := Kd.R_slice HH.out; subst ehi) | (go_at_call 98; (with_reducible refine (spec_l7SameTable.calls k Alo clo lo Ahi chi hi _ _ ?side1 ?side2 ?side3 ?side4 G2.out).mono ?_); (case side1 => exact (Kd.R_reads' (zR_ HL.out)).2.2); (case side2 => exact (Kd.R_reads' HL.out).2.1); (case side3 => exact (Kd.R_reads' (zR_ HH.out)).2.2); (case side4 => exact (Kd.R_reads' HH.out).2.1); rintro e w14 ⟨rfl, ⟨m14, rfl⟩⟩) | (go_at_call 83; (with_reducible refine (ih g a0 u l0 (wrap64 (v + 1)) Alo clo lo r1 r2 w0 _ ?s1 GB.out ?s3 ?s4 ?s5 ?s6 H'.out).mono ?_); (case s1 => exact (ds_St.z (ds_St.below HS0.out HB.out)).1); (case s3 => exact (ds_St.z (ds_St.below HS0.out HB.out)).2.2.1); (case s4 => exact Kd.R_mono (ds_St.z (ds_St.below HS0.out HB.out)).2.1 (fun _ _ => trivial)); (case s5 => exact (Kd.R_reads' (zR_ HL.out)).2.2); (case s6 => exact (Kd.R_reads' HL.out).2.1); rintro e w29 ⟨u29, rfl, hs⟩; have n0_ := Aside0.mk (ds_St.call (ds_St.z (ds_St.below HS0.out HB.out)) hs); have HS := n0_; clear n0_ hs))
      go_ret
      first | exact ⟨by first | rfl | simp | (simp [*]; done), _, ds_St.z HS.out⟩ | exact ⟨_, by first | rfl | simp | (simp [*]; done), ds_St.z HS.out⟩
    | false =>
      rw [if_neg Bool.false_ne_true] at h
      replace h := Option.bind_eq_some_iff.mp h
      obtain ⟨⟨q1, q2⟩, G3', h⟩ := h
      (try dsimp only at h G3')
      have G3 := Aside0.mk G3'
      clear G3'
      replace h := Option.bind_eq_some_iff.mp h
      obtain ⟨⟨s1, s2⟩, G4', h⟩ := h
      (try dsimp only at h G4')
      have G4 := Aside0.mk G4'
      clear G4'
      replace h := Option.bind_eq_some_iff.mp h
      obtain ⟨at_, G5', h⟩ := h
      (try dsimp only at h G5')
      have G5 := Aside0.mk G5'
      clear G5'
      have H' := Aside0.mk h
      clear h
      go_upto_region 11 with (first | (go_at_call 97; (with_reducible refine (spec_l7Half.calls k _ _ l1 0 lo _ ?side1 ?side2 G1.out).mono ?_); (case side1 => exact Kd.C_below HR1.out (zb_ HB.out)); (case side2 => exact HC1.out); rintro e w19 ⟨v_, rfl, ho, hb⟩; have n0_ := Aside0.mk (Kd.R_lower ho (below_size (zb_ HB.out))); have n1_ := Aside0.mk (below_step (zb_ HB.out) hb); clear HB ho hb; have HL := n0_; have HB := n1_; clear n0_ n1_; obtain ⟨Alo, clo, elo⟩ := Kd.R_slice HL.out; subst elo) | (go_at_call 97; (with_reducible refine (spec_l7Half.calls k _ _ l1 1 hi _ ?side1 ?side2 G1b.out).mono ?_); (case side1 => exact Kd.C_below HR1.out (zb_ HB.out)); (case side2 => exact HC1.out); rintro e w21 ⟨v_, rfl, ho, hb⟩; have n0_ := Aside0.mk (Kd.R_lower ho (below_size (zb_ HB.out))); have n1_ := Aside0.mk (below_step (zb_ HB.out) hb); have n2_ := Aside0.mk (Kd.R_below (zR_ HL.out) hb); clear HB HL ho hb; have HH := n0_; have HB := n1_; have HL := n2_; clear n0_ n1_ n2_; obtain ⟨Ahi, chi, ehi⟩ := Kd.R_slice HH.out; subst ehi) | (go_at_call 98; (with_reducible refine (spec_l7SameTable.calls k Alo clo lo Ahi chi hi _ _ ?side1 ?side2 ?side3 ?side4 G2.out).mono ?_); (case side1 => exact (Kd.R_reads' (zR_ HL.out)).2.2); (case side2 => exact (Kd.R_reads' HL.out).2.1); (case side3 => exact (Kd.R_reads' (zR_ HH.out)).2.2); (case side4 => exact (Kd.R_reads' HH.out).2.1); rintro e w14 ⟨rfl, ⟨m14, rfl⟩⟩) | (go_at_call 83; (with_reducible refine (ih g a0 u l0 (wrap64 (v + 1)) Alo clo lo q1 q2 w0 _ ?s1 GB.out ?s3 ?s4 ?s5 ?s6 G3.out).mono ?_); (case s1 => exact (ds_St.z (ds_St.below HS0.out HB.out)).1); (case s3 => exact (ds_St.z (ds_St.below HS0.out HB.out)).2.2.1); (case s4 => exact Kd.R_mono (ds_St.z (ds_St.below HS0.out HB.out)).2.1 (fun _ _ => trivial)); (case s5 => exact (Kd.R_reads' (zR_ HL.out)).2.2); (case s6 => exact (Kd.R_reads' HL.out).2.1); rintro e w35 ⟨u35, rfl, hs⟩; have n0_ := Aside0.mk (ds_St.call (ds_St.z (ds_St.below HS0.out HB.out)) hs); have n1_ := Aside0.mk (ds_St.row (ds_St.z (ds_St.below HS0.out HB.out)) hs (zR_ HH.out)); clear HS0 HB HL HH hs; have HS := n0_; have HH := n1_; clear n0_ n1_) | ((with_reducible refine gate_dst (N := 9) rfl ?_); refine box_event ?hg (N := 9) ?hd (cs := #[.int .i64 0, .int .i64 0, .int .i64 0]) (t := 92) ?hr ?_; (case hd => rfl); (case hg => rfl); (case hr => first | (go_simp; done) | (go_simp; rfl)); intro gn hg w7 hbox hb; have n0_ := Aside0.mk (ds_St.below (ds_St.z HS.out) hb); have n1_ := Aside0.mk (Kd.R_below (zR_ HH.out) hb); have BN := Aside0.mk hbox; have GN := Aside0.mk ((by rw [hg]; exact (ds_St.z HS.out).2.2.2.1) : w.heap.size ≤ gn); have GA := Aside0.mk (Nat.le_trans HB0.out.size GN.out); have GC := Aside0.mk ((fun e_ => Nat.lt_irrefl _ (by have h_ := blk_lt HS.out.1; have h2_ := hb.size; rw [e_, hg] at h_; exact h_)) : g ≠ gn); have GD := Aside0.mk ((fun e_ => Nat.lt_irrefl _ (by have h_ := Kd.R_lt HS.out.2.1 gn e_.symm; rw [hg] at h_; exact h_)) : some gn ≠ (u35 : Value).ownBlock); clear HS HH; have HS := n0_; have HH := n1_; clear n0_ n1_; clear hb hbox hg; have hcz7_0 : w7.cell? ⟨gn, 0, none⟩ = some (.int .i64 0) := (blk_cell BN.out 0).trans rfl; have hcz7_1 : w7.cell? ⟨gn, 1, none⟩ = some (.int .i64 0) := (blk_cell BN.out 1).trans rfl; have hcz7_2 : w7.cell? ⟨gn, 2, none⟩ = some (.int .i64 0) := (blk_cell BN.out 2).trans rfl; have hfz7_0 := blk_frozen BN.out 0; have hfz7_1 := blk_frozen BN.out 1; have hfz7_2 := blk_frozen BN.out 2) | (go_at_call 83; (with_reducible refine (ih g a0 u35 q2 (wrap64 (v + 1)) Ahi chi hi s1 s2 w0 _ ?s1 GB.out ?s3 ?s4 ?s5 ?s6 G4.out).mono ?_); (case s1 => exact (ds_St.z (ds_St.set (j := 2) (v := .int .i64 0) (ds_St.set (j := 1) (v := .int .i64 q1) (ds_St.set (j := 0) (v := .int .i64 v) HS.out GA.out GN.out GC.out GD.out) GA.out GN.out GC.out GD.out) GA.out GN.out GC.out GD.out)).1); (case s3 => exact (ds_St.z (ds_St.set (j := 2) (v := .int .i64 0) (ds_St.set (j := 1) (v := .int .i64 q1) (ds_St.set (j := 0) (v := .int .i64 v) HS.out GA.out GN.out GC.out GD.out) GA.out GN.out GC.out GD.out) GA.out GN.out GC.out GD.out)).2.2.1); (case s4 => exact Kd.R_mono (ds_St.z (ds_St.set (j := 2) (v := .int .i64 0) (ds_St.set (j := 1) (v := .int .i64 q1) (ds_St.set (j := 0) (v := .int .i64 v) HS.out GA.out GN.out GC.out GD.out) GA.out GN.out GC.out GD.out) GA.out GN.out GC.out GD.out)).2.1 (fun _ _ => trivial)); (case s5 => exact (Kd.R_reads' (zR_ (ds_r3 (x := .int .i64 v) (y := .int .i64 q1) (z := .int .i64 0) HH.out BN.out))).2.2); (case s6 => exact (Kd.R_reads' (ds_r3 (x := .int .i64 v) (y := .int .i64 q1) (z := .int .i64 0) HH.out BN.out)).2.1); rintro e w41 ⟨u41, rfl, hs⟩; have n0_ := Aside0.mk (ds_St.call (ds_St.z (ds_St.set (j := 2) (v := .int .i64 0) (ds_St.set (j := 1) (v := .int .i64 q1) (ds_St.set (j := 0) (v := .int .i64 v) HS.out GA.out GN.out GC.out GD.out) GA.out GN.out GC.out GD.out) GA.out GN.out GC.out GD.out)) hs); have n2_ := Aside0.mk (ds_St.blk hs (zO_ (ds_n3 (x := .int .i64 v) (y := .int .i64 q1) (z := .int .i64 0) BN.out)) GC.out GD.out); have n3_ := Aside0.mk (ds_St.ne hs (blk_lt (zO_ (ds_n3 (x := .int .i64 v) (y := .int .i64 q1) (z := .int .i64 0) BN.out))) GD.out); clear HS HH BN GD hs; have HS := n0_; have BN := n2_; have GD := n3_; clear n0_ n2_ n3_; (try clear hcz7_0 hcz7_1 hcz7_2 hfz7_0 hfz7_1 hfz7_2); have hcz41_2 : w41.cell? ⟨gn, 2, none⟩ = some (.int .i64 0) := (blk_cell BN.out 2).trans rfl; have hfz41_2 := blk_frozen BN.out 2))
      obtain ⟨Au, cu, eu⟩ := Kd.R_slice HS.out.2.1
      subst eu
      have n0_ : Aside0 (ds_St w0 w g a0 u (.slice Au s2.length cu) s2 (w41.setCell ⟨gn, 2, none⟩ (.int .i64 s1))) := ⟨(ds_St.set (j := 2) (v := .int .i64 s1) HS.out GA.out GN.out GC.out GD.out)⟩
      have n1_ : Aside0 ((w41.setCell ⟨gn, 2, none⟩ (.int .i64 s1)).heap[gn]? = some (.cells #[.int .i64 v, .int .i64 q1, .int .i64 s1] 92 (0, 0))) := ⟨blk_put BN.out 2 (.int .i64 s1) rfl⟩
      clear HS BN
      have HS := n0_
      have BN := n1_
      clear n0_ n1_
      (try clear hcz41_2 hfz41_2)
      generalize (w41.setCell ⟨gn, 2, none⟩ (.int .i64 s1)) = w42 at HS BN ⊢
      have hcz42_1 : w42.cell? ⟨g, 1, none⟩ = some (.slice Au s2.length cu) := (blk_cell HS.out.1 1).trans rfl
      have hfz42_1 := blk_frozen HS.out.1 1
      go_wp2
      go_loopg [48] k (fun kq v48 w' => ∃ (x48 : Int), v48 = .int .i64 x48 ∧ Aside0 (spec_l7B_build.l1 kq s2 v q1 s1 x48 = some at_) ∧ Aside0 (kq ≤ k) ∧ Aside0 (ds_St w0 w g a0 u (.slice Au s2.length cu) s2 w') ∧ Aside0 (w'.heap[gn]? = some (.cells #[.int .i64 v, .int .i64 q1, .int .i64 s1] 92 (0, 0))))
      case atStart => exact ⟨0, rfl, G5, ⟨Nat.le_refl _⟩, ⟨ds_St.z HS.out⟩, ⟨zO_ BN.out⟩⟩
      case round =>
        clear G5 HS BN
        (try clear hcz42_1 hfz42_1)
        obtain ⟨x48, rfl, HA, HK1, HS, BN⟩ := hrel
        cases gk with
        | zero => exact absurd HA.out (by simp [spec_l7B_build.l1])
        | succ k1 =>
          have h := HA.out
          clear HA
          simp only [spec_l7B_build.l1] at h
          by_cases c3 : x48 < (s2.length : Int)
          · rw [if_pos c3] at h
            by_cases c4 : 0 ≤ x48
            · rw [if_pos c4] at h
              by_cases c5 : ((rd_T92 s2 x48).f0 == v && ((rd_T92 s2 x48).f1 == q1 && (rd_T92 s2 x48).f2 == s1)) = true
              · rw [if_pos c5] at h
                have c5b0 : ((rd_T92 s2 x48).f0 == v && ((rd_T92 s2 x48).f1 == q1 && (rd_T92 s2 x48).f2 == s1)) = true := c5
                clear c5
                obtain rfl := Option.some.inj h
                have h := H'.out
                clear H'
                rw [if_neg (by omega)] at h
                simp only [Option.some.injEq, Prod.mk.injEq] at h
                obtain ⟨rfl, rfl⟩ := h
                obtain ⟨ad, ea, hx_0, hx_1, hx_2⟩ := at_T92 (Kd.R_reads' HS.out.2.1).2.2 x48 c4 c3
                cases ea
                have c3b0 : decide (x48 < (s2.length : Int)) = true := decide_eq_true c3
                have p4 := eq_true c4
                have p3 := eq_true c3
                have hczA_0 : (wr.alloc (.cells #[.int .i64 ((rd_T92 s2 x48).f0), .int .i64 ((rd_T92 s2 x48).f1), .int .i64 ((rd_T92 s2 x48).f2)] 92 (0, 0))).cell? ⟨gn, 0, none⟩ = some (.int .i64 v) := (blk_cell (blk_alloc BN.out _) 0).trans rfl
                have hczA_1 : (wr.alloc (.cells #[.int .i64 ((rd_T92 s2 x48).f0), .int .i64 ((rd_T92 s2 x48).f1), .int .i64 ((rd_T92 s2 x48).f2)] 92 (0, 0))).cell? ⟨gn, 1, none⟩ = some (.int .i64 q1) := (blk_cell (blk_alloc BN.out _) 1).trans rfl
                have hczA_2 : (wr.alloc (.cells #[.int .i64 ((rd_T92 s2 x48).f0), .int .i64 ((rd_T92 s2 x48).f1), .int .i64 ((rd_T92 s2 x48).f2)] 92 (0, 0))).cell? ⟨gn, 2, none⟩ = some (.int .i64 s1) := (blk_cell (blk_alloc BN.out _) 2).trans rfl
                go_wp2
                repeat (go_quiet (fail); try go_wp2)
                go_ret
                first | exact ⟨by first | rfl | simp | (simp [*]; done), _, ds_St.z HS.out⟩ | exact ⟨_, by first | rfl | simp | (simp [*]; done), ds_St.z HS.out⟩
              · rw [if_neg c5] at h
                have c5b0 : ((rd_T92 s2 x48).f0 == v && ((rd_T92 s2 x48).f1 == q1 && (rd_T92 s2 x48).f2 == s1)) = false := (Bool.not_eq_true _).mp c5
                clear c5
                have H2 := Aside0.mk h
                clear h
                obtain ⟨ad, ea, hx_0, hx_1, hx_2⟩ := at_T92 (Kd.R_reads' HS.out.2.1).2.2 x48 c4 c3
                cases ea
                have c3b0 : decide (x48 < (s2.length : Int)) = true := decide_eq_true c3
                have p4 := eq_true c4
                have p3 := eq_true c3
                have hczA_0 : (wr.alloc (.cells #[.int .i64 ((rd_T92 s2 x48).f0), .int .i64 ((rd_T92 s2 x48).f1), .int .i64 ((rd_T92 s2 x48).f2)] 92 (0, 0))).cell? ⟨gn, 0, none⟩ = some (.int .i64 v) := (blk_cell (blk_alloc BN.out _) 0).trans rfl
                have hczA_1 : (wr.alloc (.cells #[.int .i64 ((rd_T92 s2 x48).f0), .int .i64 ((rd_T92 s2 x48).f1), .int .i64 ((rd_T92 s2 x48).f2)] 92 (0, 0))).cell? ⟨gn, 1, none⟩ = some (.int .i64 q1) := (blk_cell (blk_alloc BN.out _) 1).trans rfl
                have hczA_2 : (wr.alloc (.cells #[.int .i64 ((rd_T92 s2 x48).f0), .int .i64 ((rd_T92 s2 x48).f1), .int .i64 ((rd_T92 s2 x48).f2)] 92 (0, 0))).cell? ⟨gn, 2, none⟩ = some (.int .i64 s1) := (blk_cell (blk_alloc BN.out _) 2).trans rfl
                go_wp2
                repeat (go_quiet (fail); try go_wp2)
                go_roundg k1
                case measure => have := HK1.out; omega
                case rel => exact ⟨(wrap64 (x48 + 1)), rfl, H2, ⟨by have := HK1.out; omega⟩, ⟨ds_St.z HS.out⟩, ⟨zO_ BN.out⟩⟩
            · rw [if_neg c4] at h
              cases h
          · rw [if_neg c3] at h
            have c3b0 : decide (x48 < (s2.length : Int)) = false := decide_eq_false c3
            clear c3
            obtain rfl := Option.some.inj h
            have h := H'.out
            clear H'
            rw [if_pos (by decide)] at h
            by_cases c8 : s2.length < 17592186044
            case neg => rw [if_neg c8] at h; cases h
            rw [if_pos c8] at h
            have LM := Aside0.mk c8
            clear c8
            simp only [Option.some.injEq, Prod.mk.injEq] at h
            obtain ⟨rfl, rfl⟩ := h
            go_wp2
            have n0_ := Aside0.mk (ds_St.z HS.out : ds_St w0 w g a0 u (.slice Au s2.length cu) s2 wr.drew)
            have n1_ := Aside0.mk (zO_ BN.out : wr.drew.heap[gn]? = some (.cells #[.int .i64 v, .int .i64 q1, .int .i64 s1] 92 (0, 0)))
            clear HS BN
            have HS := n0_
            have BN := n1_
            clear n0_ n1_
            refine start_ (n := 11) (S := fun w' => w'.cell? ⟨g, 1, none⟩ = some (.slice Au s2.length cu) ∧ w'.cell? ⟨gn, 0, none⟩ = some (.int .i64 v) ∧ w'.cell? ⟨gn, 1, none⟩ = some (.int .i64 q1) ∧ w'.cell? ⟨gn, 2, none⟩ = some (.int .i64 s1)) (ds := [7, 10]) #[false, false, false, false, false, false, false, false, false, false, false] (by kernel_rfl) rfl rfl ⟨(blk_cell HS.out.1 1).trans rfl, (blk_cell BN.out 0).trans rfl, (blk_cell BN.out 1).trans rfl, (blk_cell BN.out 2).trans rfl⟩ (fun hHeld => ?_)
            generalize wr.drew = w67 at HS BN hHeld ⊢
            refine pure_ (i := 0) (N := some 59) (v := ?_) (a' := ?_) #[true, false, false, false, false, false, false, false, false, false, false] rfl rfl (by kernel_rfl) (fun _ _ _ h => h) (Or.inl ⟨by rfl, ?_⟩) ?_ ?_
            rotate_left
            · intro w'
              go_simp
              with_reducible rfl
            rotate_left
            · simp only [Act.put, List.setIfInBounds_toArray, List.set_cons_zero, List.set_cons_succ, i64_w, i32_w]
              rfl
            refine pure_ (i := 1) (N := some 60) (v := ?_) (a' := ?_) #[true, true, false, false, false, false, false, false, false, false, false] rfl rfl (by kernel_rfl) (fun _ _ _ h => h) (Or.inl ⟨by rfl, ?_⟩) ?_ ?_
            rotate_left
            · intro w'
              go_simp
              with_reducible rfl
            rotate_left
            · simp only [Act.put, List.setIfInBounds_toArray, List.set_cons_zero, List.set_cons_succ, i64_w, i32_w]
              rfl
            refine pure_ (i := 2) (N := some 61) (v := ?_) (a' := ?_) #[true, true, true, false, false, false, false, false, false, false, false] rfl rfl (by kernel_rfl) (fun _ _ _ h => h) (Or.inl ⟨by rfl, ?_⟩) ?_ ?_
            rotate_left
            · intro w'
              go_simp
              with_reducible rfl
            rotate_left
            · simp only [Act.put, List.setIfInBounds_toArray, List.set_cons_zero, List.set_cons_succ, i64_w, i32_w]
              rfl
            refine pure_ (i := 3) (N := some 62) (v := ?_) (a' := ?_) #[true, true, true, true, false, false, false, false, false, false, false] rfl rfl (by kernel_rfl) (fun _ _ _ h => h) (Or.inl ⟨by rfl, ?_⟩) ?_ ?_
            rotate_left
            · intro w'
              go_simp
              with_reducible rfl
            rotate_left
            · simp only [Act.put, List.setIfInBounds_toArray, List.set_cons_zero, List.set_cons_succ, i64_w, i32_w]
              rfl
            refine take_ (i := 4) (N := some 63) (v := ?_) (a' := ?_) #[true, true, true, true, true, false, false, false, false, false, false] rfl rfl (by kernel_rfl) (fun _ _ _ h => h) (Or.inl ⟨by rfl, ?_⟩) hHeld ?_ ?_
            rotate_left
            · rintro w' ⟨s0, s1, s2, s3⟩
              go_simp
              with_reducible rfl
            rotate_left
            · simp only [Act.put, List.setIfInBounds_toArray, List.set_cons_zero, List.set_cons_succ, i64_w, i32_w]
              rfl
            refine take_ (i := 5) (N := some 64) (v := ?_) (a' := ?_) #[true, true, true, true, true, true, false, false, false, false, false] rfl rfl (by kernel_rfl) (fun _ _ _ h => h) (Or.inl ⟨by rfl, ?_⟩) hHeld ?_ ?_
            rotate_left
            · rintro w' ⟨s0, s1, s2, s3⟩
              go_simp
              with_reducible rfl
            rotate_left
            · simp only [Act.put, List.setIfInBounds_toArray, List.set_cons_zero, List.set_cons_succ, i64_w, i32_w]
              rfl
            refine one_ (i := 6) (N := some 65) #[true, true, true, true, true, true, true, false, false, false, false] rfl rfl (by kernel_rfl) (by decide) (fun K hK => ?_)
            refine value_ (w1 := ?_) (v := ?_) (by rfl) rfl ?_ ?_
            rotate_left 2
            · go_simp
              constructor
              · rfl
              · rfl
            refine hK.out _ _ ⟨(blk_cell (blk_alloc HS.out.1 _) 1).trans rfl, (blk_cell (blk_alloc BN.out _) 0).trans rfl, (blk_cell (blk_alloc BN.out _) 1).trans rfl, (blk_cell (blk_alloc BN.out _) 2).trans rfl⟩ (fun hHeld => ?_)
            clear hK K
            refine norm_ (a' := ?_) ?_ ?_
            rotate_left
            · show Act.put _ (some 65) _ = _
              simp only [Act.put, List.setIfInBounds_toArray, List.set_cons_zero, List.set_cons_succ, i64_w, i32_w]
              rfl
            refine last_ (i := 7) (N := some 66) #[true, true, true, true, true, true, true, true, false, false, false] rfl rfl (by kernel_rfl) (by decide) (fun K hK => ?_)
            refine Kd.R_append_step k92 (w0 := w0) w0.heap.size (by rfl) (.tmp 63) (.tmp 65) 49 92 (.agg #[.int .i64 0, .int .i64 0, .int .i64 0]) 24 rfl Try.underlying49 info92 rfl (by decide) (by omega) (.slice Au s2.length cu) s2 (⟨v, q1, s1⟩ : S92) [.int .i64 v, .int .i64 q1, .int .i64 s1] (fun k_ => some k_ = (u : Value).ownBlock ∨ w.heap.size ≤ k_) (fun _ => False) rfl rfl ?aP (fun _ hk => hk.elim) ?aF ?aO ?aB ?aS ?aL ?_
            (case aP => exact k92_mkM _ _ _ (⟨v, q1, s1⟩ : S92))
            (case aB => exact HS.out.2.2.1)
            (case aF => exact (fun k_ hk => .inr (Nat.le_trans HS.out.2.2.2.1 hk)))
            (case aO => exact HS.out.2.1)
            (case aS => exact HS.out.2.2.1.size)
            (case aL => have := LM.out; omega)
            intro v80 w80 ho hb hg hat
            obtain ⟨Av, cv, ev⟩ := Kd.R_slice ho
            rw [show (s2 ++ [(⟨v, q1, s1⟩ : S92)]).length = s2.length + 1 from by simp] at ev
            subst ev
            have hx80 := blk_grown HS.out.1 hg (Kd.R_ne HS.out.2.1 HS.out.1 (by decide))
            have hcz80 : w80.cell? ⟨g, 1, none⟩ = some (.slice Au s2.length cu) := (blk_cell hx80 1).trans rfl
            have hfz80 := blk_frozen hx80 1
            have HSN := Aside0.mk (ds_St.app HS.out ho hb hg GB.out)
            clear ho hb hg hat hx80 HS BN
            refine hK.out _ _ ?_
            clear hK K
            refine norm_ (a' := ?_) ?_ ?_
            rotate_left
            · show Act.put _ (some 66) _ = _
              simp only [Act.put, List.setIfInBounds_toArray, List.set_cons_zero, List.set_cons_succ, i64_w, i32_w]
              rfl
            refine pure_ (i := 8) (N := some 67) (v := ?_) (a' := ?_) #[true, true, true, true, true, true, true, true, true, false, false] rfl rfl (by kernel_rfl) (fun _ _ _ h => h) (Or.inl ⟨by rfl, ?_⟩) ?_ ?_
            rotate_left
            · intro w'
              go_simp
              with_reducible rfl
            rotate_left
            · simp only [Act.put, List.setIfInBounds_toArray, List.set_cons_zero, List.set_cons_succ, i64_w, i32_w]
              rfl
            refine pure_ (i := 9) (N := some 68) (v := ?_) (a' := ?_) #[true, true, true, true, true, true, true, true, true, true, false] rfl rfl (by kernel_rfl) (fun _ _ _ h => h) (Or.inl ⟨by rfl, ?_⟩) ?_ ?_
            rotate_left
            · intro w'
              go_simp
              with_reducible rfl
            rotate_left
            · simp only [Act.put, List.setIfInBounds_toArray, List.set_cons_zero, List.set_cons_succ, i64_w, i32_w]
              rfl
            refine last_ (i := 10) (N := none) #[true, true, true, true, true, true, true, true, true, true, true] rfl rfl (by kernel_rfl) (by decide) (fun K hK => ?_)
            refine skip_ (w1 := ?_) (by rfl) rfl ?_ ?_
            rotate_left
            · go_simp
              rfl
            refine hK.out _ _ ?_
            clear hK K
            refine done_ (by kernel_rfl) ?_
            clear hcz80 hfz80
            generalize w80.setCell ⟨g, 1, none⟩ (.slice Av (s2.length + 1) cv) = w81 at HSN ⊢
            have hcz81_1 : w81.cell? ⟨g, 1, none⟩ = some (.slice Av (s2.length + 1) cv) := (blk_cell HSN.out.1 1).trans rfl
            have hfz81_1 := blk_frozen HSN.out.1 1
            go_wp2
            go_ret
            first | exact ⟨by first | rfl | simp | (simp [*]; done), _, ds_St.z HSN.out⟩ | exact ⟨_, by first | rfl | simp | (simp [*]; done), ds_St.z HSN.out⟩


/-! ### spec_l7Of: function 64 -/
def spec_l7Of.f (k : Nat) (a0 : Int) (l1 : List Bool) : Option (Int × List S92 × Int) := (spec_l7B_build.f k 1 [] l1).bind fun q => if q.2.length < 17592186044 then some (a0, q.2, q.1) else none
theorem spec_l7Of.mono : ∀ a0 a1 k, LeO (spec_l7Of.f k a0 a1) (spec_l7Of.f (k + 1) a0 a1) := by
  intro a0 a1 k
  unfold spec_l7Of.f
  exact LeO.bind (spec_l7B_build.mono_f k _ _ _) (fun _ => LeO.refl _)
theorem l7_put3 {w : World} {gn : Nat} {T : TypeId} {a b c x y z : Value} (h : w.heap[gn]? = some (.cells #[a, b, c] T (0, 0))) : (((w.setCell ⟨gn, 0, none⟩ x).setCell ⟨gn, 1, none⟩ y).setCell ⟨gn, 2, none⟩ z).heap[gn]? = some (.cells #[x, y, z] T (0, 0)) := blk_put (blk_put (blk_put h 0 x rfl) 1 y rfl) 2 z rfl
theorem l7_far3 {w : World} {gn gr : Nat} {T : TypeId} {cs : Array Value} {x y z : Value} (h : w.heap[gr]? = some (.cells cs T (0, 0))) (hne : gr ≠ gn) : (((w.setCell ⟨gn, 0, none⟩ x).setCell ⟨gn, 1, none⟩ y).setCell ⟨gn, 2, none⟩ z).heap[gr]? = some (.cells cs T (0, 0)) := blk_far (p := ⟨gn, 2, none⟩) (blk_far (p := ⟨gn, 1, none⟩) (blk_far (p := ⟨gn, 0, none⟩) h hne x) hne y) hne z
theorem l7_row3 {w : World} {gn base : Nat} {ok : Nat → Prop} {a b c x y z v : Value} {l : List S92} (hl : Kd.R k92 92 w base ok v l) (h : w.heap[gn]? = some (.cells #[a, b, c] 51 (0, 0))) : Kd.R k92 92 (((w.setCell ⟨gn, 0, none⟩ x).setCell ⟨gn, 1, none⟩ y).setCell ⟨gn, 2, none⟩ z) base ok v l := Kd.R_set (Kd.R_set (Kd.R_set hl h (by decide) 0 x) (blk_put h 0 x rfl) (by decide) 1 y) (blk_put (blk_put h 0 x rfl) 1 y rfl) (by decide) 2 z
theorem l7_below3 {w W : World} {gn : Nat} {x y z : Value} (h : Below w.heap.size w W) (hg : w.heap.size ≤ gn) : Below w.heap.size w (((W.setCell ⟨gn, 0, none⟩ x).setCell ⟨gn, 1, none⟩ y).setCell ⟨gn, 2, none⟩ z) := below_set (below_set (below_set h hg) hg) hg
set_option maxHeartbeats 4000000 in
set_option maxRecDepth 100000 in
theorem spec_l7Of.calls (k : Nat) (a0 : Int) (A1 : Option Addr) (c1 : Nat) (l1 : List Bool) (r1 : Int) (r2 : List S92) (r3 : Int) (w : World) (hr1 : Kd.C Kd.bool w A1 l1.length l1) (hc1 : l1.length ≤ c1) (h : spec_l7Of.f k a0 l1 = some (r1, r2, r3)) :
    Calls Try.prog 64 #[.int .i64 a0, .slice A1 l1.length c1] w fun e w' => ∃ v1_ : Value, e = .returned (.agg #[.int .i64 r1, v1_, .int .i64 r3]) ∧ Kd.R k92 92 w' w.heap.size (fun _ => True) v1_ r2 ∧ Below w.heap.size w w' := by
  have hub := Try.underlying107
  have hur := Try.underlying51
  have HR1 := Aside0.mk hr1
  have HC1 := Aside0.mk hc1
  clear hr1 hc1
  have HB := Aside0.mk (Below.refl w.heap.size w)
  unfold spec_l7Of.f at h
  replace h := Option.bind_eq_some_iff.mp h
  obtain ⟨⟨q1, q2⟩, G3', h⟩ := h
  (try dsimp only at h)
  have G3 := Aside0.mk G3'
  clear G3'
  by_cases c8 : q2.length < 17592186044
  case neg => rw [if_neg c8] at h; cases h
  rw [if_pos c8] at h
  have LM := Aside0.mk c8
  clear c8
  simp only [Option.some.injEq, Prod.mk.injEq] at h
  obtain ⟨rfl, rfl, rfl⟩ := h
  go_enter Try.func64, Try.ntmps64
  go_wp2_with (first | ((with_reducible refine gate_dst (N := 4) rfl ?_); refine box_event ?hg (N := 4) ?hd (cs := #[.int .i64 0, .slice none 0 0, .int .i64 0]) (t := 51) ?hr ?_; (case hd => rfl); (case hg => rfl); (case hr => first | (go_simp; done) | (go_simp; rfl)); intro g4 hg w1 hbox hb; have n0_ := Aside0.mk (below_step (zb_ HB.out) hb); have BR := Aside0.mk hbox; have GR := Aside0.mk ((by rw [hg]; exact (below_size (zb_ HB.out))) : w.heap.size ≤ g4); clear HB; have HB := n0_; clear n0_; clear hb hbox hg) | ((with_reducible refine gate_dst (N := 9) rfl ?_); refine box_event ?hg (N := 9) ?hd (cs := #[.int .i64 a0, .slice none 0 0]) (t := 107) ?hr ?_; (case hd => rfl); (case hg => rfl); (case hr => first | (go_simp; done) | (go_simp; rfl)); intro g9 hg w3 hbox hb; have NE := Aside0.mk ((by rw [hg]; exact Nat.ne_of_lt (blk_lt (zO_ BR.out))) : g4 ≠ g9); have n1_ := Aside0.mk (blk_below (zO_ BR.out) hb); have GE := Aside0.mk ((by rw [hg]; exact (below_size (zb_ HB.out))) : w.heap.size ≤ g9); have n0_ := Aside0.mk (below_step (zb_ HB.out) hb); have BD := Aside0.mk hbox; clear HB BR; have HB := n0_; have BR := n1_; clear n0_ n1_; clear hb hbox hg) | (go_at_call 83; (with_reducible refine (spec_l7B_build.calls k g9 a0 (.slice none 0 0) [] 1 A1 c1 l1 q1 q2 w _ ?s1 GE.out ?s3 ?s4 ?s5 HC1.out G3.out).mono ?_); (case s1 => exact zO_ BD.out); (case s3 => exact zb_ HB.out); (case s4 => exact Kd.R_nil _ _ _ _ _); (case s5 => exact Kd.C_below HR1.out (zb_ HB.out)); rintro e w8 ⟨u8, rfl, hs⟩; have n0_ := Aside0.mk (ds_St.blk hs (zO_ BR.out) (fun e_ => NE.out e_.symm) (by simp [Value.ownBlock])); have HS := Aside0.mk hs; clear HB BD BR hs; have BR := n0_; clear n0_; (try clear hcz3_0 hcz3_1 hcz3_2 hfz3_0 hfz3_1 hfz3_2); obtain ⟨Au, cu, eu⟩ := Kd.R_slice HS.out.2.1; subst eu) | ((with_reducible refine gate_dst (N := 14) rfl ?_); refine Kd.R_lit k92 _ 92 ?hg (N := 14) ?hd (xs := ([] : List S92)) (inner := []) (ok := fun _ => True) (okp := fun _ => True) ?hr ?hp (fun _ hk => hk) trivial (Below.refl _ _) (Nat.le_refl _) (by simp) ?_; (case hd => rfl); (case hg => rfl); (case hr => first | (go_simp; done) | (go_simp; rfl)); (case hp => exact (Reps.none _ _)); intro v14 w10 ho8 hb hg_ hnew_; clear hg_ hnew_; have n0_ := Aside0.mk (ds_St.below (ds_St.z HS.out) hb); have n1_ := Aside0.mk (blk_below (zO_ BR.out) hb); have HN := Aside0.mk (Kd.R_lower ho8 (below_size (ds_St.z HS.out).2.2.1)); clear HS BR hb ho8; have HS := n0_; have BR := n1_; clear n0_ n1_; have hcz10_1 : w10.cell? ⟨g9, 1, none⟩ = some (.slice Au q2.length cu) := (blk_cell HS.out.1 1).trans rfl; have hfz10_1 := blk_frozen HS.out.1 1) | ((with_reducible refine gate_builtin (b := .append) (xs := #[.tmp 14, .tmp 18]) rfl ?_); at_builtin; refine Kd.R_append_rows k92 (w0 := w) w.heap.size rfl (.tmp 14) (.tmp 18) 49 92 (.agg #[.int .i64 0, .int .i64 0, .int .i64 0]) 24 rfl Try.underlying49 info92 rfl (by decide) (by omega) v14 [] q2 _ _ _ (fun _ => True) (fun _ => False) rfl rfl ?aO (Kd.R_reads' HS.out.2.1).2.2 (fun x cs h_ => by have e_ := k92_open h_; subst e_; exact k92_mkM _ _ _ x) (fun _ h => h.elim) ?aF ?aB ?aS ?aL ?_; (case aB => exact HS.out.2.2.1); (case aF => exact (fun _ _ => trivial)); (case aO => exact HN.out); (case aS => exact HS.out.2.2.1.size); (case aL => have := LM.out; simp only [List.length_nil, Nat.zero_add]; omega); intro v19 w12 ho hb hg hat; have n1_ := Aside0.mk (blk_grown BR.out hg (Kd.R_ne HN.out BR.out (by decide))); have HO := Aside0.mk ho; have HB := Aside0.mk hb; clear HS BR HN; (try clear hcz10_1 hfz10_1); have BR := n1_; clear n1_ ho hb hg hat; obtain ⟨Av, cv, ev⟩ := Kd.R_slice HO.out; subst ev; (try simp only [List.nil_append] at HO); have hcz12_0 : w12.cell? ⟨g4, 0, none⟩ = some (.int .i64 0) := (blk_cell BR.out 0).trans rfl; have hcz12_1 : w12.cell? ⟨g4, 1, none⟩ = some (.slice none 0 0) := (blk_cell BR.out 1).trans rfl; have hcz12_2 : w12.cell? ⟨g4, 2, none⟩ = some (.int .i64 0) := (blk_cell BR.out 2).trans rfl; have hfz12_0 := blk_frozen BR.out 0; have hfz12_1 := blk_frozen BR.out 1; have hfz12_2 := blk_frozen BR.out 2))
  refine bodyPost_ret (results_cell_row rfl _ _ g4 51 #[.int .i64 a0, .slice Av q2.length cv, .int .i64 q1] (0, 0) _ rfl (zO_ (l7_put3 (x := .int .i64 a0) (y := .slice Av q2.length cv) (z := .int .i64 q1) BR.out)) Try.underlying51 rfl (by kernel_rfl)) rfl ?_
  exact ⟨_, by first | rfl | simp | (simp [*]; done), zR_ (l7_row3 (x := .int .i64 a0) (y := .slice Av q2.length cv) (z := .int .i64 q1) HO.out BR.out), zb_ (l7_below3 (x := .int .i64 a0) (y := .slice Av q2.length cv) (z := .int .i64 q1) HB.out GR.out)⟩


/-! ### spec_l1In: function 58 -/
def spec_l1In.f (a0 : Int) (a1 : Int) (a2 : Int) : Option (Bool) := if a0 ≥ a1 then (some (decide (a0 ≤ a2))) else (some false)
set_option maxHeartbeats 8000000 in
set_option maxRecDepth 100000 in
theorem spec_l1In.calls (a0 : Int) (a1 : Int) (a2 : Int) (r : Bool) (w : World) (h : spec_l1In.f a0 a1 a2 = some r) :
    Calls Try.prog 58 #[.int .i64 a0, .int .i64 a1, .int .i64 a2] w fun e w' => e = .returned (.bool r) ∧ Drawn0 w w' := by
  have H : (if a0 ≥ a1 then (some (decide (a0 ≤ a2))) else (some false)) = some r := h
  clear h
  by_cases c4 : a0 ≥ a1
  · rw [if_pos c4] at H
    have c4b0 : decide (a1 ≤ a0) = true := decide_eq_true c4
    clear c4
    obtain rfl := Option.some.inj H
    go_enter Try.func58, Try.ntmps58
    go_wp2
    go_ret
    exact ⟨by first | rfl | (simp; done) | (simp [*]; done), by repeat (first | exact Drawn0.refl _ | apply Drawn0.step)⟩
  · rw [if_neg c4] at H
    have c4b0 : decide (a1 ≤ a0) = false := decide_eq_false c4
    clear c4
    obtain rfl := Option.some.inj H
    go_enter Try.func58, Try.ntmps58
    go_wp2
    go_ret
    exact ⟨by first | rfl | (simp; done) | (simp [*]; done), by repeat (first | exact Drawn0.refl _ | apply Drawn0.step)⟩

/-! ### spec_l7Eval: function 86 -/
def spec_l7Eval.l0 : Nat → List Bool → Int → Int → List (S92) → Int → Option (Bool)
  | 0, _, _, _, _, _ => none
  | k + 1, x1, x5, x118000, x118001, x118002 => if x5 > 1 then (if 0 ≤ (wrap64 (x5 - 2)) then (if (wrap64 (x5 - 2)) < (x118001.length : Int) then (if 0 ≤ (wrap64 (((rd_T92 x118001 (wrap64 (x5 - 2))).f0) - 1)) then (if (wrap64 (((rd_T92 x118001 (wrap64 (x5 - 2))).f0) - 1)) < (x1.length : Int) then (if rdOf false x1 (wrap64 (((rd_T92 x118001 (wrap64 (x5 - 2))).f0) - 1)) = true then (spec_l7Eval.l0 k x1 ((rd_T92 x118001 (wrap64 (x5 - 2))).f2) x118000 x118001 x118002) else (spec_l7Eval.l0 k x1 ((rd_T92 x118001 (wrap64 (x5 - 2))).f1) x118000 x118001 x118002)) else (none)) else (none)) else (none)) else (none)) else (some (x5 == 1))
def spec_l7Eval.f (k : Nat) (a0_0 : Int) (l0_1 : List (S92)) (a0_2 : Int) (l1 : List Bool) : Option (Bool) := spec_l7Eval.l0 k l1 a0_2 a0_0 l0_1 a0_2
theorem spec_l7Eval.mono_l : ∀ k, (∀ y0 y1 y2 y3 y4, LeO (spec_l7Eval.l0 k y0 y1 y2 y3 y4) (spec_l7Eval.l0 (k + 1) y0 y1 y2 y3 y4))
  | 0 => fun _ _ _ _ _ r h => by simp [spec_l7Eval.l0] at h
  | k + 1 => by
    have ih0 := spec_l7Eval.mono_l k
    · intro y0 y1 y2 y3 y4
      unfold spec_l7Eval.l0
      repeat' first
      | (with_reducible exact ih0 _ _ _ _ _)
      | (with_reducible exact LeO.refl _)
      | (with_reducible exact LeO.none _)
      | (with_reducible refine LeO.ite ?_ ?_)
      | (with_reducible refine LeO.bind ?_ (fun _ => ?_))
      | exact ih0 _ _ _ _ _
      | exact LeO.none _
      | refine LeO.ite ?_ ?_
      | refine LeO.bind ?_ (fun _ => ?_)
theorem spec_l7Eval.mono : ∀ a0 a1 a2 a3 k, LeO (spec_l7Eval.f k a0 a1 a2 a3) (spec_l7Eval.f (k + 1) a0 a1 a2 a3) := by
  intro a0 a1 a2 a3 k
  have ih0 := spec_l7Eval.mono_l k
  unfold spec_l7Eval.f
  repeat' first
      | (with_reducible exact ih0 _ _ _ _ _)
      | (with_reducible exact LeO.refl _)
      | (with_reducible exact LeO.none _)
      | (with_reducible refine LeO.ite ?_ ?_)
      | (with_reducible refine LeO.bind ?_ (fun _ => ?_))
      | exact ih0 _ _ _ _ _
      | exact LeO.none _
      | refine LeO.ite ?_ ?_
      | refine LeO.bind ?_ (fun _ => ?_)
set_option maxHeartbeats 8000000 in
set_option maxRecDepth 100000 in
theorem spec_l7Eval.calls (k : Nat) (a0_0 : Int) (A0_1 : Option Addr) (c0_1 : Nat) (l0_1 : List (S92)) (a0_2 : Int) (A1 : Option Addr) (c1 : Nat) (l1 : List Bool) (r : Bool) (w : World) (hr0_1 : Kd.C k92 w A0_1 l0_1.length l0_1) (hc0_1 : l0_1.length ≤ c0_1) (hr1 : Kd.C Kd.bool w A1 l1.length l1) (hc1 : l1.length ≤ c1) (h : spec_l7Eval.f k a0_0 l0_1 a0_2 l1 = some r) :
    Calls Try.prog 86 #[.agg #[.int .i64 a0_0, .slice A0_1 l0_1.length c0_1, .int .i64 a0_2], .slice A1 l1.length c1] w fun e w' => e = .returned (.bool r) ∧ Below w.heap.size w w' := by
  have hu51 := Try.underlying51
  have hu92 := Try.underlying92
  have HR0_1 := Aside0.mk hr0_1
  have HC0_1 := Aside0.mk hc0_1
  clear hr0_1 hc0_1
  have HR1 := Aside0.mk hr1
  have HC1 := Aside0.mk hc1
  clear hr1 hc1
  have HB := Aside0.mk (Below.refl w.heap.size w)
  have H : (spec_l7Eval.l0 k l1 a0_2 a0_0 l0_1 a0_2) = some r := h
  clear h
  have H' := Aside0.mk H
  clear H
  go_enter Try.func86, Try.ntmps86
  go_wp2_with (first | ((with_reducible refine gate_dst (N := 2) rfl ?_); refine box_event ?hg (N := 2) ?hd (cs := #[.int .i64 a0_0, .slice A0_1 l0_1.length c0_1, .int .i64 a0_2]) (t := 51) ?hr ?_; (case hd => rfl); (case hg => rfl); (case hr => first | (go_simp; done) | (go_simp; rfl)); intro gb117 hg w3 hbox hb; have n0_ := Aside0.mk (below_step (by repeat (first | (with_reducible first | exact HB.out | apply below_alloc | apply pw_below_drewN | apply below_drew1) | exact HB.out)) hb); have n1_ := Aside0.mk (hbox); have n2_ := Aside0.mk ((by rw [hg]; exact (below_size (by repeat (first | (with_reducible first | exact HB.out | apply below_alloc | apply pw_below_drewN | apply below_drew1) | exact HB.out))) : w.heap.size ≤ gb117)); have n3_ := Aside0.mk ((by rw [hg]; exact (below_size (by repeat (first | (with_reducible first | exact HB.out | apply below_alloc | apply pw_below_drewN | apply below_drew1) | exact HB.out))) : w.heap.size ≤ gb117)); clear HB; have HB := n0_; have BK117 := n1_; have GW117 := n2_; have GE117 := n3_; clear n0_ n1_ n2_ n3_; clear hb hbox hg; have hcz4_0 : w3.cell? ⟨gb117, 0, none⟩ = some (.int .i64 a0_0) := (blk_cell BK117.out 0).trans rfl; have hcz4_1 : w3.cell? ⟨gb117, 1, none⟩ = some (.slice A0_1 l0_1.length c0_1) := (blk_cell BK117.out 1).trans rfl; have hcz4_2 : w3.cell? ⟨gb117, 2, none⟩ = some (.int .i64 a0_2) := (blk_cell BK117.out 2).trans rfl; have hfz4_0 := blk_frozen BK117.out 0; have hfz4_1 := blk_frozen BK117.out 1; have hfz4_2 := blk_frozen BK117.out 2))
  go_loopg [5] k (fun kq v5 w' => ∃ (x5_1 : Int), v5 = .int .i64 x5_1 ∧ Aside0 (spec_l7Eval.l0 kq l1 x5_1 a0_0 l0_1 a0_2 = some r) ∧ Aside0 (kq ≤ k) ∧ Aside0 (w'.heap[gb117]? = some (.cells #[.int .i64 a0_0, (.slice A0_1 l0_1.length c0_1), .int .i64 a0_2] 51 (0, 0))) ∧ Aside0 (Below w.heap.size w w'))
  case atStart => exact ⟨(a0_2), (by first | rfl | (simp; done) | (simp [*]; done)), H', ⟨Nat.le_refl _⟩, ⟨by (with_reducible repeat (first | refine blk_drewN ?_ _ | refine blk_drew ?_ | refine blk_alloc ?_ _)); exact BK117.out⟩, ⟨by repeat (first | (with_reducible first | exact HB.out | apply below_alloc | apply pw_below_drewN | apply below_drew1 | refine below_set ?_ GE117.out) | exact HB.out)⟩⟩
  case round =>
    clear H'
    try clear c1
    try clear p2
    try clear hcz4_0
    try clear hcz4_1
    try clear hcz4_2
    try clear hfz4_0
    try clear hfz4_1
    try clear hfz4_2
    obtain ⟨x5_1, rfl, HA, HK1, BK117, HB⟩ := hrel
    cases gk with
    | zero => exact absurd HA.out (by simp [spec_l7Eval.l0])
    | succ k1 =>
      have H := HA.out
      clear HA
      simp only [spec_l7Eval.l0] at H
      by_cases c5 : x5_1 > 1
      · rw [if_pos c5] at H
        have c5b0 : decide (1 < x5_1) = true := decide_eq_true c5
        clear c5
        obtain ⟨ji6, hji6⟩ : ∃ j_ : Int, (wrap64 (x5_1 - 2)) = j_ := ⟨_, rfl⟩
        replace H : (if 0 ≤ (ji6) then (if (ji6) < (l0_1.length : Int) then (if 0 ≤ (wrap64 (((rd_T92 l0_1 (ji6)).f0) - 1)) then (if (wrap64 (((rd_T92 l0_1 (ji6)).f0) - 1)) < (l1.length : Int) then (if rdOf false l1 (wrap64 (((rd_T92 l0_1 (ji6)).f0) - 1)) = true then (spec_l7Eval.l0 k1 l1 ((rd_T92 l0_1 (ji6)).f2) a0_0 l0_1 a0_2) else (spec_l7Eval.l0 k1 l1 ((rd_T92 l0_1 (ji6)).f1) a0_0 l0_1 a0_2)) else (none)) else (none)) else (none)) else (none)) = some r := by first | (rw [hji6] at H; exact H) | (simp only [hji6] at H ⊢; exact H)
        have hji6w : (IntKind.i64.wrap (x5_1 - 2)) = ji6 := (i64_w _).trans hji6
        by_cases c7 : 0 ≤ (ji6)
        · rw [if_pos c7] at H
          have c7b0 : decide (0 ≤ (ji6)) = true := decide_eq_true c7
          clear c7
          by_cases c8 : (ji6) < (l0_1.length : Int)
          · rw [if_pos c8] at H
            have c8b0 : decide ((ji6) < (l0_1.length : Int)) = true := decide_eq_true c8
            clear c8
            obtain ⟨ji9, hji9⟩ : ∃ j_ : Int, (wrap64 (((rd_T92 l0_1 (ji6)).f0) - 1)) = j_ := ⟨_, rfl⟩
            replace H : (if 0 ≤ (ji9) then (if (ji9) < (l1.length : Int) then (if rdOf false l1 (ji9) = true then (spec_l7Eval.l0 k1 l1 ((rd_T92 l0_1 (ji6)).f2) a0_0 l0_1 a0_2) else (spec_l7Eval.l0 k1 l1 ((rd_T92 l0_1 (ji6)).f1) a0_0 l0_1 a0_2)) else (none)) else (none)) = some r := by first | (rw [hji9] at H; exact H) | (simp only [hji9] at H ⊢; exact H)
            have hji9w : (IntKind.i64.wrap (((rd_T92 l0_1 (ji6)).f0) - 1)) = ji9 := (i64_w _).trans hji9
            by_cases c10 : 0 ≤ (ji9)
            · rw [if_pos c10] at H
              have c10b0 : decide (0 ≤ (ji9)) = true := decide_eq_true c10
              clear c10
              by_cases c11 : (ji9) < (l1.length : Int)
              · rw [if_pos c11] at H
                have c11b0 : decide ((ji9) < (l1.length : Int)) = true := decide_eq_true c11
                clear c11
                obtain ⟨bq12, hbq12⟩ : ∃ b_ : Bool, b_ = (rdOf false l1 (ji9)) := ⟨_, rfl⟩
                replace H : (if bq12 = true then (spec_l7Eval.l0 k1 l1 ((rd_T92 l0_1 (ji6)).f2) a0_0 l0_1 a0_2) else (spec_l7Eval.l0 k1 l1 ((rd_T92 l0_1 (ji6)).f1) a0_0 l0_1 a0_2)) = some r := by rw [← hbq12] at H; exact H
                have Nbq12 := Aside0.mk hbq12
                clear hbq12
                by_cases c13 : bq12 = true
                · subst c13
                  have H1 : (spec_l7Eval.l0 k1 l1 ((rd_T92 l0_1 (ji6)).f2) a0_0 l0_1 a0_2) = some r := by rw [if_pos rfl] at H; exact H
                  clear H
                  have H := H1
                  clear H1
                  have H' := Aside0.mk H
                  clear H
                  have hcz14_0 : wr.cell? ⟨gb117, 0, none⟩ = some (.int .i64 a0_0) := (blk_cell BK117.out 0).trans rfl
                  have hcz14_1 : wr.cell? ⟨gb117, 1, none⟩ = some (.slice A0_1 l0_1.length c0_1) := (blk_cell BK117.out 1).trans rfl
                  have hcz14_2 : wr.cell? ⟨gb117, 2, none⟩ = some (.int .i64 a0_2) := (blk_cell BK117.out 2).trans rfl
                  have hfz14_0 := blk_frozen BK117.out 0
                  have hfz14_1 := blk_frozen BK117.out 1
                  have hfz14_2 := blk_frozen BK117.out 2
                  have p118 : 0 ≤ ((ji6) : Int) := of_decide_eq_true (by first | (with_reducible assumption) | assumption)
                  have q118 : (ji6) < (l0_1.length : Int) := of_decide_eq_true (by first | (with_reducible assumption) | assumption)
                  obtain ⟨ad118, e118, hx118_0, hx118_1, hx118_2⟩ := at_T92 HR0_1.out (ji6) p118 q118
                  cases e118
                  (try replace hx118_0 := (HB.out.cell (World.block_lt_of_cell? w _ hx118_0)).trans hx118_0)
                  (try replace hx118_1 := (HB.out.cell (World.block_lt_of_cell? w _ hx118_1)).trans hx118_1)
                  (try replace hx118_2 := (HB.out.cell (World.block_lt_of_cell? w _ hx118_2)).trans hx118_2)
                  replace p118 := eq_true p118
                  replace q118 := eq_true q118
                  go_wp2_with (first | ((with_reducible refine gate_dst (N := 6) rfl ?_); refine box_event ?hg (N := 6) ?hd (cs := #[.int .i64 0, .int .i64 0, .int .i64 0]) (t := 92) ?hr ?_; (case hd => rfl); (case hg => rfl); (case hr => first | (go_simp; done) | (go_simp; rfl)); intro gb119 hg w15 hbox hb; have n0_ := Aside0.mk (blk_below (g := gb117) (o := .cells #[.int .i64 a0_0, .slice (some ad118) l0_1.length c0_1, .int .i64 a0_2] 51 (0, 0)) (by (with_reducible repeat (first | refine blk_drewN ?_ _ | refine blk_drew ?_ | refine blk_alloc ?_ _)); exact BK117.out) hb); have n1_ := Aside0.mk (below_step (by repeat (first | (with_reducible first | exact HB.out | apply below_alloc | apply pw_below_drewN | apply below_drew1 | refine below_set ?_ GE117.out) | exact HB.out)) hb); have n2_ := Aside0.mk (hbox); have n3_ := Aside0.mk ((by rw [hg]; exact (below_size (by repeat (first | (with_reducible first | exact HB.out | apply below_alloc | apply pw_below_drewN | apply below_drew1 | refine below_set ?_ GE117.out) | exact HB.out))) : w.heap.size ≤ gb119)); have n4_ := Aside0.mk ((by rw [hg]; exact (below_size (by repeat (first | (with_reducible first | exact HB.out | apply below_alloc | apply pw_below_drewN | apply below_drew1 | refine below_set ?_ GE117.out) | exact HB.out))) : w.heap.size ≤ gb119)); have n5_ := Aside0.mk ((by rw [hg]; exact Nat.ne_of_lt (blk_lt (g := gb117) (o := .cells #[.int .i64 a0_0, .slice (some ad118) l0_1.length c0_1, .int .i64 a0_2] 51 (0, 0)) (by (with_reducible repeat (first | refine blk_drewN ?_ _ | refine blk_drew ?_ | refine blk_alloc ?_ _)); exact BK117.out)) : gb117 ≠ gb119)); have n6_ := Aside0.mk ((by rw [hg]; exact Nat.ne_of_gt (blk_lt (g := gb117) (o := .cells #[.int .i64 a0_0, .slice (some ad118) l0_1.length c0_1, .int .i64 a0_2] 51 (0, 0)) (by (with_reducible repeat (first | refine blk_drewN ?_ _ | refine blk_drew ?_ | refine blk_alloc ?_ _)); exact BK117.out)) : gb119 ≠ gb117)); clear BK117; clear HB; have BK117 := n0_; have HB := n1_; have BK119 := n2_; have GW119 := n3_; have GE119 := n4_; have NB117_119 := n5_; have NB119_117 := n6_; clear n0_ n1_ n2_ n3_ n4_ n5_ n6_; clear hb hbox hg; have hnb16 := NB119_117.out; have hnc16 := NB117_119.out; have hcz17_0 : w15.cell? ⟨gb119, 0, none⟩ = some (.int .i64 0) := (blk_cell BK119.out 0).trans rfl; have hcz17_1 : w15.cell? ⟨gb119, 1, none⟩ = some (.int .i64 0) := (blk_cell BK119.out 1).trans rfl; have hcz17_2 : w15.cell? ⟨gb119, 2, none⟩ = some (.int .i64 0) := (blk_cell BK119.out 2).trans rfl; have hfz17_0 := blk_frozen BK119.out 0; have hfz17_1 := blk_frozen BK119.out 1; have hfz17_2 := blk_frozen BK119.out 2; have p120 : 0 ≤ ((ji9) : Int) := of_decide_eq_true (by first | (with_reducible assumption) | assumption); have q120 : (ji9) < (l1.length : Int) := of_decide_eq_true (by first | (with_reducible assumption) | assumption); obtain ⟨ad120, e120, hx120_0⟩ := Kd.at_bool HR1.out (ji9) p120 q120; (try rw [← Nbq12.out] at hx120_0); cases e120; have hn120_0 : ad120.block ≠ gb119 := Nat.ne_of_lt (Nat.lt_of_lt_of_le (by have := World.block_lt_of_cell? _ _ hx120_0; first | rwa [add_block] at this | exact this) GW119.out); have hn120_1 : ad120.block ≠ gb119 := Nat.ne_of_lt (Nat.lt_of_lt_of_le (by have := World.block_lt_of_cell? _ _ hx120_0; first | rwa [add_block] at this | exact this) GW119.out); have hn120_2 : ad120.block ≠ gb119 := Nat.ne_of_lt (Nat.lt_of_lt_of_le (by have := World.block_lt_of_cell? _ _ hx120_0; first | rwa [add_block] at this | exact this) GW119.out); replace hx120_0 := (HB.out.cell (World.block_lt_of_cell? w _ hx120_0)).trans hx120_0; replace hx120_0 := (cell_far (p := ⟨gb119, 0, none⟩) (by first | (rw [add_block]; exact hn120_0) | (show (Addr.add _ _).block ≠ _; rw [add_block]; exact hn120_0) | exact hn120_0) (.int .i64 ((rd_T92 l0_1 (ji6)).f0))).trans hx120_0; replace hx120_0 := (cell_far (p := ⟨gb119, 1, none⟩) (by first | (rw [add_block]; exact hn120_1) | (show (Addr.add _ _).block ≠ _; rw [add_block]; exact hn120_1) | exact hn120_1) (.int .i64 ((rd_T92 l0_1 (ji6)).f1))).trans hx120_0; replace hx120_0 := (cell_far (p := ⟨gb119, 2, none⟩) (by first | (rw [add_block]; exact hn120_2) | (show (Addr.add _ _).block ≠ _; rw [add_block]; exact hn120_2) | exact hn120_2) (.int .i64 ((rd_T92 l0_1 (ji6)).f2))).trans hx120_0; clear hn120_0; clear hn120_1; clear hn120_2; replace p120 := eq_true p120; replace q120 := eq_true q120))
                  go_roundg k1
                  case measure => have := HK1.out; omega
                  case rel => exact ⟨((rd_T92 l0_1 (ji6)).f2), (by first | rfl | (simp; done) | (simp only [← hji6] <;> (first | rfl | simp)) | (simp [*]; done)), H', ⟨by have := HK1.out; omega⟩, ⟨by (with_reducible repeat (first | refine blk_drewN ?_ _ | refine blk_drew ?_ | refine blk_alloc ?_ _)); refine blk_far ?_ NB117_119.out _; (with_reducible repeat (first | refine blk_drewN ?_ _ | refine blk_drew ?_ | refine blk_alloc ?_ _)); refine blk_far ?_ NB117_119.out _; (with_reducible repeat (first | refine blk_drewN ?_ _ | refine blk_drew ?_ | refine blk_alloc ?_ _)); refine blk_far ?_ NB117_119.out _; (with_reducible repeat (first | refine blk_drewN ?_ _ | refine blk_drew ?_ | refine blk_alloc ?_ _)); exact BK117.out⟩, ⟨by repeat (first | (with_reducible first | exact HB.out | apply below_alloc | apply pw_below_drewN | apply below_drew1 | refine below_set ?_ GE117.out | refine below_set ?_ GE119.out) | exact HB.out)⟩⟩
                · replace c13 := Bool.eq_false_iff.mpr c13
                  subst c13
                  have H1 : (spec_l7Eval.l0 k1 l1 ((rd_T92 l0_1 (ji6)).f1) a0_0 l0_1 a0_2) = some r := by rw [if_neg (show ¬ (false = true) by decide)] at H; exact H
                  clear H
                  have H := H1
                  clear H1
                  have H' := Aside0.mk H
                  clear H
                  have hcz18_0 : wr.cell? ⟨gb117, 0, none⟩ = some (.int .i64 a0_0) := (blk_cell BK117.out 0).trans rfl
                  have hcz18_1 : wr.cell? ⟨gb117, 1, none⟩ = some (.slice A0_1 l0_1.length c0_1) := (blk_cell BK117.out 1).trans rfl
                  have hcz18_2 : wr.cell? ⟨gb117, 2, none⟩ = some (.int .i64 a0_2) := (blk_cell BK117.out 2).trans rfl
                  have hfz18_0 := blk_frozen BK117.out 0
                  have hfz18_1 := blk_frozen BK117.out 1
                  have hfz18_2 := blk_frozen BK117.out 2
                  have p118 : 0 ≤ ((ji6) : Int) := of_decide_eq_true (by first | (with_reducible assumption) | assumption)
                  have q118 : (ji6) < (l0_1.length : Int) := of_decide_eq_true (by first | (with_reducible assumption) | assumption)
                  obtain ⟨ad118, e118, hx118_0, hx118_1, hx118_2⟩ := at_T92 HR0_1.out (ji6) p118 q118
                  cases e118
                  (try replace hx118_0 := (HB.out.cell (World.block_lt_of_cell? w _ hx118_0)).trans hx118_0)
                  (try replace hx118_1 := (HB.out.cell (World.block_lt_of_cell? w _ hx118_1)).trans hx118_1)
                  (try replace hx118_2 := (HB.out.cell (World.block_lt_of_cell? w _ hx118_2)).trans hx118_2)
                  replace p118 := eq_true p118
                  replace q118 := eq_true q118
                  go_wp2_with (first | ((with_reducible refine gate_dst (N := 6) rfl ?_); refine box_event ?hg (N := 6) ?hd (cs := #[.int .i64 0, .int .i64 0, .int .i64 0]) (t := 92) ?hr ?_; (case hd => rfl); (case hg => rfl); (case hr => first | (go_simp; done) | (go_simp; rfl)); intro gb119 hg w19 hbox hb; have n0_ := Aside0.mk (blk_below (g := gb117) (o := .cells #[.int .i64 a0_0, .slice (some ad118) l0_1.length c0_1, .int .i64 a0_2] 51 (0, 0)) (by (with_reducible repeat (first | refine blk_drewN ?_ _ | refine blk_drew ?_ | refine blk_alloc ?_ _)); exact BK117.out) hb); have n1_ := Aside0.mk (below_step (by repeat (first | (with_reducible first | exact HB.out | apply below_alloc | apply pw_below_drewN | apply below_drew1 | refine below_set ?_ GE117.out) | exact HB.out)) hb); have n2_ := Aside0.mk (hbox); have n3_ := Aside0.mk ((by rw [hg]; exact (below_size (by repeat (first | (with_reducible first | exact HB.out | apply below_alloc | apply pw_below_drewN | apply below_drew1 | refine below_set ?_ GE117.out) | exact HB.out))) : w.heap.size ≤ gb119)); have n4_ := Aside0.mk ((by rw [hg]; exact (below_size (by repeat (first | (with_reducible first | exact HB.out | apply below_alloc | apply pw_below_drewN | apply below_drew1 | refine below_set ?_ GE117.out) | exact HB.out))) : w.heap.size ≤ gb119)); have n5_ := Aside0.mk ((by rw [hg]; exact Nat.ne_of_lt (blk_lt (g := gb117) (o := .cells #[.int .i64 a0_0, .slice (some ad118) l0_1.length c0_1, .int .i64 a0_2] 51 (0, 0)) (by (with_reducible repeat (first | refine blk_drewN ?_ _ | refine blk_drew ?_ | refine blk_alloc ?_ _)); exact BK117.out)) : gb117 ≠ gb119)); have n6_ := Aside0.mk ((by rw [hg]; exact Nat.ne_of_gt (blk_lt (g := gb117) (o := .cells #[.int .i64 a0_0, .slice (some ad118) l0_1.length c0_1, .int .i64 a0_2] 51 (0, 0)) (by (with_reducible repeat (first | refine blk_drewN ?_ _ | refine blk_drew ?_ | refine blk_alloc ?_ _)); exact BK117.out)) : gb119 ≠ gb117)); clear BK117; clear HB; have BK117 := n0_; have HB := n1_; have BK119 := n2_; have GW119 := n3_; have GE119 := n4_; have NB117_119 := n5_; have NB119_117 := n6_; clear n0_ n1_ n2_ n3_ n4_ n5_ n6_; clear hb hbox hg; have hnb20 := NB119_117.out; have hnc20 := NB117_119.out; have hcz21_0 : w19.cell? ⟨gb119, 0, none⟩ = some (.int .i64 0) := (blk_cell BK119.out 0).trans rfl; have hcz21_1 : w19.cell? ⟨gb119, 1, none⟩ = some (.int .i64 0) := (blk_cell BK119.out 1).trans rfl; have hcz21_2 : w19.cell? ⟨gb119, 2, none⟩ = some (.int .i64 0) := (blk_cell BK119.out 2).trans rfl; have hfz21_0 := blk_frozen BK119.out 0; have hfz21_1 := blk_frozen BK119.out 1; have hfz21_2 := blk_frozen BK119.out 2; have p120 : 0 ≤ ((ji9) : Int) := of_decide_eq_true (by first | (with_reducible assumption) | assumption); have q120 : (ji9) < (l1.length : Int) := of_decide_eq_true (by first | (with_reducible assumption) | assumption); obtain ⟨ad120, e120, hx120_0⟩ := Kd.at_bool HR1.out (ji9) p120 q120; (try rw [← Nbq12.out] at hx120_0); cases e120; have hn120_0 : ad120.block ≠ gb119 := Nat.ne_of_lt (Nat.lt_of_lt_of_le (by have := World.block_lt_of_cell? _ _ hx120_0; first | rwa [add_block] at this | exact this) GW119.out); have hn120_1 : ad120.block ≠ gb119 := Nat.ne_of_lt (Nat.lt_of_lt_of_le (by have := World.block_lt_of_cell? _ _ hx120_0; first | rwa [add_block] at this | exact this) GW119.out); have hn120_2 : ad120.block ≠ gb119 := Nat.ne_of_lt (Nat.lt_of_lt_of_le (by have := World.block_lt_of_cell? _ _ hx120_0; first | rwa [add_block] at this | exact this) GW119.out); replace hx120_0 := (HB.out.cell (World.block_lt_of_cell? w _ hx120_0)).trans hx120_0; replace hx120_0 := (cell_far (p := ⟨gb119, 0, none⟩) (by first | (rw [add_block]; exact hn120_0) | (show (Addr.add _ _).block ≠ _; rw [add_block]; exact hn120_0) | exact hn120_0) (.int .i64 ((rd_T92 l0_1 (ji6)).f0))).trans hx120_0; replace hx120_0 := (cell_far (p := ⟨gb119, 1, none⟩) (by first | (rw [add_block]; exact hn120_1) | (show (Addr.add _ _).block ≠ _; rw [add_block]; exact hn120_1) | exact hn120_1) (.int .i64 ((rd_T92 l0_1 (ji6)).f1))).trans hx120_0; replace hx120_0 := (cell_far (p := ⟨gb119, 2, none⟩) (by first | (rw [add_block]; exact hn120_2) | (show (Addr.add _ _).block ≠ _; rw [add_block]; exact hn120_2) | exact hn120_2) (.int .i64 ((rd_T92 l0_1 (ji6)).f2))).trans hx120_0; clear hn120_0; clear hn120_1; clear hn120_2; replace p120 := eq_true p120; replace q120 := eq_true q120))
                  go_roundg k1
                  case measure => have := HK1.out; omega
                  case rel => exact ⟨((rd_T92 l0_1 (ji6)).f1), (by first | rfl | (simp; done) | (simp only [← hji6] <;> (first | rfl | simp)) | (simp [*]; done)), H', ⟨by have := HK1.out; omega⟩, ⟨by (with_reducible repeat (first | refine blk_drewN ?_ _ | refine blk_drew ?_ | refine blk_alloc ?_ _)); refine blk_far ?_ NB117_119.out _; (with_reducible repeat (first | refine blk_drewN ?_ _ | refine blk_drew ?_ | refine blk_alloc ?_ _)); refine blk_far ?_ NB117_119.out _; (with_reducible repeat (first | refine blk_drewN ?_ _ | refine blk_drew ?_ | refine blk_alloc ?_ _)); refine blk_far ?_ NB117_119.out _; (with_reducible repeat (first | refine blk_drewN ?_ _ | refine blk_drew ?_ | refine blk_alloc ?_ _)); exact BK117.out⟩, ⟨by repeat (first | (with_reducible first | exact HB.out | apply below_alloc | apply pw_below_drewN | apply below_drew1 | refine below_set ?_ GE117.out | refine below_set ?_ GE119.out) | exact HB.out)⟩⟩
              · rw [if_neg c11] at H
                exact absurd H (by simp)
            · rw [if_neg c10] at H
              exact absurd H (by simp)
          · rw [if_neg c8] at H
            exact absurd H (by simp)
        · rw [if_neg c7] at H
          exact absurd H (by simp)
      · rw [if_neg c5] at H
        have c5b0 : decide (1 < x5_1) = false := decide_eq_false c5
        clear c5
        obtain rfl := Option.some.inj H
        go_wp2
        go_ret
        exact ⟨by first | rfl | (simp [errW_none, errW_some] <;> rfl) | (simp [*, errW_none, errW_some] <;> rfl), by repeat (first | (with_reducible first | exact HB.out | apply below_alloc | apply pw_below_drewN | apply below_drew1 | refine below_set ?_ GE117.out) | exact HB.out)⟩

/-! ### spec_l4Model: function 87 -/
def spec_l4Model.l0 : Nat → Int → List Bool → Int → Int → Option (List Bool)
  | 0, _, _, _, _ => none
  | k + 1, x1, x5, x10, x11 => if x11 < x10 then (if 0 ≤ (IntKind.u64.wrap (x11)) then (if 0 ≤ x11 then (if x11 < (x5.length : Int) then (spec_l4Model.l0 k x1 (x5.set (x11 : Int).toNat ((Go.bits .and .i64 (shr .i64 x1 (IntKind.u64.wrap (x11))) 1) == 1)) x10 (wrap64 (x11 + 1))) else (none)) else (none)) else (none)) else (some x5)
def spec_l4Model.f (k : Nat) (a0 : Int) (a1 : Int) : Option (List Bool) := if 0 ≤ a0 then (if (a0 : Int).toNat ≤ 281474976710656 then ((some (List.replicate (a0 : Int).toNat false : List Bool)).bind fun y121 => (spec_l4Model.l0 k a1 y121 (y121.length : Int) 0)) else (none)) else (none)
theorem spec_l4Model.mono_l : ∀ k, (∀ y0 y1 y2 y3, LeO (spec_l4Model.l0 k y0 y1 y2 y3) (spec_l4Model.l0 (k + 1) y0 y1 y2 y3))
  | 0 => fun _ _ _ _ r h => by simp [spec_l4Model.l0] at h
  | k + 1 => by
    have ih0 := spec_l4Model.mono_l k
    · intro y0 y1 y2 y3
      unfold spec_l4Model.l0
      repeat' first
      | (with_reducible exact ih0 _ _ _ _)
      | (with_reducible exact LeO.refl _)
      | (with_reducible exact LeO.none _)
      | (with_reducible refine LeO.ite ?_ ?_)
      | (with_reducible refine LeO.bind ?_ (fun _ => ?_))
      | exact ih0 _ _ _ _
      | exact LeO.none _
      | refine LeO.ite ?_ ?_
      | refine LeO.bind ?_ (fun _ => ?_)
theorem spec_l4Model.mono : ∀ a0 a1 k, LeO (spec_l4Model.f k a0 a1) (spec_l4Model.f (k + 1) a0 a1) := by
  intro a0 a1 k
  have ih0 := spec_l4Model.mono_l k
  unfold spec_l4Model.f
  repeat' first
      | (with_reducible exact ih0 _ _ _ _)
      | (with_reducible exact LeO.refl _)
      | (with_reducible exact LeO.none _)
      | (with_reducible refine LeO.ite ?_ ?_)
      | (with_reducible refine LeO.bind ?_ (fun _ => ?_))
      | exact ih0 _ _ _ _
      | exact LeO.none _
      | refine LeO.ite ?_ ?_
      | refine LeO.bind ?_ (fun _ => ?_)
set_option maxHeartbeats 8000000 in
set_option maxRecDepth 100000 in
theorem spec_l4Model.calls (k : Nat) (a0 : Int) (a1 : Int) (r : List Bool) (w : World) (h : spec_l4Model.f k a0 a1 = some r) :
    Calls Try.prog 87 #[.int .i64 a0, .int .i64 a1] w fun e w' => ∃ v0_ : Value, e = .returned (v0_) ∧ Kd.R Kd.bool 4 w' w.heap.size (fun _ => True) v0_ r ∧ Below w.heap.size w w' := by
  have HB := Aside0.mk (Below.refl w.heap.size w)
  have H : (if 0 ≤ a0 then (if (a0 : Int).toNat ≤ 281474976710656 then ((some (List.replicate (a0 : Int).toNat false : List Bool)).bind fun y121 => (spec_l4Model.l0 k a1 y121 (y121.length : Int) 0)) else (none)) else (none)) = some r := h
  clear h
  by_cases c3 : 0 ≤ a0
  · rw [if_pos c3] at H
    have c3b0 := eq_true c3
    have c3b1 : decide (0 ≤ a0) = true := decide_eq_true c3
    clear c3
    by_cases c4 : (a0 : Int).toNat ≤ 281474976710656
    · rw [if_pos c4] at H
      have c4b0 := eq_true c4
      have c4b1 : decide ((a0 : Int).toNat ≤ 281474976710656) = true := decide_eq_true c4
      clear c4
      obtain ⟨y121, hy121⟩ : ∃ y_ : List Bool, y_ = (List.replicate (a0 : Int).toNat false) := ⟨_, rfl⟩
      replace H : (spec_l4Model.l0 k a1 y121 (y121.length : Int) 0) = some r := by first | (rw [hy121]; with_reducible exact H) | (have H2_ := (Option.bind_some _ _).symm.trans H; rw [hy121]; with_reducible exact H2_) | (have H2_ := (Option.bind_some _ _).symm.trans H; with_reducible exact H2_) | with_reducible exact H | (rw [hy121]; exact H) | exact H
      have Ny121 := Aside0.mk hy121
      clear hy121
      have H' := Aside0.mk H
      clear H
      go_enter Try.func87, Try.ntmps87
      go_wp2_with (first | ((with_reducible refine gate_dst (N := 8) rfl ?_); refine Kd.R_make Kd.bool _ 4 rfl (N := 8) rfl 48 _ _ rfl a0 rfl rfl Try.underlying48 (.bool false) 1 info4 rfl (by decide) (by omega) false (ok := fun _ => True) (okp := fun _ => True) rfl (fun _ hk => hk) trivial (of_decide_eq_true (by first | (with_reducible assumption) | assumption)) (Nat.le_trans (Nat.mul_le_mul_right _ (of_decide_eq_true (by first | (with_reducible assumption) | assumption) : a0.toNat ≤ 281474976710656)) (by omega)) (Below.refl _ _) (Nat.le_refl _) ?_; intro v122 w5 ho6 hb hg_ hnew_; clear hg_ hnew_; (first | rw [← Ny121.out] at ho6 | (simp only [Int.reduceToNat] at ho6; rw [← Ny121.out] at ho6)); have n0_ := Aside0.mk (Kd.R_lower ho6 (below_size (by repeat (first | (with_reducible first | exact HB.out | apply below_alloc | apply pw_below_drewN | apply below_drew1) | exact HB.out)))); have n1_ := Aside0.mk (below_step (by repeat (first | (with_reducible first | exact HB.out | apply below_alloc | apply pw_below_drewN | apply below_drew1) | exact HB.out)) hb); clear HB; have HO123 := n0_; have HB := n1_; clear n0_ n1_; clear hb ho6; obtain ⟨Ao7, co7, eo7⟩ := Kd.R_slice HO123.out; subst eo7))
      go_loopg [11] k (fun kq v11 w' => ∃ (x5_1 : List Bool) (x11_1 : Int), v11 = .int .i64 x11_1 ∧ Aside0 (spec_l4Model.l0 kq a1 x5_1 (y121.length : Int) x11_1 = some r) ∧ Aside0 (kq ≤ k) ∧ Aside0 (Kd.R Kd.bool 4 w' w.heap.size (fun _ => True) (.slice Ao7 y121.length co7) x5_1) ∧ Aside0 (Below w.heap.size w w'))
      case atStart => exact ⟨(y121), (0), (by first | rfl | (simp; done) | (simp [*]; done)), H', ⟨Nat.le_refl _⟩, ⟨by (with_reducible repeat (first | apply Kd.R_alloc | apply Kd.R_drewN | apply Kd.R_drew)); exact HO123.out⟩, ⟨by repeat (first | (with_reducible first | exact HB.out | apply below_alloc | apply pw_below_drewN | apply below_drew1) | exact HB.out)⟩⟩
      case round =>
        clear H'
        try clear p2
        try clear c3
        try clear c3b0
        try clear c3b1
        try clear c4
        try clear c4b0
        try clear c4b1
        obtain ⟨x5_1, x11_1, rfl, HA, HK1, HO_5, HB⟩ := hrel
        have hl5_1 := (Kd.R_reads' HO_5.out).1
        rw [hl5_1] at HO_5
        (try simp only [hl5_1])
        cases gk with
        | zero => exact absurd HA.out (by simp [spec_l4Model.l0])
        | succ k1 =>
          have H := HA.out
          clear HA
          simp only [spec_l4Model.l0] at H
          by_cases c8 : x11_1 < (y121.length : Int)
          · rw [if_pos c8] at H
            have c8b0 : decide (x11_1 < (y121.length : Int)) = true := decide_eq_true c8
            clear c8
            obtain ⟨ji9, hji9⟩ : ∃ j_ : Int, (IntKind.u64.wrap (x11_1)) = j_ := ⟨_, rfl⟩
            replace H : (if 0 ≤ (ji9) then (if 0 ≤ x11_1 then (if x11_1 < (x5_1.length : Int) then (spec_l4Model.l0 k1 a1 (x5_1.set (x11_1 : Int).toNat ((Go.bits .and .i64 (shr .i64 a1 (ji9)) 1) == 1)) (y121.length : Int) (wrap64 (x11_1 + 1))) else (none)) else (none)) else (none)) = some r := by first | (rw [hji9] at H; exact H) | (simp only [hji9] at H ⊢; exact H)
            by_cases c10 : 0 ≤ (ji9)
            · rw [if_pos c10] at H
              have c10b0 := eq_true c10
              have c10b1 : decide (0 ≤ (ji9)) = true := decide_eq_true c10
              clear c10
              obtain ⟨ji11, hji11⟩ : ∃ j_ : Int, (shr .i64 a1 (ji9)) = j_ := ⟨_, rfl⟩
              replace H : (if 0 ≤ x11_1 then (if x11_1 < (x5_1.length : Int) then (spec_l4Model.l0 k1 a1 (x5_1.set (x11_1 : Int).toNat ((Go.bits .and .i64 (ji11) 1) == 1)) (y121.length : Int) (wrap64 (x11_1 + 1))) else (none)) else (none)) = some r := by first | (rw [hji11] at H; exact H) | (simp only [hji11] at H ⊢; exact H)
              have hji11_ : (a1 / 2 ^ min (ji9).toNat 64) = ji11 := hji11
              have hji11z : (ji9) ≤ 64 → (a1 / 2 ^ (ji9).toNat) = ji11 := shr_small hji11
              by_cases c12 : 0 ≤ x11_1
              · rw [if_pos c12] at H
                have c12b0 : decide (0 ≤ x11_1) = true := decide_eq_true c12
                clear c12
                by_cases c13 : x11_1 < (x5_1.length : Int)
                · rw [if_pos c13] at H
                  have c13b0 : decide (x11_1 < (x5_1.length : Int)) = true := decide_eq_true c13
                  clear c13
                  obtain ⟨y124, hy124⟩ : ∃ y_ : List Bool, y_ = (x5_1.set (x11_1 : Int).toNat ((Go.bits .and .i64 (ji11) 1) == 1)) := ⟨_, rfl⟩
                  replace H : (spec_l4Model.l0 k1 a1 y124 (y121.length : Int) (wrap64 (x11_1 + 1))) = some r := by first | (rw [hy124]; with_reducible exact H) | (have H2_ := (Option.bind_some _ _).symm.trans H; rw [hy124]; with_reducible exact H2_) | (have H2_ := (Option.bind_some _ _).symm.trans H; with_reducible exact H2_) | with_reducible exact H | (rw [hy124]; exact H) | exact H
                  have Ny124 := Aside0.mk hy124
                  clear hy124
                  have H' := Aside0.mk H
                  clear H
                  have p14 : 0 ≤ (x11_1 : Int) := of_decide_eq_true (by first | (with_reducible assumption) | assumption)
                  have q14 : (x11_1 : Int) < ((x5_1.length : Int) : Int) := of_decide_eq_true (by first | (with_reducible assumption) | assumption)
                  obtain ⟨go14, co14, eo14, gb14, gl14, cl14, HG14⟩ := Kd.R_form HO_5.out (by omega)
                  (first | cases eo14 | (injection eo14 with ea_ en_ ec_; (first | subst ea_ | (injection ea_ with ea_; subst ea_)); subst ec_; clear en_))
                  have GB14 := Aside0.mk gb14
                  have GG14 := Aside0.mk HG14
                  clear gb14 gl14 HG14
                  obtain ⟨hx14_0, hf14_0⟩ := Kd.R_celln false HO_5.out (x11_1 : Int) p14 q14
                  replace p14 := eq_true p14
                  replace q14 := eq_true q14
                  have HP15 := Kd.R_putg HO_5.out (x11_1 : Int) ((Go.bits .and .i64 (ji11) 1) == 1)
                  go_wp2_with (first | ((with_reducible refine gate_store (t := 4) (p := 22) rfl ?_); refine store_event (t := 4) (p := 22) (v := ?vo_w16) (w1 := (wr.setCell ⟨go14, (x11_1 : Int).toNat, none⟩ (.bool ((Go.bits .and .i64 (ji11) 1) == 1)))) ?hg ?ho ?hn ?hr ?_; (case ho => rfl); (case hg => rfl); (case hn => rfl); (case hr => first | (go_simp; done) | (go_simp; rfl)); intro w16 hw; have hg : wr.grownBy w16 (some go14) := (by rw [hw]; exact HP15.2); have hp_ : Kd.R Kd.bool 4 w16 w.heap.size (fun _ => True) (.slice (some ⟨go14, 0, none⟩) x5_1.length co7) y124 := (by rw [hw, Ny124.out]; exact HP15.1); clear HP15; have n0_ := Aside0.mk (hp_); have n1_ := Aside0.mk ((by rw [hw]; exact below_set (HB.out) GB14.out : Below w.heap.size w w16)); clear HO_5; clear HB; have HO_5 := n0_; have HB := n1_; clear n0_ n1_; clear hg hw hp_))
                  (try simp only [← hl5_1])
                  go_roundg k1
                  case measure => have := HK1.out; omega
                  case rel => exact ⟨(y124), (wrap64 (x11_1 + 1)), (by first | rfl | (simp; done) | (simp [*]; done)), H', ⟨by have := HK1.out; omega⟩, ⟨by (try simp only [hl5_1]); (with_reducible repeat (first | apply Kd.R_alloc | apply Kd.R_drewN | apply Kd.R_drew)); exact HO_5.out⟩, ⟨by repeat (first | (with_reducible first | exact HB.out | apply below_alloc | apply pw_below_drewN | apply below_drew1) | exact HB.out)⟩⟩
                · rw [if_neg c13] at H
                  exact absurd H (by simp)
              · rw [if_neg c12] at H
                exact absurd H (by simp)
            · rw [if_neg c10] at H
              exact absurd H (by simp)
          · rw [if_neg c8] at H
            have c8b0 : decide (x11_1 < (y121.length : Int)) = false := decide_eq_false c8
            have c8b0h := c8b0
            (try simp only [hl5_1] at c8b0h)
            clear c8
            obtain rfl := Option.some.inj H
            go_wp2
            go_ret
            exact ⟨_, by first | rfl | (simp [errW_none, errW_some] <;> rfl) | (simp [*, errW_none, errW_some] <;> rfl), by (with_reducible repeat (first | apply Kd.R_alloc | apply Kd.R_drewN | apply Kd.R_drew)); exact HO_5.out, by repeat (first | (with_reducible first | exact HB.out | apply below_alloc | apply pw_below_drewN | apply below_drew1) | exact HB.out)⟩
    · rw [if_neg c4] at H
      exact absurd H (by simp)
  · rw [if_neg c3] at H
    exact absurd H (by simp)

end Go.Proofs.Ytjopmdogdmdanaa.PFnExactGoodDiagram
