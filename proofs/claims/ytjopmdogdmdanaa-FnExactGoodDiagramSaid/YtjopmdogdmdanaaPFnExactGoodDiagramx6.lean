-- Made by a program of this session (wip/tools), which leans on the kit's print: checked by Lean alone.
import Derived.Test.YtjopmdogdmdanaaPFnExactGoodDiagramx0
import Derived.Test.YtjopmdogdmdanaaPFnExactGoodDiagramx1
import Derived.Test.YtjopmdogdmdanaaPFnExactGoodDiagramx5
namespace Go.Proofs.Ytjopmdogdmdanaa.PFnExactGoodDiagram
open Go.RowKit Go.Proofs.YtjopmdogdmdanaaW.PrintWords Go.Proofs.YtjopmdogdmdanaaW.PrintLast Go.Proofs.YtjopmdogdmdanaaW.PrintMore
attribute [local go_sem] max2_int min2_int max_two min_two max_three min_three max_four min_four   -- for this text's walks alone
set_option linter.unusedVariables false
set_option linter.unusedSimpArgs false

attribute [local go_sem high] eqA92
/-! ### impl_Node_100: function 100 -/
def impl_Node_100.l0 : Nat → List (S92) → Int → Int → Int → Int → Int → Option (Int)
  | 0, _, _, _, _, _, _ => none
  | k + 1, x0, x7, x8, x174000, x174001, x174002 => if x8 < x7 then (if 0 ≤ x8 then (if x8 < (x0.length : Int) then (if (x174000 == ((rd_T92 x0 x8).f0) && (x174001 == ((rd_T92 x0 x8).f1) && (x174002 == ((rd_T92 x0 x8).f2)))) = true then (some x8) else (impl_Node_100.l0 k x0 x7 (wrap64 (x8 + 1)) x174000 x174001 x174002)) else (none)) else (none)) else (some (-1))
def impl_Node_100.f (k : Nat) (l0 : List (S92)) (a1_0 : Int) (a1_1 : Int) (a1_2 : Int) : Option (Int) := impl_Node_100.l0 k l0 (l0.length : Int) 0 a1_0 a1_1 a1_2
theorem impl_Node_100.mono_l : ∀ k, (∀ y0 y1 y2 y3 y4 y5, LeO (impl_Node_100.l0 k y0 y1 y2 y3 y4 y5) (impl_Node_100.l0 (k + 1) y0 y1 y2 y3 y4 y5))
  | 0 => fun _ _ _ _ _ _ r h => by simp [impl_Node_100.l0] at h
  | k + 1 => by
    have ih0 := impl_Node_100.mono_l k
    · intro y0 y1 y2 y3 y4 y5
      unfold impl_Node_100.l0
      repeat' first
      | (with_reducible exact ih0 _ _ _ _ _ _)
      | (with_reducible exact LeO.refl _)
      | (with_reducible exact LeO.none _)
      | (with_reducible refine LeO.ite ?_ ?_)
      | (with_reducible refine LeO.bind ?_ (fun _ => ?_))
      | exact ih0 _ _ _ _ _ _
      | exact LeO.none _
      | refine LeO.ite ?_ ?_
      | refine LeO.bind ?_ (fun _ => ?_)
theorem impl_Node_100.mono : ∀ a0 a1 a2 a3 k, LeO (impl_Node_100.f k a0 a1 a2 a3) (impl_Node_100.f (k + 1) a0 a1 a2 a3) := by
  intro a0 a1 a2 a3 k
  have ih0 := impl_Node_100.mono_l k
  unfold impl_Node_100.f
  repeat' first
      | (with_reducible exact ih0 _ _ _ _ _ _)
      | (with_reducible exact LeO.refl _)
      | (with_reducible exact LeO.none _)
      | (with_reducible refine LeO.ite ?_ ?_)
      | (with_reducible refine LeO.bind ?_ (fun _ => ?_))
      | exact ih0 _ _ _ _ _ _
      | exact LeO.none _
      | refine LeO.ite ?_ ?_
      | refine LeO.bind ?_ (fun _ => ?_)
set_option maxHeartbeats 8000000 in
set_option maxRecDepth 100000 in
theorem impl_Node_100.calls (k : Nat) (A0 : Option Addr) (c0 : Nat) (l0 : List (S92)) (a1_0 : Int) (a1_1 : Int) (a1_2 : Int) (r : Int) (w : World) (hr0 : Kd.C k92 w A0 l0.length l0) (hc0 : l0.length ≤ c0) (h : impl_Node_100.f k l0 a1_0 a1_1 a1_2 = some r) :
    Calls Try.prog 100 #[.slice A0 l0.length c0, .agg #[.int .i64 a1_0, .int .i64 a1_1, .int .i64 a1_2]] w fun e w' => e = .returned (.int .i64 r) ∧ Below w.heap.size w w' := by
  have hu92 := Try.underlying92
  have HR0 := Aside0.mk hr0
  have HC0 := Aside0.mk hc0
  clear hr0 hc0
  have HB := Aside0.mk (Below.refl w.heap.size w)
  have H : (impl_Node_100.l0 k l0 (l0.length : Int) 0 a1_0 a1_1 a1_2) = some r := h
  clear h
  have H' := Aside0.mk H
  clear H
  go_enter Try.func100, Try.ntmps100
  go_wp2_with (first | ((with_reducible refine gate_dst (N := 3) rfl ?_); refine box_event ?hg (N := 3) ?hd (cs := #[.int .i64 a1_0, .int .i64 a1_1, .int .i64 a1_2]) (t := 92) ?hr ?_; (case hd => rfl); (case hg => rfl); (case hr => first | (go_simp; done) | (go_simp; rfl)); intro gb173 hg w3 hbox hb; have n0_ := Aside0.mk (below_step (by repeat (first | (with_reducible first | exact HB.out | apply below_alloc | apply pw_below_drewN | apply below_drew1) | exact HB.out)) hb); have n1_ := Aside0.mk (hbox); have n2_ := Aside0.mk ((by rw [hg]; exact (below_size (by repeat (first | (with_reducible first | exact HB.out | apply below_alloc | apply pw_below_drewN | apply below_drew1) | exact HB.out))) : w.heap.size ≤ gb173)); have n3_ := Aside0.mk ((by rw [hg]; exact (below_size (by repeat (first | (with_reducible first | exact HB.out | apply below_alloc | apply pw_below_drewN | apply below_drew1) | exact HB.out))) : w.heap.size ≤ gb173)); clear HB; have HB := n0_; have BK173 := n1_; have GW173 := n2_; have GE173 := n3_; clear n0_ n1_ n2_ n3_; clear hb hbox hg))
  repeat (go_quiet (first | ((with_reducible refine gate_dst (N := 3) rfl ?_); refine box_event ?hg (N := 3) ?hd (cs := #[.int .i64 a1_0, .int .i64 a1_1, .int .i64 a1_2]) (t := 92) ?hr ?_; (case hd => rfl); (case hg => rfl); (case hr => first | (go_simp; done) | (go_simp; rfl)); intro gb173 hg w3 hbox hb; have n0_ := Aside0.mk (below_step (by repeat (first | (with_reducible first | exact HB.out | apply below_alloc | apply pw_below_drewN | apply below_drew1) | exact HB.out)) hb); have n1_ := Aside0.mk (hbox); have n2_ := Aside0.mk ((by rw [hg]; exact (below_size (by repeat (first | (with_reducible first | exact HB.out | apply below_alloc | apply pw_below_drewN | apply below_drew1) | exact HB.out))) : w.heap.size ≤ gb173)); have n3_ := Aside0.mk ((by rw [hg]; exact (below_size (by repeat (first | (with_reducible first | exact HB.out | apply below_alloc | apply pw_below_drewN | apply below_drew1) | exact HB.out))) : w.heap.size ≤ gb173)); clear HB; have HB := n0_; have BK173 := n1_; have GW173 := n2_; have GE173 := n3_; clear n0_ n1_ n2_ n3_; clear hb hbox hg)); try go_wp2_with (first | ((with_reducible refine gate_dst (N := 3) rfl ?_); refine box_event ?hg (N := 3) ?hd (cs := #[.int .i64 a1_0, .int .i64 a1_1, .int .i64 a1_2]) (t := 92) ?hr ?_; (case hd => rfl); (case hg => rfl); (case hr => first | (go_simp; done) | (go_simp; rfl)); intro gb173 hg w3 hbox hb; have n0_ := Aside0.mk (below_step (by repeat (first | (with_reducible first | exact HB.out | apply below_alloc | apply pw_below_drewN | apply below_drew1) | exact HB.out)) hb); have n1_ := Aside0.mk (hbox); have n2_ := Aside0.mk ((by rw [hg]; exact (below_size (by repeat (first | (with_reducible first | exact HB.out | apply below_alloc | apply pw_below_drewN | apply below_drew1) | exact HB.out))) : w.heap.size ≤ gb173)); have n3_ := Aside0.mk ((by rw [hg]; exact (below_size (by repeat (first | (with_reducible first | exact HB.out | apply below_alloc | apply pw_below_drewN | apply below_drew1) | exact HB.out))) : w.heap.size ≤ gb173)); clear HB; have HB := n0_; have BK173 := n1_; have GW173 := n2_; have GE173 := n3_; clear n0_ n1_ n2_ n3_; clear hb hbox hg)))
  go_loopg [8] k (fun kq v8 w' => ∃ (x8_1 : Int), v8 = .int .i64 x8_1 ∧ Aside0 (impl_Node_100.l0 kq l0 (l0.length : Int) x8_1 a1_0 a1_1 a1_2 = some r) ∧ Aside0 (kq ≤ k) ∧ Aside0 (w'.heap[gb173]? = some (.cells #[.int .i64 a1_0, .int .i64 a1_1, .int .i64 a1_2] 92 (0, 0))) ∧ Aside0 (Below w.heap.size w w'))
  case atStart => exact ⟨(0), (by first | rfl | (simp; done) | (simp [*]; done)), H', ⟨Nat.le_refl _⟩, ⟨by (with_reducible repeat (first | refine blk_drewN ?_ _ | refine blk_drew ?_ | refine blk_alloc ?_ _)); exact BK173.out⟩, ⟨by repeat (first | (with_reducible first | exact HB.out | apply below_alloc | apply pw_below_drewN | apply below_drew1 | refine below_set ?_ GE173.out) | exact HB.out)⟩⟩
  case round =>
    clear H'
    try clear c1
    try clear p2
    obtain ⟨x8_1, rfl, HA, HK1, BK173, HB⟩ := hrel
    cases gk with
    | zero => exact absurd HA.out (by simp [impl_Node_100.l0])
    | succ k1 =>
      have H := HA.out
      clear HA
      simp only [impl_Node_100.l0] at H
      by_cases c4 : x8_1 < (l0.length : Int)
      · rw [if_pos c4] at H
        have c4b0 : decide (x8_1 < (l0.length : Int)) = true := decide_eq_true c4
        clear c4
        by_cases c5 : 0 ≤ x8_1
        · rw [if_pos c5] at H
          have c5b0 : decide (0 ≤ x8_1) = true := decide_eq_true c5
          clear c5
          by_cases c6 : x8_1 < (l0.length : Int)
          · rw [if_pos c6] at H
            have c6b0 : decide (x8_1 < (l0.length : Int)) = true := decide_eq_true c6
            clear c6
            by_cases c7 : (a1_0 == ((rd_T92 l0 x8_1).f0) && (a1_1 == ((rd_T92 l0 x8_1).f1) && (a1_2 == ((rd_T92 l0 x8_1).f2)))) = true
            · rw [if_pos c7] at H
              have c7b0 : (a1_0 == ((rd_T92 l0 x8_1).f0) && (a1_1 == ((rd_T92 l0 x8_1).f1) && (a1_2 == ((rd_T92 l0 x8_1).f2)))) = true := c7
              (try (have c7b1 : decide (a1_0 = ((rd_T92 l0 x8_1).f0) && (a1_1 == ((rd_T92 l0 x8_1).f1) && (a1_2 == ((rd_T92 l0 x8_1).f2)))) = true := by simpa using c7))
              (try (have c7b2 : (a1_0 == ((rd_T92 l0 x8_1).f0) && (a1_1 == ((rd_T92 l0 x8_1).f1) && (a1_2 == ((rd_T92 l0 x8_1).f2)))) = true := by simpa using c7))
              clear c7
              obtain rfl := Option.some.inj H
              have hcz8_0 : wr.cell? ⟨gb173, 0, none⟩ = some (.int .i64 a1_0) := (blk_cell BK173.out 0).trans rfl
              have hcz8_1 : wr.cell? ⟨gb173, 1, none⟩ = some (.int .i64 a1_1) := (blk_cell BK173.out 1).trans rfl
              have hcz8_2 : wr.cell? ⟨gb173, 2, none⟩ = some (.int .i64 a1_2) := (blk_cell BK173.out 2).trans rfl
              have hfz8_0 := blk_frozen BK173.out 0
              have hfz8_1 := blk_frozen BK173.out 1
              have hfz8_2 := blk_frozen BK173.out 2
              have p174 : 0 ≤ (x8_1 : Int) := of_decide_eq_true (by first | (with_reducible assumption) | assumption)
              have q174 : x8_1 < (l0.length : Int) := of_decide_eq_true (by first | (with_reducible assumption) | assumption)
              obtain ⟨ad174, e174, hx174_0, hx174_1, hx174_2⟩ := at_T92 HR0.out x8_1 p174 q174
              cases e174
              (try replace hx174_0 := (HB.out.cell (World.block_lt_of_cell? w _ hx174_0)).trans hx174_0)
              (try replace hx174_1 := (HB.out.cell (World.block_lt_of_cell? w _ hx174_1)).trans hx174_1)
              (try replace hx174_2 := (HB.out.cell (World.block_lt_of_cell? w _ hx174_2)).trans hx174_2)
              replace p174 := eq_true p174
              replace q174 := eq_true q174
              go_wp2
              repeat (go_quiet (fail); try go_wp2)
              go_ret
              exact ⟨by first | rfl | (simp [errW_none, errW_some] <;> rfl) | (simp [*, errW_none, errW_some] <;> rfl), by repeat (first | (with_reducible first | exact HB.out | apply below_alloc | apply pw_below_drewN | apply below_drew1 | refine below_set ?_ GE173.out) | exact HB.out)⟩
            · rw [if_neg c7] at H
              have c7b0 : (a1_0 == ((rd_T92 l0 x8_1).f0) && (a1_1 == ((rd_T92 l0 x8_1).f1) && (a1_2 == ((rd_T92 l0 x8_1).f2)))) = false := by simpa using c7
              (try (have c7b1 : decide (a1_0 = ((rd_T92 l0 x8_1).f0) && (a1_1 == ((rd_T92 l0 x8_1).f1) && (a1_2 == ((rd_T92 l0 x8_1).f2)))) = false := by simpa using c7))
              (try (have c7b2 : (a1_0 == ((rd_T92 l0 x8_1).f0) && (a1_1 == ((rd_T92 l0 x8_1).f1) && (a1_2 == ((rd_T92 l0 x8_1).f2)))) = false := by simpa using c7))
              (try (have c7b3 : ¬ (a1_0 = ((rd_T92 l0 x8_1).f0) && (a1_1 == ((rd_T92 l0 x8_1).f1) && (a1_2 == ((rd_T92 l0 x8_1).f2)))) := by simpa using c7))
              clear c7
              have H' := Aside0.mk H
              clear H
              have hcz9_0 : wr.cell? ⟨gb173, 0, none⟩ = some (.int .i64 a1_0) := (blk_cell BK173.out 0).trans rfl
              have hcz9_1 : wr.cell? ⟨gb173, 1, none⟩ = some (.int .i64 a1_1) := (blk_cell BK173.out 1).trans rfl
              have hcz9_2 : wr.cell? ⟨gb173, 2, none⟩ = some (.int .i64 a1_2) := (blk_cell BK173.out 2).trans rfl
              have hfz9_0 := blk_frozen BK173.out 0
              have hfz9_1 := blk_frozen BK173.out 1
              have hfz9_2 := blk_frozen BK173.out 2
              have p174 : 0 ≤ (x8_1 : Int) := of_decide_eq_true (by first | (with_reducible assumption) | assumption)
              have q174 : x8_1 < (l0.length : Int) := of_decide_eq_true (by first | (with_reducible assumption) | assumption)
              obtain ⟨ad174, e174, hx174_0, hx174_1, hx174_2⟩ := at_T92 HR0.out x8_1 p174 q174
              cases e174
              (try replace hx174_0 := (HB.out.cell (World.block_lt_of_cell? w _ hx174_0)).trans hx174_0)
              (try replace hx174_1 := (HB.out.cell (World.block_lt_of_cell? w _ hx174_1)).trans hx174_1)
              (try replace hx174_2 := (HB.out.cell (World.block_lt_of_cell? w _ hx174_2)).trans hx174_2)
              replace p174 := eq_true p174
              replace q174 := eq_true q174
              go_wp2
              repeat (go_quiet (fail); try go_wp2)
              go_roundg k1
              case measure => have := HK1.out; omega
              case rel => exact ⟨(wrap64 (x8_1 + 1)), (by first | rfl | (simp; done) | (simp [*]; done)), H', ⟨by have := HK1.out; omega⟩, ⟨by (with_reducible repeat (first | refine blk_drewN ?_ _ | refine blk_drew ?_ | refine blk_alloc ?_ _)); exact BK173.out⟩, ⟨by repeat (first | (with_reducible first | exact HB.out | apply below_alloc | apply pw_below_drewN | apply below_drew1 | refine below_set ?_ GE173.out) | exact HB.out)⟩⟩
          · rw [if_neg c6] at H
            exact absurd H (by simp)
        · rw [if_neg c5] at H
          exact absurd H (by simp)
      · rw [if_neg c4] at H
        have c4b0 : decide (x8_1 < (l0.length : Int)) = false := decide_eq_false c4
        clear c4
        obtain rfl := Option.some.inj H
        go_wp2
        repeat (go_quiet (fail); try go_wp2)
        go_ret
        exact ⟨by first | rfl | (simp [errW_none, errW_some] <;> rfl) | (simp [*, errW_none, errW_some] <;> rfl), by repeat (first | (with_reducible first | exact HB.out | apply below_alloc | apply pw_below_drewN | apply below_drew1 | refine below_set ?_ GE173.out) | exact HB.out)⟩

/-! ### impl_Diagram_build: function 84 -/
/-- What a builder's variable at g is: its row of nodes, what stays. -/
def di_St (w0 w : World) (g : Nat) (a0 a2 : Int) (u0 u : Value) (xs : List S92) (wc : World) : Prop :=
  wc.heap[g]? = some (.cells #[.int .i64 a0, u, .int .i64 a2] 51 (0, 0)) ∧ Kd.R k92 92 wc w0.heap.size (fun k_ => some k_ = (u0 : Value).ownBlock ∨ w.heap.size ≤ k_) u xs ∧ Below w0.heap.size w0 wc ∧ Kept w wc (fun k_ => some k_ = (u0 : Value).ownBlock ∨ k_ = g)
theorem di_St.start {w0 w : World} {g : Nat} {a0 a2 : Int} {u : Value} {xs : List S92} (hbx : w.heap[g]? = some (.cells #[.int .i64 a0, u, .int .i64 a2] 51 (0, 0))) (hB : Below w0.heap.size w0 w) (hR : Kd.R k92 92 w w0.heap.size (fun _ => True) u xs) : di_St w0 w g a0 a2 u u xs w := ⟨hbx, Kd.R_mono (Kd.R_tight rfl hR) (fun _ h => .inl h), hB, Kept.refl _ _⟩
theorem di_St.below {w0 w wc w' : World} {g : Nat} {a0 a2 : Int} {u0 u : Value} {xs : List S92} (h : di_St w0 w g a0 a2 u0 u xs wc) (hb : Below wc.heap.size wc w') : di_St w0 w g a0 a2 u0 u xs w' := ⟨blk_below h.1 hb, Kd.R_below h.2.1 hb, below_step h.2.2.1 hb, h.2.2.2.below hb⟩
theorem di_St.z {w0 w wc w' : World} {g : Nat} {a0 a2 : Int} {u0 u : Value} {xs : List S92} [i : Gw wc w'] (h : di_St w0 w g a0 a2 u0 u xs wc) : di_St w0 w g a0 a2 u0 u xs w' := h.below i.out
theorem di_St.call {w0 w wc w' : World} {g : Nat} {a0 a2 : Int} {u0 u u' : Value} {xs ys : List S92} (h : di_St w0 w g a0 a2 u0 u xs wc) (k : di_St w0 wc g a0 a2 u u' ys w') : di_St w0 w g a0 a2 u0 u' ys w' := by
  obtain ⟨h1, h2, h3, h4⟩ := h
  obtain ⟨k1, k2, k3, k4⟩ := k
  refine ⟨k1, Kd.R_mono k2 (fun k_ hk => hk.elim (fun e_ => h2.1 k_ e_.symm) (fun h_ => .inr (Nat.le_trans h4.1 h_))), k3, h4.then_ k4 (fun k_ hk => hk.elim (fun e_ => ?_) (fun e_ => .inl (.inr e_)))⟩
  exact (h2.1 k_ e_.symm).imp (fun h_ => .inl h_) id
theorem di_St.set {w0 w wc : World} {g gn j : Nat} {a0 a2 : Int} {u0 u v : Value} {xs : List S92} (h : di_St w0 w g a0 a2 u0 u xs wc) (h0 : w0.heap.size ≤ gn) (h1 : w.heap.size ≤ gn) (h2 : g ≠ gn) (h3 : some gn ≠ (u : Value).ownBlock) : di_St w0 w g a0 a2 u0 u xs (wc.setCell ⟨gn, j, none⟩ v) := ⟨blk_far h.1 (p := ⟨gn, j, none⟩) h2 v, Kd.R_mono (Kd.R_far (p := ⟨gn, j, none⟩) (Kd.R_tight2 rfl h.2.1) (fun k_ hk e_ => h3 (by have e2_ : k_ = gn := e_; rw [← e2_]; exact hk.1)) v) (fun _ hk => hk.2), below_set h.2.2.1 h0, h.2.2.2.setCell (p := ⟨gn, j, none⟩) (.inr h1) v⟩
theorem di_St.ne {w0 wc w' : World} {g gn : Nat} {a0 a2 : Int} {u0 u' : Value} {xs : List S92} (h : di_St w0 wc g a0 a2 u0 u' xs w') (h1 : gn < wc.heap.size) (h3 : some gn ≠ (u0 : Value).ownBlock) : some gn ≠ (u' : Value).ownBlock := fun e_ => (h.2.1.1 gn e_.symm).elim h3 (fun h_ => Nat.lt_irrefl _ (Nat.lt_of_lt_of_le h1 h_))
theorem di_St.blk {w0 wc w' : World} {g gn : Nat} {a0 a2 : Int} {u0 u' : Value} {xs : List S92} {ob : Obj} (h : di_St w0 wc g a0 a2 u0 u' xs w') (hb : wc.heap[gn]? = some ob) (h2 : g ≠ gn) (h3 : some gn ≠ (u0 : Value).ownBlock) : w'.heap[gn]? = some ob := (h.2.2.2.2 gn (blk_lt hb) (fun hk => hk.elim h3 (fun e_ => h2 e_.symm))).trans hb
theorem di_St.row {w0 w wc w' : World} {g base : Nat} {a0 a2 : Int} {u0 u u' v : Value} {xs ys : List S92} {l : List Bool} {ok : Nat → Prop} (h : di_St w0 w g a0 a2 u0 u ys wc) (k : di_St w0 wc g a0 a2 u u' xs w') (hl : Kd.R Kd.bool 4 wc base ok v l) : Kd.R Kd.bool 4 w' base ok v l := Kd.R_mono (Kd.R_kept (Kd.R_types (Kd.R_apart' hl (Kd.R_typed h.2.1) (by decide)) h.1 (by decide)) k.2.2.2 (fun k_ hk hs_ => hs_.elim hk.1.2 hk.2)) (fun _ hk => hk.1.1)
theorem di_St.app {w0 w wc w' : World} {g : Nat} {a0 a2 : Int} {u0 u v : Value} {xs ys : List S92} (h : di_St w0 w g a0 a2 u0 u xs wc) (ho : Kd.R k92 92 w' w0.heap.size (fun k_ => some k_ = (u0 : Value).ownBlock ∨ w.heap.size ≤ k_) v ys) (hb : Below w0.heap.size w0 w') (hg : wc.grownBy w' (u : Value).ownBlock) (hG : w0.heap.size ≤ g) : di_St w0 w g a0 a2 u0 v ys (w'.setCell ⟨g, 1, none⟩ v) := by
  have hx := blk_grown h.1 hg (Kd.R_ne h.2.1 h.1 (by decide))
  refine ⟨blk_put hx 1 v rfl, Kd.R_set ho hx (by decide) 1 v, below_set hb hG, Kept.setCell (Kept.of_grown hg h.2.2.2 (fun k_ e_ => (h.2.1.1 k_ e_).imp (fun h_ => .inl h_) id)) (p := ⟨g, 1, none⟩) (.inl (.inr rfl)) v⟩
theorem di_n3 {w : World} {gn : Nat} {a b c x y z : Value} (h : w.heap[gn]? = some (.cells #[a, b, c] 92 (0, 0))) : (((w.setCell ⟨gn, 0, none⟩ x).setCell ⟨gn, 1, none⟩ y).setCell ⟨gn, 2, none⟩ z).heap[gn]? = some (.cells #[x, y, z] 92 (0, 0)) := blk_put (blk_put (blk_put h 0 x rfl) 1 y rfl) 2 z rfl
theorem di_r3 {w : World} {gn base : Nat} {a b c x y z v : Value} {l : List Bool} {ok : Nat → Prop} (hl : Kd.R Kd.bool 4 w base ok v l) (h : w.heap[gn]? = some (.cells #[a, b, c] 92 (0, 0))) : Kd.R Kd.bool 4 (((w.setCell ⟨gn, 0, none⟩ x).setCell ⟨gn, 1, none⟩ y).setCell ⟨gn, 2, none⟩ z) base ok v l := Kd.R_set (Kd.R_set (Kd.R_set hl h (by decide) 0 x) (blk_put h 0 x rfl) (by decide) 1 y) (blk_put (blk_put h 0 x rfl) 1 y rfl) (by decide) 2 z
def impl_Diagram_build.l0 : Nat → List Bool → List Bool → List Bool → Int → Option (List Bool × List Bool)
  | 0, _, _, _, _ => none
  | k + 1, t, x7, x8, i => if i < (t.length : Int) then (if 0 ≤ i then (if Int.tmod i 2 = 0 then (if x7.length < 17592186044416 then impl_Diagram_build.l0 k t (x7 ++ [rdOf false t i]) x8 (wrap64 (i + 1)) else none) else (if x8.length < 17592186044416 then impl_Diagram_build.l0 k t x7 (x8 ++ [rdOf false t i]) (wrap64 (i + 1)) else none)) else none) else some (x7, x8)
def impl_Diagram_build.f : Nat → Int → List S92 → List Bool → Option (Int × List S92)
  | 0, _, _, _ => none
  | k + 1, v, l0, l1 => if (l1.length : Int) = 1 then (if rdOf false l1 0 = true then some (1, l0) else some (0, l0)) else (impl_Diagram_build.l0 k l1 [] [] 0).bind fun p => (slices_Equal_bool_bool.f k p.1 p.2).bind fun e => (if e = true then impl_Diagram_build.f k (wrap64 (v + 1)) l0 p.1 else (impl_Diagram_build.f k (wrap64 (v + 1)) l0 p.1).bind fun q => (impl_Diagram_build.f k (wrap64 (v + 1)) q.2 p.2).bind fun s => (impl_Node_100.f k s.2 v q.1 s.1).bind fun a => (if a < 0 then (if s.2.length < 17592186044 then some (wrap64 ((s.2.length : Int) + 2), s.2 ++ [⟨v, q.1, s.1⟩]) else none) else some (wrap64 (a + 2), s.2)))
theorem impl_Diagram_build.mono_l : ∀ k, (∀ y0 y1 y2 y3, LeO (impl_Diagram_build.l0 k y0 y1 y2 y3) (impl_Diagram_build.l0 (k + 1) y0 y1 y2 y3))
  | 0 => fun _ _ _ _ r h => by simp [impl_Diagram_build.l0] at h
  | k + 1 => by
    have ih0 := impl_Diagram_build.mono_l k
    intro y0 y1 y2 y3
    unfold impl_Diagram_build.l0
    repeat' first
    | (with_reducible exact ih0 _ _ _ _)
    | (with_reducible exact LeO.refl _)
    | (with_reducible exact LeO.none _)
    | (with_reducible refine LeO.ite ?_ ?_)
theorem impl_Diagram_build.mono_f : ∀ k, (∀ y0 y1 y2, LeO (impl_Diagram_build.f k y0 y1 y2) (impl_Diagram_build.f (k + 1) y0 y1 y2))
  | 0 => fun _ _ _ r h => by simp [impl_Diagram_build.f] at h
  | k + 1 => by
    have ih0 := impl_Diagram_build.mono_f k
    intro y0 y1 y2
    unfold impl_Diagram_build.f
    repeat' first
    | (with_reducible exact ih0 _ _ _)
    | (with_reducible exact impl_Diagram_build.mono_l k _ _ _ _)
    | (with_reducible exact slices_Equal_bool_bool.mono _ _ _)
    | (with_reducible exact impl_Node_100.mono _ _ _ _ _)
    | (with_reducible exact LeO.refl _)
    | (with_reducible exact LeO.none _)
    | (with_reducible refine LeO.ite ?_ ?_)
    | (with_reducible refine LeO.bind ?_ (fun _ => ?_))
theorem impl_Diagram_build.mono : ∀ a0 a1 a2 k, LeO (impl_Diagram_build.f k a0 a1 a2) (impl_Diagram_build.f (k + 1) a0 a1 a2) := fun a0 a1 a2 k => impl_Diagram_build.mono_f k a0 a1 a2
set_option maxHeartbeats 4000000 in
set_option maxRecDepth 100000 in
theorem impl_Diagram_build.calls : ∀ (k : Nat) (g : Nat) (a0 a2 : Int) (u : Value) (l0 : List S92) (v : Int) (A1 : Option Addr) (c1 : Nat) (l1 : List Bool) (r1 : Int) (r2 : List S92) (w0 w : World) (hbx : w.heap[g]? = some (.cells #[.int .i64 a0, u, .int .i64 a2] 51 (0, 0))) (hbg : w0.heap.size ≤ g) (hB : Below w0.heap.size w0 w) (hR : Kd.R k92 92 w w0.heap.size (fun _ => True) u l0) (hr1 : Kd.C Kd.bool w A1 l1.length l1) (hc1 : l1.length ≤ c1) (h : impl_Diagram_build.f k v l0 l1 = some (r1, r2)),
    Calls Try.prog 84 #[.pointer (some ⟨g, 0, none⟩), .int .i64 v, .slice A1 l1.length c1] w fun e w' => ∃ u' : Value, e = .returned (.int .i64 r1) ∧ di_St w0 w g a0 a2 u u' r2 w' := by
  intro k
  induction k with
  | zero => intro g a0 a2 u l0 v A1 c1 l1 r1 r2 w0 w hbx hbg hB hR hr1 hc1 h; simp [impl_Diagram_build.f] at h
  | succ k ih =>
  intro g a0 a2 u l0 v A1 c1 l1 r1 r2 w0 w hbx hbg hB hR hr1 hc1 h
  have hu := Try.underlying51
  have hun := Try.underlying92
  have HR1 := Aside0.mk hr1
  have HC1 := Aside0.mk hc1
  have HS0 := Aside0.mk (di_St.start (a0 := a0) (a2 := a2) hbx hB hR)
  have HB0 := Aside0.mk hB
  have GB := Aside0.mk hbg
  have HB := Aside0.mk (Below.refl w.heap.size w)
  clear hbx hbg hB hR hr1 hc1
  simp only [impl_Diagram_build.f] at h
  go_enter Try.func84, Try.ntmps84
  by_cases c1' : (l1.length : Int) = 1
  · rw [if_pos c1'] at h
    have c1b0 : ((l1.length : Int) == 1) = true := beq_iff_eq.mpr c1'
    have p1 : 0 ≤ (0 : Int) := by omega
    have q1 : (0 : Int) < (l1.length : Int) := by omega
    obtain ⟨ad, ea, hx1⟩ := Kd.at_bool HR1.out 0 p1 q1
    cases ea
    clear c1'
    replace p1 := eq_true p1
    have q2 : 0 < l1.length := by omega
    replace q1 := eq_true q1
    replace q2 := eq_true q2
    by_cases c2 : rdOf false l1 0 = true
    · rw [if_pos c2] at h
      rw [c2] at hx1
      replace hx1 : w.cell? ad = _ := hx1
      clear c2
      simp only [Option.some.injEq, Prod.mk.injEq] at h
      obtain ⟨rfl, rfl⟩ := h
      go_wp2
      repeat (go_quiet (fail); try go_wp2)
      go_ret
      exact ⟨_, by first | rfl | simp | (simp [*]; done), di_St.z HS0.out⟩
    · rw [if_neg c2] at h
      rw [Bool.not_eq_true] at c2
      rw [c2] at hx1
      replace hx1 : w.cell? ad = _ := hx1
      clear c2
      simp only [Option.some.injEq, Prod.mk.injEq] at h
      obtain ⟨rfl, rfl⟩ := h
      go_wp2
      repeat (go_quiet (fail); try go_wp2)
      go_ret
      exact ⟨_, by first | rfl | simp | (simp [*]; done), di_St.z HS0.out⟩
  · rw [if_neg c1'] at h
    have c1b0 : ((l1.length : Int) == 1) = false := beq_eq_false_iff_ne.mpr c1'
    clear c1'
    replace h := Option.bind_eq_some_iff.mp h
    obtain ⟨⟨lo, hi⟩, G1', h⟩ := h
    replace h := Option.bind_eq_some_iff.mp h
    obtain ⟨eb, G2', h⟩ := h
    dsimp only at h G2'
    have G1 := Aside0.mk G1'
    have G2 := Aside0.mk G2'
    have H' := Aside0.mk h
    clear G1' G2' h
    go_wp2
    go_loopg [7, 8, 21] k (fun kq v7 v8 v21 w' => ∃ (x7 x8 : List Bool) (x21 : Int), v21 = .int .i64 x21 ∧ Aside0 (impl_Diagram_build.l0 kq l1 x7 x8 x21 = some (lo, hi)) ∧ Aside0 (kq ≤ k) ∧ Aside0 (Kd.R Kd.bool 4 w' w.heap.size (fun k_ => some k_ ≠ (v8 : Value).ownBlock) v7 x7) ∧ Aside0 (Kd.R Kd.bool 4 w' w.heap.size (fun k_ => some k_ ≠ (v7 : Value).ownBlock) v8 x8) ∧ Aside0 (Below w.heap.size w w'))
    case atStart => exact ⟨[], [], 0, rfl, G1, ⟨Nat.le_refl _⟩, ⟨Kd.R_nil _ _ _ _ _⟩, ⟨Kd.R_nil _ _ _ _ _⟩, ⟨zb_ HB.out⟩⟩
    case round =>
      clear G1 HB
      obtain ⟨x7, x8, x21, rfl, HA, HK1, HL, HH, HB⟩ := hrel
      cases gk with
      | zero => exact absurd HA.out (by simp [impl_Diagram_build.l0])
      | succ k1 =>
        have h := HA.out
        clear HA
        simp only [impl_Diagram_build.l0] at h
        by_cases c3 : x21 < (l1.length : Int)
        · rw [if_pos c3] at h
          by_cases c4 : 0 ≤ x21
          · rw [if_pos c4] at h
            obtain ⟨ad, ea, hx1⟩ := Kd.at_bool HR1.out x21 c4 c3
            cases ea
            replace hx1 := (HB.out.cell (World.block_lt_of_cell? w _ hx1)).trans hx1
            have c3b0 : decide (x21 < (l1.length : Int)) = true := decide_eq_true c3
            replace c4 := eq_true c4
            replace c3 := eq_true c3
            by_cases c5 : Int.tmod x21 2 = 0
            · rw [if_pos c5] at h
              have c5b0 : (Int.tmod x21 2 == 0) = true := beq_iff_eq.mpr c5
              clear c5
              by_cases c6 : x7.length < 17592186044416
              · rw [if_pos c6] at h
                have LM := Aside0.mk c6
                clear c6
                obtain ⟨y, hy⟩ : ∃ y_ : List Bool, y_ = x7 ++ [rdOf false l1 x21] := ⟨_, rfl⟩
                rw [← hy] at h
                have NY := Aside0.mk hy
                have H2 := Aside0.mk h
                clear h hy
                go_wp2_with ((with_reducible refine gate_builtin (b := .append) (xs := #[.tmp 29, .tmp 31]) rfl ?_); at_builtin; refine Kd.R_append Kd.bool (w0 := w) w.heap.size rfl (.tmp 29) (.tmp 31) 48 4 (.bool false) 1 rfl Try.underlying48 info4 rfl (by decide) (by omega) u7 x7 (rdOf false l1 x21) [.bool (rdOf false l1 x21)] (fun k_ => some k_ ≠ (u8 : Value).ownBlock) (fun _ => False) rfl rfl ?aP (fun _ hk => hk.elim) ?aF ?aO ?aB ?aS ?aL ?_; (case aP => exact rfl); (case aB => exact zb_ HB.out); (case aF => exact Kd.fresh' (Kd.R_lt (zR_ HH.out))); (case aO => exact zR_ HL.out); (case aS => exact (below_size (zb_ HB.out))); (case aL => have := LM.out; omega); intro v27 w16 ho hb hg hat; rw [← NY.out] at ho; have n0_ := Aside0.mk (Kd.R_after (ok := (fun _ => True)) (zR_ (Kd.R_mono HH.out (fun _ hk => ⟨trivial, hk⟩))) hg hat); have n1_ := Aside0.mk hb; have n2_ := Aside0.mk ho; clear HL HH HB; have HH := Aside0.mk (Kd.R_mono n0_.out (fun _ hk => hk.2)); have HB := n1_; have HL := n2_; clear n0_ n1_ n2_; clear ho hb hg hat)
                go_roundg k1
                case measure => have := HK1.out; omega
                case rel => exact ⟨y, x8, (wrap64 (x21 + 1)), rfl, H2, ⟨by have := HK1.out; omega⟩, ⟨zR_ HL.out⟩, ⟨zR_ HH.out⟩, ⟨zb_ HB.out⟩⟩
              · rw [if_neg c6] at h
                cases h
            · rw [if_neg c5] at h
              have c5b0 : (Int.tmod x21 2 == 0) = false := beq_eq_false_iff_ne.mpr c5
              clear c5
              by_cases c6 : x8.length < 17592186044416
              · rw [if_pos c6] at h
                have LM := Aside0.mk c6
                clear c6
                obtain ⟨y, hy⟩ : ∃ y_ : List Bool, y_ = x8 ++ [rdOf false l1 x21] := ⟨_, rfl⟩
                rw [← hy] at h
                have NY := Aside0.mk hy
                have H2 := Aside0.mk h
                clear h hy
                go_wp2_with ((with_reducible refine gate_builtin (b := .append) (xs := #[.tmp 33, .tmp 35]) rfl ?_); at_builtin; refine Kd.R_append Kd.bool (w0 := w) w.heap.size rfl (.tmp 33) (.tmp 35) 48 4 (.bool false) 1 rfl Try.underlying48 info4 rfl (by decide) (by omega) u8 x8 (rdOf false l1 x21) [.bool (rdOf false l1 x21)] (fun k_ => some k_ ≠ (u7 : Value).ownBlock) (fun _ => False) rfl rfl ?aP (fun _ hk => hk.elim) ?aF ?aO ?aB ?aS ?aL ?_; (case aP => exact rfl); (case aB => exact zb_ HB.out); (case aF => exact Kd.fresh' (Kd.R_lt (zR_ HL.out))); (case aO => exact zR_ HH.out); (case aS => exact (below_size (zb_ HB.out))); (case aL => have := LM.out; omega); intro v27 w16 ho hb hg hat; rw [← NY.out] at ho; have n0_ := Aside0.mk (Kd.R_after (ok := (fun _ => True)) (zR_ (Kd.R_mono HL.out (fun _ hk => ⟨trivial, hk⟩))) hg hat); have n1_ := Aside0.mk hb; have n2_ := Aside0.mk ho; clear HL HH HB; have HL := Aside0.mk (Kd.R_mono n0_.out (fun _ hk => hk.2)); have HB := n1_; have HH := n2_; clear n0_ n1_ n2_; clear ho hb hg hat)
                go_roundg k1
                case measure => have := HK1.out; omega
                case rel => exact ⟨x7, y, (wrap64 (x21 + 1)), rfl, H2, ⟨by have := HK1.out; omega⟩, ⟨zR_ HL.out⟩, ⟨zR_ HH.out⟩, ⟨zb_ HB.out⟩⟩
              · rw [if_neg c6] at h
                cases h
          · rw [if_neg c4] at h
            cases h
        · rw [if_neg c3] at h
          have c3b0 : decide (x21 < (l1.length : Int)) = false := decide_eq_false c3
          clear c3
          simp only [Option.some.injEq, Prod.mk.injEq] at h
          obtain ⟨rfl, rfl⟩ := h
          obtain ⟨Alo, clo, elo⟩ := Kd.R_slice HL.out
          subst elo
          obtain ⟨Ahi, chi, ehi⟩ := Kd.R_slice HH.out
          subst ehi
          have h := H'.out
          clear H'
          cases eb with
          | true =>
            rw [if_pos rfl] at h
            have H' := Aside0.mk h
            clear h
            go_wp2_with (first | (go_at_call 99; (with_reducible refine (slices_Equal_bool_bool.calls k Alo clo x7 Ahi chi x8 _ _ ?side1 ?side2 ?side3 ?side4 G2.out).mono ?_); (case side1 => exact (Kd.R_reads' (zR_ HL.out)).2.2); (case side2 => exact (Kd.R_reads' HL.out).2.1); (case side3 => exact (Kd.R_reads' (zR_ HH.out)).2.2); (case side4 => exact (Kd.R_reads' HH.out).2.1); rintro e w14 ⟨rfl, ⟨m14, rfl⟩⟩) | (go_at_call 84; (with_reducible refine (ih g a0 a2 u l0 (wrap64 (v + 1)) Alo clo x7 r1 r2 w0 _ ?s1 GB.out ?s3 ?s4 ?s5 ?s6 H'.out).mono ?_); (case s1 => exact (di_St.z (di_St.below HS0.out HB.out)).1); (case s3 => exact (di_St.z (di_St.below HS0.out HB.out)).2.2.1); (case s4 => exact Kd.R_mono (di_St.z (di_St.below HS0.out HB.out)).2.1 (fun _ _ => trivial)); (case s5 => exact (Kd.R_reads' (zR_ HL.out)).2.2); (case s6 => exact (Kd.R_reads' HL.out).2.1); rintro e w45 ⟨u45, rfl, hs⟩; have n0_ := Aside0.mk (di_St.call (di_St.z (di_St.below HS0.out HB.out)) hs); have HS := n0_; clear n0_ hs))
            go_ret
            exact ⟨_, by first | rfl | simp | (simp [*]; done), di_St.z HS.out⟩
          | false =>
            rw [if_neg Bool.false_ne_true] at h
            replace h := Option.bind_eq_some_iff.mp h
            obtain ⟨⟨q1, q2⟩, G3', h⟩ := h
            (try dsimp only at h G3')
            have G3 := Aside0.mk G3'
            clear G3'
            replace h := Option.bind_eq_some_iff.mp h
            obtain ⟨⟨s1, s2⟩, G4', h⟩ := h
            (try dsimp only at h G4')
            have G4 := Aside0.mk G4'
            clear G4'
            replace h := Option.bind_eq_some_iff.mp h
            obtain ⟨at_, G5', h⟩ := h
            (try dsimp only at h G5')
            have G5 := Aside0.mk G5'
            clear G5'
            have H' := Aside0.mk h
            clear h
            go_wp2_with (first | (go_at_call 99; (with_reducible refine (slices_Equal_bool_bool.calls k Alo clo x7 Ahi chi x8 _ _ ?side1 ?side2 ?side3 ?side4 G2.out).mono ?_); (case side1 => exact (Kd.R_reads' (zR_ HL.out)).2.2); (case side2 => exact (Kd.R_reads' HL.out).2.1); (case side3 => exact (Kd.R_reads' (zR_ HH.out)).2.2); (case side4 => exact (Kd.R_reads' HH.out).2.1); rintro e w14 ⟨rfl, ⟨m14, rfl⟩⟩) | ((with_reducible refine gate_dst (N := 11) rfl ?_); refine box_event ?hg (N := 11) ?hd (cs := #[.int .i64 0, .int .i64 0, .int .i64 0]) (t := 92) ?hr ?_; (case hd => rfl); (case hg => rfl); (case hr => first | (go_simp; done) | (go_simp; rfl)); intro gn hg w7 hbox hb; have n0_ := Aside0.mk (Kd.R_below (zR_ HL.out) hb); have n1_ := Aside0.mk (Kd.R_below (zR_ HH.out) hb); have n2_ := Aside0.mk (below_step (zb_ HB.out) hb); have BN := Aside0.mk hbox; have GN := Aside0.mk ((by rw [hg]; exact (below_size (zb_ HB.out)) : w.heap.size ≤ gn)); have GA := Aside0.mk (Nat.le_trans HB0.out.size GN.out); have GC := Aside0.mk (Nat.ne_of_lt (Nat.lt_of_lt_of_le (blk_lt HS0.out.1) GN.out)); have GD := Aside0.mk ((fun e_ => Nat.lt_irrefl _ (Nat.lt_of_lt_of_le (Kd.R_lt HS0.out.2.1 gn e_.symm) GN.out)) : some gn ≠ (u : Value).ownBlock); clear HL HH HB; have HL := n0_; have HH := n1_; have HB := n2_; clear n0_ n1_ n2_; clear hb hbox hg; have hcz7_0 : w7.cell? ⟨gn, 0, none⟩ = some (.int .i64 0) := (blk_cell BN.out 0).trans rfl; have hcz7_1 : w7.cell? ⟨gn, 1, none⟩ = some (.int .i64 0) := (blk_cell BN.out 1).trans rfl; have hcz7_2 : w7.cell? ⟨gn, 2, none⟩ = some (.int .i64 0) := (blk_cell BN.out 2).trans rfl; have hfz7_0 := blk_frozen BN.out 0; have hfz7_1 := blk_frozen BN.out 1; have hfz7_2 := blk_frozen BN.out 2) | (go_at_call 84; (with_reducible refine (ih g a0 a2 u l0 (wrap64 (v + 1)) Alo clo x7 q1 q2 w0 _ ?s1 GB.out ?s3 ?s4 ?s5 ?s6 G3.out).mono ?_); (case s1 => exact (di_St.z (di_St.set (j := 2) (v := .int .i64 0) (di_St.set (j := 1) (v := .int .i64 0) (di_St.set (j := 0) (v := .int .i64 v) (di_St.below HS0.out HB.out) GA.out GN.out GC.out GD.out) GA.out GN.out GC.out GD.out) GA.out GN.out GC.out GD.out)).1); (case s3 => exact (di_St.z (di_St.set (j := 2) (v := .int .i64 0) (di_St.set (j := 1) (v := .int .i64 0) (di_St.set (j := 0) (v := .int .i64 v) (di_St.below HS0.out HB.out) GA.out GN.out GC.out GD.out) GA.out GN.out GC.out GD.out) GA.out GN.out GC.out GD.out)).2.2.1); (case s4 => exact Kd.R_mono (di_St.z (di_St.set (j := 2) (v := .int .i64 0) (di_St.set (j := 1) (v := .int .i64 0) (di_St.set (j := 0) (v := .int .i64 v) (di_St.below HS0.out HB.out) GA.out GN.out GC.out GD.out) GA.out GN.out GC.out GD.out) GA.out GN.out GC.out GD.out)).2.1 (fun _ _ => trivial)); (case s5 => exact (Kd.R_reads' (zR_ (di_r3 (x := .int .i64 v) (y := .int .i64 0) (z := .int .i64 0) HL.out BN.out))).2.2); (case s6 => exact (Kd.R_reads' (di_r3 (x := .int .i64 v) (y := .int .i64 0) (z := .int .i64 0) HL.out BN.out)).2.1); rintro e w52 ⟨u52, rfl, hs⟩; have n0_ := Aside0.mk (di_St.call (di_St.z (di_St.set (j := 2) (v := .int .i64 0) (di_St.set (j := 1) (v := .int .i64 0) (di_St.set (j := 0) (v := .int .i64 v) (di_St.below HS0.out HB.out) GA.out GN.out GC.out GD.out) GA.out GN.out GC.out GD.out) GA.out GN.out GC.out GD.out)) hs); have n1_ := Aside0.mk (di_St.row (di_St.z (di_St.set (j := 2) (v := .int .i64 0) (di_St.set (j := 1) (v := .int .i64 0) (di_St.set (j := 0) (v := .int .i64 v) (di_St.below HS0.out HB.out) GA.out GN.out GC.out GD.out) GA.out GN.out GC.out GD.out) GA.out GN.out GC.out GD.out)) hs (zR_ (di_r3 (x := .int .i64 v) (y := .int .i64 0) (z := .int .i64 0) HH.out BN.out))); have n2_ := Aside0.mk (di_St.blk hs (zO_ (di_n3 (x := .int .i64 v) (y := .int .i64 0) (z := .int .i64 0) BN.out)) GC.out GD.out); have n3_ := Aside0.mk (di_St.ne hs (blk_lt (zO_ (di_n3 (x := .int .i64 v) (y := .int .i64 0) (z := .int .i64 0) BN.out))) GD.out); clear HS0 HB HL HH BN GD hs; have HS := n0_; have HH := n1_; have BN := n2_; have GD := n3_; clear n0_ n1_ n2_ n3_; (try clear hcz7_0 hcz7_1 hcz7_2 hfz7_0 hfz7_1 hfz7_2); have hcz52_1 : w52.cell? ⟨gn, 1, none⟩ = some (.int .i64 0) := (blk_cell BN.out 1).trans rfl; have hfz52_1 := blk_frozen BN.out 1) | (go_at_call 84; (with_reducible refine (ih g a0 a2 u52 q2 (wrap64 (v + 1)) Ahi chi x8 s1 s2 w0 _ ?s1 GB.out ?s3 ?s4 ?s5 ?s6 G4.out).mono ?_); (case s1 => exact (di_St.z (di_St.set (j := 1) (v := .int .i64 q1) HS.out GA.out GN.out GC.out GD.out)).1); (case s3 => exact (di_St.z (di_St.set (j := 1) (v := .int .i64 q1) HS.out GA.out GN.out GC.out GD.out)).2.2.1); (case s4 => exact Kd.R_mono (di_St.z (di_St.set (j := 1) (v := .int .i64 q1) HS.out GA.out GN.out GC.out GD.out)).2.1 (fun _ _ => trivial)); (case s5 => exact (Kd.R_reads' (zR_ (Kd.R_set HH.out BN.out (by decide) 1 (.int .i64 q1)))).2.2); (case s6 => exact (Kd.R_reads' (Kd.R_set HH.out BN.out (by decide) 1 (.int .i64 q1))).2.1); rintro e w58 ⟨u58, rfl, hs⟩; have n0_ := Aside0.mk (di_St.call (di_St.z (di_St.set (j := 1) (v := .int .i64 q1) HS.out GA.out GN.out GC.out GD.out)) hs); have n2_ := Aside0.mk (di_St.blk hs (zO_ (blk_put BN.out 1 (.int .i64 q1) rfl)) GC.out GD.out); have n3_ := Aside0.mk (di_St.ne hs (blk_lt (zO_ (blk_put BN.out 1 (.int .i64 q1) rfl))) GD.out); clear HS HH BN GD hs; have HS := n0_; have BN := n2_; have GD := n3_; clear n0_ n2_ n3_; (try clear hcz52_1 hfz52_1); have hcz58_2 : w58.cell? ⟨gn, 2, none⟩ = some (.int .i64 0) := (blk_cell BN.out 2).trans rfl; have hfz58_2 := blk_frozen BN.out 2))
            obtain ⟨Au, cu, eu⟩ := Kd.R_slice HS.out.2.1
            subst eu
            have n0_ : Aside0 (di_St w0 w g a0 a2 u (.slice Au s2.length cu) s2 ((w58.setCell ⟨gn, 2, none⟩ (.int .i64 s1)).drew)) := ⟨di_St.z (di_St.set (j := 2) (v := .int .i64 s1) HS.out GA.out GN.out GC.out GD.out)⟩
            have n1_ : Aside0 (((w58.setCell ⟨gn, 2, none⟩ (.int .i64 s1)).drew).heap[gn]? = some (.cells #[.int .i64 v, .int .i64 q1, .int .i64 s1] 92 (0, 0))) := ⟨zO_ (blk_put BN.out 2 (.int .i64 s1) rfl)⟩
            clear HS BN
            have HS := n0_
            have BN := n1_
            clear n0_ n1_
            (try clear hcz58_2 hfz58_2)
            refine start_ (n := 7) (S := fun w' => w'.cell? ⟨g, 1, none⟩ = some (.slice Au s2.length cu) ∧ w'.cell? ⟨gn, 0, none⟩ = some (.int .i64 v) ∧ w'.cell? ⟨gn, 1, none⟩ = some (.int .i64 q1) ∧ w'.cell? ⟨gn, 2, none⟩ = some (.int .i64 s1)) (ds := [5]) #[false, false, false, false, false, false, false] (by kernel_rfl) rfl rfl ⟨(blk_cell HS.out.1 1).trans rfl, (blk_cell BN.out 0).trans rfl, (blk_cell BN.out 1).trans rfl, (blk_cell BN.out 2).trans rfl⟩ (fun hHeld => ?_)
            generalize (w58.setCell ⟨gn, 2, none⟩ (.int .i64 s1)).drew = w59 at HS BN hHeld ⊢
            refine pure_ (i := 0) (N := some 60) (v := ?_) (a' := ?_) #[true, false, false, false, false, false, false] rfl rfl (by kernel_rfl) (fun _ _ _ h => h) (Or.inl ⟨by rfl, ?_⟩) ?_ ?_
            rotate_left
            · intro w'
              go_simp
              with_reducible rfl
            rotate_left
            · simp only [Act.put, List.setIfInBounds_toArray, List.set_cons_zero, List.set_cons_succ, i64_w, i32_w]
              rfl
            refine pure_ (i := 1) (N := some 61) (v := ?_) (a' := ?_) #[true, true, false, false, false, false, false] rfl rfl (by kernel_rfl) (fun _ _ _ h => h) (Or.inl ⟨by rfl, ?_⟩) ?_ ?_
            rotate_left
            · intro w'
              go_simp
              with_reducible rfl
            rotate_left
            · simp only [Act.put, List.setIfInBounds_toArray, List.set_cons_zero, List.set_cons_succ, i64_w, i32_w]
              rfl
            refine pure_ (i := 2) (N := some 62) (v := ?_) (a' := ?_) #[true, true, true, false, false, false, false] rfl rfl (by kernel_rfl) (fun _ _ _ h => h) (Or.inl ⟨by rfl, ?_⟩) ?_ ?_
            rotate_left
            · intro w'
              go_simp
              with_reducible rfl
            rotate_left
            · simp only [Act.put, List.setIfInBounds_toArray, List.set_cons_zero, List.set_cons_succ, i64_w, i32_w]
              rfl
            refine take_ (i := 3) (N := some 63) (v := ?_) (a' := ?_) #[true, true, true, true, false, false, false] rfl rfl (by kernel_rfl) (fun _ _ _ h => h) (Or.inl ⟨by rfl, ?_⟩) hHeld ?_ ?_
            rotate_left
            · rintro w' ⟨s0, s1, s2, s3⟩
              go_simp
              with_reducible rfl
            rotate_left
            · simp only [Act.put, List.setIfInBounds_toArray, List.set_cons_zero, List.set_cons_succ, i64_w, i32_w]
              rfl
            refine take_ (i := 4) (N := some 64) (v := ?_) (a' := ?_) #[true, true, true, true, true, false, false] rfl rfl (by kernel_rfl) (fun _ _ _ h => h) (Or.inl ⟨by rfl, ?_⟩) hHeld ?_ ?_
            rotate_left
            · rintro w' ⟨s0, s1, s2, s3⟩
              go_simp
              with_reducible rfl
            rotate_left
            · simp only [Act.put, List.setIfInBounds_toArray, List.set_cons_zero, List.set_cons_succ, i64_w, i32_w]
              rfl
            refine last_ (i := 5) (N := some 65) #[true, true, true, true, true, true, false] rfl rfl (by kernel_rfl) (by decide) (fun K hK => ?_)
            refine goes_ Try.func100 (by kernel_rfl) rfl #[.slice Au s2.length cu, .agg #[.int .i64 v, .int .i64 q1, .int .i64 s1]] (by rfl) rfl rfl (by (try simp only [List.map_toArray, List.map_cons, List.map_nil]); first | done | rfl) ?_
            with_reducible refine (impl_Node_100.calls k Au cu s2 v q1 s1 at_ _ ?side1 ?side2 G5.out).mono ?_
            (case side1 => exact (Kd.R_reads' HS.out.2.1).2.2)
            (case side2 => exact (Kd.R_reads' HS.out.2.1).2.1)
            rintro e w66 ⟨rfl, hb⟩
            refine ⟨_, rfl, ?_⟩
            have n0_ := Aside0.mk (di_St.below HS.out hb)
            have n1_ := Aside0.mk (blk_below BN.out hb)
            clear HS BN hb hHeld
            have HS := n0_
            have BN := n1_
            clear n0_ n1_
            refine hK.out _ _ ?_
            clear hK K
            refine norm_ (a' := ?_) ?_ ?_
            rotate_left
            · show Act.put _ (some 65) _ = _
              simp only [Act.put, List.setIfInBounds_toArray, List.set_cons_zero, List.set_cons_succ, i64_w, i32_w]
              rfl
            refine pure_ (i := 6) (N := some 12) (v := ?_) (a' := ?_) #[true, true, true, true, true, true, true] rfl rfl (by kernel_rfl) (fun _ _ _ h => h) (Or.inl ⟨by rfl, ?_⟩) ?_ ?_
            rotate_left
            · intro w'
              go_simp
              with_reducible rfl
            rotate_left
            · simp only [Act.put, List.setIfInBounds_toArray, List.set_cons_zero, List.set_cons_succ, i64_w, i32_w]
              rfl
            refine done_ (by kernel_rfl) ?_
            have h := H'.out
            clear H'
            by_cases c7 : at_ < 0
            · rw [if_pos c7] at h
              have c7b0 : decide (at_ < 0) = true := decide_eq_true c7
              clear c7
              by_cases c8 : s2.length < 17592186044
              case neg => rw [if_neg c8] at h; cases h
              rw [if_pos c8] at h
              have LM := Aside0.mk c8
              clear c8
              simp only [Option.some.injEq, Prod.mk.injEq] at h
              obtain ⟨rfl, rfl⟩ := h
              have hcz66 : w66.cell? ⟨g, 1, none⟩ = some (.slice Au s2.length cu) := (blk_cell HS.out.1 1).trans rfl
              have hfz66 := blk_frozen HS.out.1 1
              go_wp2
              have n0_ := Aside0.mk (di_St.z HS.out : di_St w0 w g a0 a2 u (.slice Au s2.length cu) s2 w66.drew)
              have n1_ := Aside0.mk (zO_ BN.out : w66.drew.heap[gn]? = some (.cells #[.int .i64 v, .int .i64 q1, .int .i64 s1] 92 (0, 0)))
              clear HS BN hcz66 hfz66
              have HS := n0_
              have BN := n1_
              clear n0_ n1_
              refine start_ (n := 11) (S := fun w' => w'.cell? ⟨g, 1, none⟩ = some (.slice Au s2.length cu) ∧ w'.cell? ⟨gn, 0, none⟩ = some (.int .i64 v) ∧ w'.cell? ⟨gn, 1, none⟩ = some (.int .i64 q1) ∧ w'.cell? ⟨gn, 2, none⟩ = some (.int .i64 s1)) (ds := [7, 10]) #[false, false, false, false, false, false, false, false, false, false, false] (by kernel_rfl) rfl rfl ⟨(blk_cell HS.out.1 1).trans rfl, (blk_cell BN.out 0).trans rfl, (blk_cell BN.out 1).trans rfl, (blk_cell BN.out 2).trans rfl⟩ (fun hHeld => ?_)
              generalize w66.drew = w67 at HS BN hHeld ⊢
              refine pure_ (i := 0) (N := some 73) (v := ?_) (a' := ?_) #[true, false, false, false, false, false, false, false, false, false, false] rfl rfl (by kernel_rfl) (fun _ _ _ h => h) (Or.inl ⟨by rfl, ?_⟩) ?_ ?_
              rotate_left
              · intro w'
                go_simp
                with_reducible rfl
              rotate_left
              · simp only [Act.put, List.setIfInBounds_toArray, List.set_cons_zero, List.set_cons_succ, i64_w, i32_w]
                rfl
              refine pure_ (i := 1) (N := some 74) (v := ?_) (a' := ?_) #[true, true, false, false, false, false, false, false, false, false, false] rfl rfl (by kernel_rfl) (fun _ _ _ h => h) (Or.inl ⟨by rfl, ?_⟩) ?_ ?_
              rotate_left
              · intro w'
                go_simp
                with_reducible rfl
              rotate_left
              · simp only [Act.put, List.setIfInBounds_toArray, List.set_cons_zero, List.set_cons_succ, i64_w, i32_w]
                rfl
              refine pure_ (i := 2) (N := some 75) (v := ?_) (a' := ?_) #[true, true, true, false, false, false, false, false, false, false, false] rfl rfl (by kernel_rfl) (fun _ _ _ h => h) (Or.inl ⟨by rfl, ?_⟩) ?_ ?_
              rotate_left
              · intro w'
                go_simp
                with_reducible rfl
              rotate_left
              · simp only [Act.put, List.setIfInBounds_toArray, List.set_cons_zero, List.set_cons_succ, i64_w, i32_w]
                rfl
              refine pure_ (i := 3) (N := some 76) (v := ?_) (a' := ?_) #[true, true, true, true, false, false, false, false, false, false, false] rfl rfl (by kernel_rfl) (fun _ _ _ h => h) (Or.inl ⟨by rfl, ?_⟩) ?_ ?_
              rotate_left
              · intro w'
                go_simp
                with_reducible rfl
              rotate_left
              · simp only [Act.put, List.setIfInBounds_toArray, List.set_cons_zero, List.set_cons_succ, i64_w, i32_w]
                rfl
              refine take_ (i := 4) (N := some 77) (v := ?_) (a' := ?_) #[true, true, true, true, true, false, false, false, false, false, false] rfl rfl (by kernel_rfl) (fun _ _ _ h => h) (Or.inl ⟨by rfl, ?_⟩) hHeld ?_ ?_
              rotate_left
              · rintro w' ⟨s0, s1, s2, s3⟩
                go_simp
                with_reducible rfl
              rotate_left
              · simp only [Act.put, List.setIfInBounds_toArray, List.set_cons_zero, List.set_cons_succ, i64_w, i32_w]
                rfl
              refine take_ (i := 5) (N := some 78) (v := ?_) (a' := ?_) #[true, true, true, true, true, true, false, false, false, false, false] rfl rfl (by kernel_rfl) (fun _ _ _ h => h) (Or.inl ⟨by rfl, ?_⟩) hHeld ?_ ?_
              rotate_left
              · rintro w' ⟨s0, s1, s2, s3⟩
                go_simp
                with_reducible rfl
              rotate_left
              · simp only [Act.put, List.setIfInBounds_toArray, List.set_cons_zero, List.set_cons_succ, i64_w, i32_w]
                rfl
              refine one_ (i := 6) (N := some 79) #[true, true, true, true, true, true, true, false, false, false, false] rfl rfl (by kernel_rfl) (by decide) (fun K hK => ?_)
              refine value_ (w1 := ?_) (v := ?_) (by rfl) rfl ?_ ?_
              rotate_left 2
              · go_simp
                constructor
                · rfl
                · rfl
              refine hK.out _ _ ⟨(blk_cell (blk_alloc HS.out.1 _) 1).trans rfl, (blk_cell (blk_alloc BN.out _) 0).trans rfl, (blk_cell (blk_alloc BN.out _) 1).trans rfl, (blk_cell (blk_alloc BN.out _) 2).trans rfl⟩ (fun hHeld => ?_)
              clear hK K
              refine norm_ (a' := ?_) ?_ ?_
              rotate_left
              · show Act.put _ (some 79) _ = _
                simp only [Act.put, List.setIfInBounds_toArray, List.set_cons_zero, List.set_cons_succ, i64_w, i32_w]
                rfl
              refine last_ (i := 7) (N := some 80) #[true, true, true, true, true, true, true, true, false, false, false] rfl rfl (by kernel_rfl) (by decide) (fun K hK => ?_)
              refine Kd.R_append_step k92 (w0 := w0) w0.heap.size (by rfl) (.tmp 77) (.tmp 79) 49 92 (.agg #[.int .i64 0, .int .i64 0, .int .i64 0]) 24 rfl Try.underlying49 info92 rfl (by decide) (by omega) (.slice Au s2.length cu) s2 (⟨v, q1, s1⟩ : S92) [.int .i64 v, .int .i64 q1, .int .i64 s1] (fun k_ => some k_ = (u : Value).ownBlock ∨ w.heap.size ≤ k_) (fun _ => False) rfl rfl ?aP (fun _ hk => hk.elim) ?aF ?aO ?aB ?aS ?aL ?_
              (case aP => exact k92_mkM _ _ _ (⟨v, q1, s1⟩ : S92))
              (case aB => exact HS.out.2.2.1)
              (case aF => exact (fun k_ hk => .inr (Nat.le_trans HS.out.2.2.2.1 hk)))
              (case aO => exact HS.out.2.1)
              (case aS => exact HS.out.2.2.1.size)
              (case aL => have := LM.out; omega)
              intro v80 w80 ho hb hg hat
              obtain ⟨Av, cv, ev⟩ := Kd.R_slice ho
              rw [show (s2 ++ [(⟨v, q1, s1⟩ : S92)]).length = s2.length + 1 from by simp] at ev
              subst ev
              have hx80 := blk_grown HS.out.1 hg (Kd.R_ne HS.out.2.1 HS.out.1 (by decide))
              have hcz80 : w80.cell? ⟨g, 1, none⟩ = some (.slice Au s2.length cu) := (blk_cell hx80 1).trans rfl
              have hfz80 := blk_frozen hx80 1
              have HSN := Aside0.mk (di_St.app HS.out ho hb hg GB.out)
              clear ho hb hg hat hx80 HS BN
              refine hK.out _ _ ?_
              clear hK K
              refine norm_ (a' := ?_) ?_ ?_
              rotate_left
              · show Act.put _ (some 80) _ = _
                simp only [Act.put, List.setIfInBounds_toArray, List.set_cons_zero, List.set_cons_succ, i64_w, i32_w]
                rfl
              refine pure_ (i := 8) (N := some 81) (v := ?_) (a' := ?_) #[true, true, true, true, true, true, true, true, true, false, false] rfl rfl (by kernel_rfl) (fun _ _ _ h => h) (Or.inl ⟨by rfl, ?_⟩) ?_ ?_
              rotate_left
              · intro w'
                go_simp
                with_reducible rfl
              rotate_left
              · simp only [Act.put, List.setIfInBounds_toArray, List.set_cons_zero, List.set_cons_succ, i64_w, i32_w]
                rfl
              refine pure_ (i := 9) (N := some 82) (v := ?_) (a' := ?_) #[true, true, true, true, true, true, true, true, true, true, false] rfl rfl (by kernel_rfl) (fun _ _ _ h => h) (Or.inl ⟨by rfl, ?_⟩) ?_ ?_
              rotate_left
              · intro w'
                go_simp
                with_reducible rfl
              rotate_left
              · simp only [Act.put, List.setIfInBounds_toArray, List.set_cons_zero, List.set_cons_succ, i64_w, i32_w]
                rfl
              refine last_ (i := 10) (N := none) #[true, true, true, true, true, true, true, true, true, true, true] rfl rfl (by kernel_rfl) (by decide) (fun K hK => ?_)
              refine skip_ (w1 := ?_) (by rfl) rfl ?_ ?_
              rotate_left
              · go_simp
                rfl
              refine hK.out _ _ ?_
              clear hK K
              refine done_ (by kernel_rfl) ?_
              go_wp2
              go_ret
              exact ⟨_, by first | rfl | simp | (simp [*]; done), di_St.z HSN.out⟩
            · rw [if_neg c7] at h
              have c7b0 : decide (at_ < 0) = false := decide_eq_false c7
              clear c7
              simp only [Option.some.injEq, Prod.mk.injEq] at h
              obtain ⟨rfl, rfl⟩ := h
              go_wp2
              go_ret
              exact ⟨_, by first | rfl | simp | (simp [*]; done), di_St.z HS.out⟩


/-! ### impl_diagram: function 65 -/
def impl_diagram.f (k : Nat) (a0 : Int) (l1 : List Bool) : Option (Int × List S92 × Int) := (impl_Diagram_build.f k 1 [] l1).bind fun q => some (a0, q.2, q.1)
theorem impl_diagram.mono : ∀ a0 a1 k, LeO (impl_diagram.f k a0 a1) (impl_diagram.f (k + 1) a0 a1) := by
  intro a0 a1 k
  unfold impl_diagram.f
  exact LeO.bind (impl_Diagram_build.mono_f k _ _ _) (fun _ => LeO.refl _)
theorem dg_put3 {w : World} {gn : Nat} {T : TypeId} {a b c x y z : Value} (h : w.heap[gn]? = some (.cells #[a, b, c] T (0, 0))) : (((w.setCell ⟨gn, 0, none⟩ x).setCell ⟨gn, 1, none⟩ y).setCell ⟨gn, 2, none⟩ z).heap[gn]? = some (.cells #[x, y, z] T (0, 0)) := blk_put (blk_put (blk_put h 0 x rfl) 1 y rfl) 2 z rfl
theorem dg_far3 {w : World} {gn gr : Nat} {T : TypeId} {cs : Array Value} {x y z : Value} (h : w.heap[gr]? = some (.cells cs T (0, 0))) (hne : gr ≠ gn) : (((w.setCell ⟨gn, 0, none⟩ x).setCell ⟨gn, 1, none⟩ y).setCell ⟨gn, 2, none⟩ z).heap[gr]? = some (.cells cs T (0, 0)) := blk_far (p := ⟨gn, 2, none⟩) (blk_far (p := ⟨gn, 1, none⟩) (blk_far (p := ⟨gn, 0, none⟩) h hne x) hne y) hne z
theorem dg_row3 {w : World} {gn base : Nat} {ok : Nat → Prop} {a b c x y z v : Value} {l : List S92} (hl : Kd.R k92 92 w base ok v l) (h : w.heap[gn]? = some (.cells #[a, b, c] 51 (0, 0))) : Kd.R k92 92 (((w.setCell ⟨gn, 0, none⟩ x).setCell ⟨gn, 1, none⟩ y).setCell ⟨gn, 2, none⟩ z) base ok v l := Kd.R_set (Kd.R_set (Kd.R_set hl h (by decide) 0 x) (blk_put h 0 x rfl) (by decide) 1 y) (blk_put (blk_put h 0 x rfl) 1 y rfl) (by decide) 2 z
theorem dg_below3 {w W : World} {gn : Nat} {x y z : Value} (h : Below w.heap.size w W) (hg : w.heap.size ≤ gn) : Below w.heap.size w (((W.setCell ⟨gn, 0, none⟩ x).setCell ⟨gn, 1, none⟩ y).setCell ⟨gn, 2, none⟩ z) := below_set (below_set (below_set h hg) hg) hg
set_option maxHeartbeats 4000000 in
set_option maxRecDepth 100000 in
theorem impl_diagram.calls (k : Nat) (a0 : Int) (A1 : Option Addr) (c1 : Nat) (l1 : List Bool) (r1 : Int) (r2 : List S92) (r3 : Int) (w : World) (hr1 : Kd.C Kd.bool w A1 l1.length l1) (hc1 : l1.length ≤ c1) (h : impl_diagram.f k a0 l1 = some (r1, r2, r3)) :
    Calls Try.prog 65 #[.int .i64 a0, .slice A1 l1.length c1] w fun e w' => ∃ v1_ : Value, e = .returned (.agg #[.int .i64 r1, v1_, .int .i64 r3]) ∧ Kd.R k92 92 w' w.heap.size (fun _ => True) v1_ r2 ∧ Below w.heap.size w w' := by
  have hub := Try.underlying51
  have hur := Try.underlying51
  have HR1 := Aside0.mk hr1
  have HC1 := Aside0.mk hc1
  clear hr1 hc1
  have HB := Aside0.mk (Below.refl w.heap.size w)
  unfold impl_diagram.f at h
  replace h := Option.bind_eq_some_iff.mp h
  obtain ⟨⟨q1, q2⟩, G3', h⟩ := h
  (try dsimp only at h)
  have G3 := Aside0.mk G3'
  clear G3'
  simp only [Option.some.injEq, Prod.mk.injEq] at h
  obtain ⟨rfl, rfl, rfl⟩ := h
  go_enter Try.func65, Try.ntmps65
  go_upto_region 3 with (first | ((with_reducible refine gate_dst (N := 4) rfl ?_); refine box_event ?hg (N := 4) ?hd (cs := #[.int .i64 0, .slice none 0 0, .int .i64 0]) (t := 51) ?hr ?_; (case hd => rfl); (case hg => rfl); (case hr => first | (go_simp; done) | (go_simp; rfl)); intro g4 hg w1 hbox hb; have n0_ := Aside0.mk (below_step (zb_ HB.out) hb); have BR := Aside0.mk hbox; have GR := Aside0.mk ((by rw [hg]; exact (below_size (zb_ HB.out))) : w.heap.size ≤ g4); clear HB; have HB := n0_; clear n0_; clear hb hbox hg) | ((with_reducible refine gate_dst (N := 5) rfl ?_); refine box_event ?hg (N := 5) ?hd (cs := #[.int .i64 0, .slice none 0 0, .int .i64 0]) (t := 51) ?hr ?_; (case hd => rfl); (case hg => rfl); (case hr => first | (go_simp; done) | (go_simp; rfl)); intro g5 hg w3 hbox hb; have NE := Aside0.mk ((by rw [hg]; exact Nat.ne_of_lt (blk_lt (zO_ BR.out))) : g4 ≠ g5); have n1_ := Aside0.mk (blk_below (zO_ BR.out) hb); have GE := Aside0.mk ((by rw [hg]; exact (below_size (zb_ HB.out))) : w.heap.size ≤ g5); have n0_ := Aside0.mk (below_step (zb_ HB.out) hb); have BD := Aside0.mk hbox; clear HB BR; have HB := n0_; have BR := n1_; clear n0_ n1_; clear hb hbox hg; have hcz3_0 : w3.cell? ⟨g5, 0, none⟩ = some (.int .i64 0) := (blk_cell BD.out 0).trans rfl; have hcz3_1 : w3.cell? ⟨g5, 1, none⟩ = some (.slice none 0 0) := (blk_cell BD.out 1).trans rfl; have hcz3_2 : w3.cell? ⟨g5, 2, none⟩ = some (.int .i64 0) := (blk_cell BD.out 2).trans rfl; have hfz3_0 := blk_frozen BD.out 0; have hfz3_1 := blk_frozen BD.out 1; have hfz3_2 := blk_frozen BD.out 2) | (go_at_call 84; (with_reducible refine (impl_Diagram_build.calls k g5 a0 0 (.slice none 0 0) [] 1 A1 c1 l1 q1 q2 w _ ?s1 GE.out ?s3 ?s4 ?s5 HC1.out G3.out).mono ?_); (case s1 => exact zO_ (dg_put3 (x := .int .i64 a0) (y := .slice none 0 0) (z := .int .i64 0) BD.out)); (case s3 => exact zb_ (dg_below3 (x := .int .i64 a0) (y := .slice none 0 0) (z := .int .i64 0) HB.out GE.out)); (case s4 => exact Kd.R_nil _ _ _ _ _); (case s5 => exact Kd.C_below HR1.out (zb_ (dg_below3 (x := .int .i64 a0) (y := .slice none 0 0) (z := .int .i64 0) HB.out GE.out))); rintro e w8 ⟨u8, rfl, hs⟩; have n0_ := Aside0.mk (di_St.blk hs (zO_ (dg_far3 (x := .int .i64 a0) (y := .slice none 0 0) (z := .int .i64 0) BR.out NE.out)) (fun e_ => NE.out e_.symm) (by simp [Value.ownBlock])); have HS := Aside0.mk hs; clear HB BD BR hs; have BR := n0_; clear n0_; (try clear hcz3_0 hcz3_1 hcz3_2 hfz3_0 hfz3_1 hfz3_2); obtain ⟨Au, cu, eu⟩ := Kd.R_slice HS.out.2.1; subst eu; have hcz8_2 : w8.cell? ⟨g5, 2, none⟩ = some (.int .i64 0) := (blk_cell HS.out.1 2).trans rfl; have hfz8_2 := blk_frozen HS.out.1 2))
  have n0_ : Aside0 ((w8.setCell ⟨g5, 2, none⟩ (.int .i64 q1)).heap[g5]? = some (.cells #[.int .i64 a0, .slice Au q2.length cu, .int .i64 q1] 51 (0, 0))) := ⟨blk_put HS.out.1 2 (.int .i64 q1) rfl⟩
  have n1_ : Aside0 ((w8.setCell ⟨g5, 2, none⟩ (.int .i64 q1)).heap[g4]? = some (.cells #[.int .i64 0, .slice none 0 0, .int .i64 0] 51 (0, 0))) := ⟨blk_far (p := ⟨g5, 2, none⟩) BR.out NE.out (.int .i64 q1)⟩
  have n2_ : Aside0 (Kd.R k92 92 (w8.setCell ⟨g5, 2, none⟩ (.int .i64 q1)) w.heap.size (fun _ => True) (.slice Au q2.length cu) q2) := ⟨Kd.R_mono (Kd.R_set HS.out.2.1 HS.out.1 (by decide) 2 (.int .i64 q1)) (fun _ _ => trivial)⟩
  have n3_ : Aside0 (Below w.heap.size w (w8.setCell ⟨g5, 2, none⟩ (.int .i64 q1))) := ⟨below_set HS.out.2.2.1 GE.out⟩
  clear HS BR
  (try clear hcz8_2 hfz8_2)
  have BD := n0_
  have BR := n1_
  have HO := n2_
  have HB := n3_
  clear n0_ n1_ n2_ n3_
  generalize (w8.setCell ⟨g5, 2, none⟩ (.int .i64 q1)) = w9 at BD BR HO HB ⊢
  have hcz9d_0 : w9.cell? ⟨g5, 0, none⟩ = some (.int .i64 a0) := (blk_cell BD.out 0).trans rfl
  have hcz9d_1 : w9.cell? ⟨g5, 1, none⟩ = some (.slice Au q2.length cu) := (blk_cell BD.out 1).trans rfl
  have hcz9d_2 : w9.cell? ⟨g5, 2, none⟩ = some (.int .i64 q1) := (blk_cell BD.out 2).trans rfl
  have hfz9d_0 := blk_frozen BD.out 0
  have hfz9d_1 := blk_frozen BD.out 1
  have hfz9d_2 := blk_frozen BD.out 2
  have hcz9r_0 : w9.cell? ⟨g4, 0, none⟩ = some (.int .i64 0) := (blk_cell BR.out 0).trans rfl
  have hcz9r_1 : w9.cell? ⟨g4, 1, none⟩ = some (.slice none 0 0) := (blk_cell BR.out 1).trans rfl
  have hcz9r_2 : w9.cell? ⟨g4, 2, none⟩ = some (.int .i64 0) := (blk_cell BR.out 2).trans rfl
  have hfz9r_0 := blk_frozen BR.out 0
  have hfz9r_1 := blk_frozen BR.out 1
  have hfz9r_2 := blk_frozen BR.out 2
  go_wp2
  refine bodyPost_ret (results_cell_row rfl _ _ g4 51 #[.int .i64 a0, .slice Au q2.length cu, .int .i64 q1] (0, 0) _ rfl (zO_ (dg_put3 (x := .int .i64 a0) (y := .slice Au q2.length cu) (z := .int .i64 q1) BR.out)) Try.underlying51 rfl (by kernel_rfl)) rfl ?_
  exact ⟨_, by first | rfl | simp | (simp [*]; done), zR_ (dg_row3 (x := .int .i64 a0) (y := .slice Au q2.length cu) (z := .int .i64 q1) HO.out BR.out), zb_ (dg_below3 (x := .int .i64 a0) (y := .slice Au q2.length cu) (z := .int .i64 q1) HB.out GR.out)⟩


/-! ### impl_Diagram_value: function 89 -/
def impl_Diagram_value.l0 : Nat → Int → Int → Int → List (S92) → Int → Option (Bool)
  | 0, _, _, _, _, _ => none
  | k + 1, x1, x5, x176000, x176001, x176002 => if x5 > 1 then (if 0 ≤ (wrap64 (x5 - 2)) then (if (wrap64 (x5 - 2)) < (x176001.length : Int) then (if 0 ≤ (wrap64 (((rd_T92 x176001 (wrap64 (x5 - 2))).f0) - 1)) then (if (Go.bits .and .i64 (shr .i64 x1 (wrap64 (((rd_T92 x176001 (wrap64 (x5 - 2))).f0) - 1))) 1) = 1 then (impl_Diagram_value.l0 k x1 ((rd_T92 x176001 (wrap64 (x5 - 2))).f2) x176000 x176001 x176002) else (impl_Diagram_value.l0 k x1 ((rd_T92 x176001 (wrap64 (x5 - 2))).f1) x176000 x176001 x176002)) else (none)) else (none)) else (none)) else (some (x5 == 1))
def impl_Diagram_value.f (k : Nat) (a0_0 : Int) (l0_1 : List (S92)) (a0_2 : Int) (a1 : Int) : Option (Bool) := impl_Diagram_value.l0 k a1 a0_2 a0_0 l0_1 a0_2
theorem impl_Diagram_value.mono_l : ∀ k, (∀ y0 y1 y2 y3 y4, LeO (impl_Diagram_value.l0 k y0 y1 y2 y3 y4) (impl_Diagram_value.l0 (k + 1) y0 y1 y2 y3 y4))
  | 0 => fun _ _ _ _ _ r h => by simp [impl_Diagram_value.l0] at h
  | k + 1 => by
    have ih0 := impl_Diagram_value.mono_l k
    · intro y0 y1 y2 y3 y4
      unfold impl_Diagram_value.l0
      repeat' first
      | (with_reducible exact ih0 _ _ _ _ _)
      | (with_reducible exact LeO.refl _)
      | (with_reducible exact LeO.none _)
      | (with_reducible refine LeO.ite ?_ ?_)
      | (with_reducible refine LeO.bind ?_ (fun _ => ?_))
      | exact ih0 _ _ _ _ _
      | exact LeO.none _
      | refine LeO.ite ?_ ?_
      | refine LeO.bind ?_ (fun _ => ?_)
theorem impl_Diagram_value.mono : ∀ a0 a1 a2 a3 k, LeO (impl_Diagram_value.f k a0 a1 a2 a3) (impl_Diagram_value.f (k + 1) a0 a1 a2 a3) := by
  intro a0 a1 a2 a3 k
  have ih0 := impl_Diagram_value.mono_l k
  unfold impl_Diagram_value.f
  repeat' first
      | (with_reducible exact ih0 _ _ _ _ _)
      | (with_reducible exact LeO.refl _)
      | (with_reducible exact LeO.none _)
      | (with_reducible refine LeO.ite ?_ ?_)
      | (with_reducible refine LeO.bind ?_ (fun _ => ?_))
      | exact ih0 _ _ _ _ _
      | exact LeO.none _
      | refine LeO.ite ?_ ?_
      | refine LeO.bind ?_ (fun _ => ?_)
set_option maxHeartbeats 8000000 in
set_option maxRecDepth 100000 in
theorem impl_Diagram_value.calls (k : Nat) (a0_0 : Int) (A0_1 : Option Addr) (c0_1 : Nat) (l0_1 : List (S92)) (a0_2 : Int) (a1 : Int) (r : Bool) (w : World) (hr0_1 : Kd.C k92 w A0_1 l0_1.length l0_1) (hc0_1 : l0_1.length ≤ c0_1) (h : impl_Diagram_value.f k a0_0 l0_1 a0_2 a1 = some r) :
    Calls Try.prog 89 #[.agg #[.int .i64 a0_0, .slice A0_1 l0_1.length c0_1, .int .i64 a0_2], .int .i64 a1] w fun e w' => e = .returned (.bool r) ∧ Below w.heap.size w w' := by
  have hu51 := Try.underlying51
  have hu92 := Try.underlying92
  have HR0_1 := Aside0.mk hr0_1
  have HC0_1 := Aside0.mk hc0_1
  clear hr0_1 hc0_1
  have HB := Aside0.mk (Below.refl w.heap.size w)
  have H : (impl_Diagram_value.l0 k a1 a0_2 a0_0 l0_1 a0_2) = some r := h
  clear h
  have H' := Aside0.mk H
  clear H
  go_enter Try.func89, Try.ntmps89
  go_wp2_with (first | ((with_reducible refine gate_dst (N := 2) rfl ?_); refine box_event ?hg (N := 2) ?hd (cs := #[.int .i64 a0_0, .slice A0_1 l0_1.length c0_1, .int .i64 a0_2]) (t := 51) ?hr ?_; (case hd => rfl); (case hg => rfl); (case hr => first | (go_simp; done) | (go_simp; rfl)); intro gb175 hg w3 hbox hb; have n0_ := Aside0.mk (below_step (by repeat (first | (with_reducible first | exact HB.out | apply below_alloc | apply pw_below_drewN | apply below_drew1) | exact HB.out)) hb); have n1_ := Aside0.mk (hbox); have n2_ := Aside0.mk ((by rw [hg]; exact (below_size (by repeat (first | (with_reducible first | exact HB.out | apply below_alloc | apply pw_below_drewN | apply below_drew1) | exact HB.out))) : w.heap.size ≤ gb175)); have n3_ := Aside0.mk ((by rw [hg]; exact (below_size (by repeat (first | (with_reducible first | exact HB.out | apply below_alloc | apply pw_below_drewN | apply below_drew1) | exact HB.out))) : w.heap.size ≤ gb175)); clear HB; have HB := n0_; have BK175 := n1_; have GW175 := n2_; have GE175 := n3_; clear n0_ n1_ n2_ n3_; clear hb hbox hg; have hcz4_0 : w3.cell? ⟨gb175, 0, none⟩ = some (.int .i64 a0_0) := (blk_cell BK175.out 0).trans rfl; have hcz4_1 : w3.cell? ⟨gb175, 1, none⟩ = some (.slice A0_1 l0_1.length c0_1) := (blk_cell BK175.out 1).trans rfl; have hcz4_2 : w3.cell? ⟨gb175, 2, none⟩ = some (.int .i64 a0_2) := (blk_cell BK175.out 2).trans rfl; have hfz4_0 := blk_frozen BK175.out 0; have hfz4_1 := blk_frozen BK175.out 1; have hfz4_2 := blk_frozen BK175.out 2))
  go_loopg [5] k (fun kq v5 w' => ∃ (x5_1 : Int), v5 = .int .i64 x5_1 ∧ Aside0 (impl_Diagram_value.l0 kq a1 x5_1 a0_0 l0_1 a0_2 = some r) ∧ Aside0 (kq ≤ k) ∧ Aside0 (w'.heap[gb175]? = some (.cells #[.int .i64 a0_0, (.slice A0_1 l0_1.length c0_1), .int .i64 a0_2] 51 (0, 0))) ∧ Aside0 (Below w.heap.size w w'))
  case atStart => exact ⟨(a0_2), (by first | rfl | (simp; done) | (simp [*]; done)), H', ⟨Nat.le_refl _⟩, ⟨by (with_reducible repeat (first | refine blk_drewN ?_ _ | refine blk_drew ?_ | refine blk_alloc ?_ _)); exact BK175.out⟩, ⟨by repeat (first | (with_reducible first | exact HB.out | apply below_alloc | apply pw_below_drewN | apply below_drew1 | refine below_set ?_ GE175.out) | exact HB.out)⟩⟩
  case round =>
    clear H'
    try clear p2
    try clear hcz4_0
    try clear hcz4_1
    try clear hcz4_2
    try clear hfz4_0
    try clear hfz4_1
    try clear hfz4_2
    obtain ⟨x5_1, rfl, HA, HK1, BK175, HB⟩ := hrel
    cases gk with
    | zero => exact absurd HA.out (by simp [impl_Diagram_value.l0])
    | succ k1 =>
      have H := HA.out
      clear HA
      simp only [impl_Diagram_value.l0] at H
      by_cases c5 : x5_1 > 1
      · rw [if_pos c5] at H
        have c5b0 : decide (1 < x5_1) = true := decide_eq_true c5
        clear c5
        obtain ⟨ji6, hji6⟩ : ∃ j_ : Int, (wrap64 (x5_1 - 2)) = j_ := ⟨_, rfl⟩
        replace H : (if 0 ≤ (ji6) then (if (ji6) < (l0_1.length : Int) then (if 0 ≤ (wrap64 (((rd_T92 l0_1 (ji6)).f0) - 1)) then (if (Go.bits .and .i64 (shr .i64 a1 (wrap64 (((rd_T92 l0_1 (ji6)).f0) - 1))) 1) = 1 then (impl_Diagram_value.l0 k1 a1 ((rd_T92 l0_1 (ji6)).f2) a0_0 l0_1 a0_2) else (impl_Diagram_value.l0 k1 a1 ((rd_T92 l0_1 (ji6)).f1) a0_0 l0_1 a0_2)) else (none)) else (none)) else (none)) = some r := by first | (rw [hji6] at H; exact H) | (simp only [hji6] at H ⊢; exact H)
        have hji6w : (IntKind.i64.wrap (x5_1 - 2)) = ji6 := (i64_w _).trans hji6
        by_cases c7 : 0 ≤ (ji6)
        · rw [if_pos c7] at H
          have c7b0 : decide (0 ≤ (ji6)) = true := decide_eq_true c7
          clear c7
          by_cases c8 : (ji6) < (l0_1.length : Int)
          · rw [if_pos c8] at H
            have c8b0 : decide ((ji6) < (l0_1.length : Int)) = true := decide_eq_true c8
            clear c8
            obtain ⟨ji9, hji9⟩ : ∃ j_ : Int, (wrap64 (((rd_T92 l0_1 (ji6)).f0) - 1)) = j_ := ⟨_, rfl⟩
            replace H : (if 0 ≤ (ji9) then (if (Go.bits .and .i64 (shr .i64 a1 (ji9)) 1) = 1 then (impl_Diagram_value.l0 k1 a1 ((rd_T92 l0_1 (ji6)).f2) a0_0 l0_1 a0_2) else (impl_Diagram_value.l0 k1 a1 ((rd_T92 l0_1 (ji6)).f1) a0_0 l0_1 a0_2)) else (none)) = some r := by first | (rw [hji9] at H; exact H) | (simp only [hji9] at H ⊢; exact H)
            have hji9w : (IntKind.i64.wrap (((rd_T92 l0_1 (ji6)).f0) - 1)) = ji9 := (i64_w _).trans hji9
            by_cases c10 : 0 ≤ (ji9)
            · rw [if_pos c10] at H
              have c10b0 := eq_true c10
              have c10b1 : decide (0 ≤ (ji9)) = true := decide_eq_true c10
              clear c10
              obtain ⟨ji11, hji11⟩ : ∃ j_ : Int, (shr .i64 a1 (ji9)) = j_ := ⟨_, rfl⟩
              replace H : (if (Go.bits .and .i64 (ji11) 1) = 1 then (impl_Diagram_value.l0 k1 a1 ((rd_T92 l0_1 (ji6)).f2) a0_0 l0_1 a0_2) else (impl_Diagram_value.l0 k1 a1 ((rd_T92 l0_1 (ji6)).f1) a0_0 l0_1 a0_2)) = some r := by first | (rw [hji11] at H; exact H) | (simp only [hji11] at H ⊢; exact H)
              have hji11_ : (a1 / 2 ^ min (ji9).toNat 64) = ji11 := hji11
              have hji11z : (ji9) ≤ 64 → (a1 / 2 ^ (ji9).toNat) = ji11 := shr_small hji11
              by_cases c12 : (Go.bits .and .i64 (ji11) 1) = 1
              · rw [if_pos c12] at H
                have c12b0 : ((Go.bits .and .i64 (ji11) 1) == 1) = true := beq_iff_eq.mpr c12
                have c12b1 : ((Go.bits .and .i64 (ji11) 1) != 1) = false := bne_eq_false_iff_eq.mpr c12
                clear c12
                have H' := Aside0.mk H
                clear H
                have hcz13_0 : wr.cell? ⟨gb175, 0, none⟩ = some (.int .i64 a0_0) := (blk_cell BK175.out 0).trans rfl
                have hcz13_1 : wr.cell? ⟨gb175, 1, none⟩ = some (.slice A0_1 l0_1.length c0_1) := (blk_cell BK175.out 1).trans rfl
                have hcz13_2 : wr.cell? ⟨gb175, 2, none⟩ = some (.int .i64 a0_2) := (blk_cell BK175.out 2).trans rfl
                have hfz13_0 := blk_frozen BK175.out 0
                have hfz13_1 := blk_frozen BK175.out 1
                have hfz13_2 := blk_frozen BK175.out 2
                have p176 : 0 ≤ ((ji6) : Int) := of_decide_eq_true (by first | (with_reducible assumption) | assumption)
                have q176 : (ji6) < (l0_1.length : Int) := of_decide_eq_true (by first | (with_reducible assumption) | assumption)
                obtain ⟨ad176, e176, hx176_0, hx176_1, hx176_2⟩ := at_T92 HR0_1.out (ji6) p176 q176
                cases e176
                (try replace hx176_0 := (HB.out.cell (World.block_lt_of_cell? w _ hx176_0)).trans hx176_0)
                (try replace hx176_1 := (HB.out.cell (World.block_lt_of_cell? w _ hx176_1)).trans hx176_1)
                (try replace hx176_2 := (HB.out.cell (World.block_lt_of_cell? w _ hx176_2)).trans hx176_2)
                replace p176 := eq_true p176
                replace q176 := eq_true q176
                go_wp2_with (first | ((with_reducible refine gate_dst (N := 6) rfl ?_); refine box_event ?hg (N := 6) ?hd (cs := #[.int .i64 0, .int .i64 0, .int .i64 0]) (t := 92) ?hr ?_; (case hd => rfl); (case hg => rfl); (case hr => first | (go_simp; done) | (go_simp; rfl)); intro gb177 hg w14 hbox hb; have n0_ := Aside0.mk (blk_below (g := gb175) (o := .cells #[.int .i64 a0_0, .slice (some ad176) l0_1.length c0_1, .int .i64 a0_2] 51 (0, 0)) (by (with_reducible repeat (first | refine blk_drewN ?_ _ | refine blk_drew ?_ | refine blk_alloc ?_ _)); exact BK175.out) hb); have n1_ := Aside0.mk (below_step (by repeat (first | (with_reducible first | exact HB.out | apply below_alloc | apply pw_below_drewN | apply below_drew1 | refine below_set ?_ GE175.out) | exact HB.out)) hb); have n2_ := Aside0.mk (hbox); have n3_ := Aside0.mk ((by rw [hg]; exact (below_size (by repeat (first | (with_reducible first | exact HB.out | apply below_alloc | apply pw_below_drewN | apply below_drew1 | refine below_set ?_ GE175.out) | exact HB.out))) : w.heap.size ≤ gb177)); have n4_ := Aside0.mk ((by rw [hg]; exact (below_size (by repeat (first | (with_reducible first | exact HB.out | apply below_alloc | apply pw_below_drewN | apply below_drew1 | refine below_set ?_ GE175.out) | exact HB.out))) : w.heap.size ≤ gb177)); have n5_ := Aside0.mk ((by rw [hg]; exact Nat.ne_of_lt (blk_lt (g := gb175) (o := .cells #[.int .i64 a0_0, .slice (some ad176) l0_1.length c0_1, .int .i64 a0_2] 51 (0, 0)) (by (with_reducible repeat (first | refine blk_drewN ?_ _ | refine blk_drew ?_ | refine blk_alloc ?_ _)); exact BK175.out)) : gb175 ≠ gb177)); have n6_ := Aside0.mk ((by rw [hg]; exact Nat.ne_of_gt (blk_lt (g := gb175) (o := .cells #[.int .i64 a0_0, .slice (some ad176) l0_1.length c0_1, .int .i64 a0_2] 51 (0, 0)) (by (with_reducible repeat (first | refine blk_drewN ?_ _ | refine blk_drew ?_ | refine blk_alloc ?_ _)); exact BK175.out)) : gb177 ≠ gb175)); clear BK175; clear HB; have BK175 := n0_; have HB := n1_; have BK177 := n2_; have GW177 := n3_; have GE177 := n4_; have NB175_177 := n5_; have NB177_175 := n6_; clear n0_ n1_ n2_ n3_ n4_ n5_ n6_; clear hb hbox hg; have hnb15 := NB177_175.out; have hnc15 := NB175_177.out; have hcz16_0 : w14.cell? ⟨gb177, 0, none⟩ = some (.int .i64 0) := (blk_cell BK177.out 0).trans rfl; have hcz16_1 : w14.cell? ⟨gb177, 1, none⟩ = some (.int .i64 0) := (blk_cell BK177.out 1).trans rfl; have hcz16_2 : w14.cell? ⟨gb177, 2, none⟩ = some (.int .i64 0) := (blk_cell BK177.out 2).trans rfl; have hfz16_0 := blk_frozen BK177.out 0; have hfz16_1 := blk_frozen BK177.out 1; have hfz16_2 := blk_frozen BK177.out 2))
                go_roundg k1
                case measure => have := HK1.out; omega
                case rel => exact ⟨((rd_T92 l0_1 (ji6)).f2), (by first | rfl | (simp; done) | (simp only [← hji6] <;> (first | rfl | simp)) | (simp [*]; done)), H', ⟨by have := HK1.out; omega⟩, ⟨by (with_reducible repeat (first | refine blk_drewN ?_ _ | refine blk_drew ?_ | refine blk_alloc ?_ _)); refine blk_far ?_ NB175_177.out _; (with_reducible repeat (first | refine blk_drewN ?_ _ | refine blk_drew ?_ | refine blk_alloc ?_ _)); refine blk_far ?_ NB175_177.out _; (with_reducible repeat (first | refine blk_drewN ?_ _ | refine blk_drew ?_ | refine blk_alloc ?_ _)); refine blk_far ?_ NB175_177.out _; (with_reducible repeat (first | refine blk_drewN ?_ _ | refine blk_drew ?_ | refine blk_alloc ?_ _)); exact BK175.out⟩, ⟨by repeat (first | (with_reducible first | exact HB.out | apply below_alloc | apply pw_below_drewN | apply below_drew1 | refine below_set ?_ GE175.out | refine below_set ?_ GE177.out) | exact HB.out)⟩⟩
              · rw [if_neg c12] at H
                have c12b0 : ((Go.bits .and .i64 (ji11) 1) == 1) = false := beq_eq_false_iff_ne.mpr c12
                have c12b1 : ((Go.bits .and .i64 (ji11) 1) != 1) = true := bne_iff_ne.mpr c12
                have H' := Aside0.mk H
                clear H
                have hcz17_0 : wr.cell? ⟨gb175, 0, none⟩ = some (.int .i64 a0_0) := (blk_cell BK175.out 0).trans rfl
                have hcz17_1 : wr.cell? ⟨gb175, 1, none⟩ = some (.slice A0_1 l0_1.length c0_1) := (blk_cell BK175.out 1).trans rfl
                have hcz17_2 : wr.cell? ⟨gb175, 2, none⟩ = some (.int .i64 a0_2) := (blk_cell BK175.out 2).trans rfl
                have hfz17_0 := blk_frozen BK175.out 0
                have hfz17_1 := blk_frozen BK175.out 1
                have hfz17_2 := blk_frozen BK175.out 2
                have p176 : 0 ≤ ((ji6) : Int) := of_decide_eq_true (by first | (with_reducible assumption) | assumption)
                have q176 : (ji6) < (l0_1.length : Int) := of_decide_eq_true (by first | (with_reducible assumption) | assumption)
                obtain ⟨ad176, e176, hx176_0, hx176_1, hx176_2⟩ := at_T92 HR0_1.out (ji6) p176 q176
                cases e176
                (try replace hx176_0 := (HB.out.cell (World.block_lt_of_cell? w _ hx176_0)).trans hx176_0)
                (try replace hx176_1 := (HB.out.cell (World.block_lt_of_cell? w _ hx176_1)).trans hx176_1)
                (try replace hx176_2 := (HB.out.cell (World.block_lt_of_cell? w _ hx176_2)).trans hx176_2)
                replace p176 := eq_true p176
                replace q176 := eq_true q176
                go_wp2_with (first | ((with_reducible refine gate_dst (N := 6) rfl ?_); refine box_event ?hg (N := 6) ?hd (cs := #[.int .i64 0, .int .i64 0, .int .i64 0]) (t := 92) ?hr ?_; (case hd => rfl); (case hg => rfl); (case hr => first | (go_simp; done) | (go_simp; rfl)); intro gb177 hg w18 hbox hb; have n0_ := Aside0.mk (blk_below (g := gb175) (o := .cells #[.int .i64 a0_0, .slice (some ad176) l0_1.length c0_1, .int .i64 a0_2] 51 (0, 0)) (by (with_reducible repeat (first | refine blk_drewN ?_ _ | refine blk_drew ?_ | refine blk_alloc ?_ _)); exact BK175.out) hb); have n1_ := Aside0.mk (below_step (by repeat (first | (with_reducible first | exact HB.out | apply below_alloc | apply pw_below_drewN | apply below_drew1 | refine below_set ?_ GE175.out) | exact HB.out)) hb); have n2_ := Aside0.mk (hbox); have n3_ := Aside0.mk ((by rw [hg]; exact (below_size (by repeat (first | (with_reducible first | exact HB.out | apply below_alloc | apply pw_below_drewN | apply below_drew1 | refine below_set ?_ GE175.out) | exact HB.out))) : w.heap.size ≤ gb177)); have n4_ := Aside0.mk ((by rw [hg]; exact (below_size (by repeat (first | (with_reducible first | exact HB.out | apply below_alloc | apply pw_below_drewN | apply below_drew1 | refine below_set ?_ GE175.out) | exact HB.out))) : w.heap.size ≤ gb177)); have n5_ := Aside0.mk ((by rw [hg]; exact Nat.ne_of_lt (blk_lt (g := gb175) (o := .cells #[.int .i64 a0_0, .slice (some ad176) l0_1.length c0_1, .int .i64 a0_2] 51 (0, 0)) (by (with_reducible repeat (first | refine blk_drewN ?_ _ | refine blk_drew ?_ | refine blk_alloc ?_ _)); exact BK175.out)) : gb175 ≠ gb177)); have n6_ := Aside0.mk ((by rw [hg]; exact Nat.ne_of_gt (blk_lt (g := gb175) (o := .cells #[.int .i64 a0_0, .slice (some ad176) l0_1.length c0_1, .int .i64 a0_2] 51 (0, 0)) (by (with_reducible repeat (first | refine blk_drewN ?_ _ | refine blk_drew ?_ | refine blk_alloc ?_ _)); exact BK175.out)) : gb177 ≠ gb175)); clear BK175; clear HB; have BK175 := n0_; have HB := n1_; have BK177 := n2_; have GW177 := n3_; have GE177 := n4_; have NB175_177 := n5_; have NB177_175 := n6_; clear n0_ n1_ n2_ n3_ n4_ n5_ n6_; clear hb hbox hg; have hnb19 := NB177_175.out; have hnc19 := NB175_177.out; have hcz20_0 : w18.cell? ⟨gb177, 0, none⟩ = some (.int .i64 0) := (blk_cell BK177.out 0).trans rfl; have hcz20_1 : w18.cell? ⟨gb177, 1, none⟩ = some (.int .i64 0) := (blk_cell BK177.out 1).trans rfl; have hcz20_2 : w18.cell? ⟨gb177, 2, none⟩ = some (.int .i64 0) := (blk_cell BK177.out 2).trans rfl; have hfz20_0 := blk_frozen BK177.out 0; have hfz20_1 := blk_frozen BK177.out 1; have hfz20_2 := blk_frozen BK177.out 2))
                go_roundg k1
                case measure => have := HK1.out; omega
                case rel => exact ⟨((rd_T92 l0_1 (ji6)).f1), (by first | rfl | (simp; done) | (simp only [← hji6] <;> (first | rfl | simp)) | (simp [*]; done)), H', ⟨by have := HK1.out; omega⟩, ⟨by (with_reducible repeat (first | refine blk_drewN ?_ _ | refine blk_drew ?_ | refine blk_alloc ?_ _)); refine blk_far ?_ NB175_177.out _; (with_reducible repeat (first | refine blk_drewN ?_ _ | refine blk_drew ?_ | refine blk_alloc ?_ _)); refine blk_far ?_ NB175_177.out _; (with_reducible repeat (first | refine blk_drewN ?_ _ | refine blk_drew ?_ | refine blk_alloc ?_ _)); refine blk_far ?_ NB175_177.out _; (with_reducible repeat (first | refine blk_drewN ?_ _ | refine blk_drew ?_ | refine blk_alloc ?_ _)); exact BK175.out⟩, ⟨by repeat (first | (with_reducible first | exact HB.out | apply below_alloc | apply pw_below_drewN | apply below_drew1 | refine below_set ?_ GE175.out | refine below_set ?_ GE177.out) | exact HB.out)⟩⟩
            · rw [if_neg c10] at H
              exact absurd H (by simp)
          · rw [if_neg c8] at H
            exact absurd H (by simp)
        · rw [if_neg c7] at H
          exact absurd H (by simp)
      · rw [if_neg c5] at H
        have c5b0 : decide (1 < x5_1) = false := decide_eq_false c5
        clear c5
        obtain rfl := Option.some.inj H
        go_wp2
        go_ret
        exact ⟨by first | rfl | (simp [errW_none, errW_some] <;> rfl) | (simp [*, errW_none, errW_some] <;> rfl), by repeat (first | (with_reducible first | exact HB.out | apply below_alloc | apply pw_below_drewN | apply below_drew1 | refine below_set ?_ GE175.out) | exact HB.out)⟩

end Go.Proofs.Ytjopmdogdmdanaa.PFnExactGoodDiagram
