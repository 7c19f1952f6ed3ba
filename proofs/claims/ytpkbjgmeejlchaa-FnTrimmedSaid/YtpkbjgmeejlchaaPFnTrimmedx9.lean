-- Made by a program of this session (wip/tools), which leans on the kit's print: checked by Lean alone.
import Derived.Test.YtpkbjgmeejlchaaPFnTrimmedx0
import Derived.Test.YtpkbjgmeejlchaaPFnTrimmedx1
import Derived.Test.YtpkbjgmeejlchaaPFnTrimmedx2
import Derived.Test.YtpkbjgmeejlchaaPFnTrimmedx4
import Derived.Test.YtpkbjgmeejlchaaPFnTrimmedx5
namespace Go.Proofs.Ytpkbjgmeejlchaa.PFnTrimmed
open Go.RowKit Go.Proofs.YtpkbjgmeejlchaaW.PrintWords Go.Proofs.YtpkbjgmeejlchaaW.PrintLast Go.Proofs.YtpkbjgmeejlchaaW.PrintMore
attribute [local go_sem] max2_int min2_int max_two min_two max_three min_three max_four min_four   -- for this text's walks alone
set_option linter.unusedVariables false
set_option linter.unusedSimpArgs false
def impl_pick.l0 : Nat → List (List Int) → List (List Int) → List Int → Int → Int → Option ((List (List Int)))
 | 0, _, _, _, _, _ => none
 | k + 1, x0, x5, x8, x9, x10 => if x10 < x9 then (if 0 ≤ x10 then (if x10 < (x8.length : Int) then (if 0 ≤ (rd x8 x10) then (if (rd x8 x10) < (x0.length : Int) then ((slices_Clone_int_int.f (rd_L1 x0 (rd x8 x10))).bind fun t356 => (if x5.length < 5864062014805 then (impl_pick.l0 k x0 (x5 ++ [t356]) x8 x9 (wrap64 (x10 + 1))) else (none))) else (none)) else (none)) else (none)) else (none)) else (some x5)
def impl_pick.f (k : Nat) (l0 : List (List Int)) (l1 : List Int) : Option ((List (List Int))) := impl_pick.l0 k l0 ([] : List (List Int)) l1 (l1.length : Int) 0
theorem impl_pick.mono_l : ∀ k, (∀ y0 y1 y2 y3 y4, LeO (impl_pick.l0 k y0 y1 y2 y3 y4) (impl_pick.l0 (k + 1) y0 y1 y2 y3 y4))
 | 0 => fun _ _ _ _ _ r h => by simp [impl_pick.l0] at h
 | k + 1 => by
  have ih0 := impl_pick.mono_l k
  ·intro y0 y1 y2 y3 y4
   unfold impl_pick.l0
   repeat' first
   | (with_reducible exact ih0 _ _ _ _ _)
   | (with_reducible exact LeO.refl _)
   | (with_reducible exact LeO.none _)
   | (with_reducible refine LeO.ite ?_ ?_)
   | (with_reducible refine LeO.bind ?_ (fun _ => ?_))
   | exact ih0 _ _ _ _ _
   | exact LeO.none _
   | refine LeO.ite ?_ ?_
   | refine LeO.bind ?_ (fun _ => ?_)
theorem impl_pick.mono : ∀ a0 a1 k, LeO (impl_pick.f k a0 a1) (impl_pick.f (k + 1) a0 a1) := by
 intro a0 a1 k
 have ih0 := impl_pick.mono_l k
 unfold impl_pick.f
 repeat' first
   | (with_reducible exact ih0 _ _ _ _ _)
   | (with_reducible exact LeO.refl _)
   | (with_reducible exact LeO.none _)
   | (with_reducible refine LeO.ite ?_ ?_)
   | (with_reducible refine LeO.bind ?_ (fun _ => ?_))
   | exact ih0 _ _ _ _ _
   | exact LeO.none _
   | refine LeO.ite ?_ ?_
   | refine LeO.bind ?_ (fun _ => ?_)
set_option maxHeartbeats 8000000 in
set_option maxRecDepth 100000 in
theorem impl_pick.calls (k : Nat) (A0 : Option Addr) (c0 : Nat) (l0 : List (List Int)) (A1 : Option Addr) (c1 : Nat) (l1 : List Int) (r : List (List Int)) (w : World) (hr0 : Kd.C (Kd.slice 3 (Kd.int .i64)) w A0 l0.length l0) (hc0 : l0.length ≤ c0) (hr1 : Kd.C (Kd.int .i64) w A1 l1.length l1) (hc1 : l1.length ≤ c1) (h : impl_pick.f k l0 l1 = some r) :
  Calls Try.prog 98 #[.slice A0 l0.length c0, .slice A1 l1.length c1] w fun e w' => ∃ v0_ : Value, e = .returned (v0_) ∧ Kd.S (Kd.slice 3 (Kd.int .i64)) 42 w' w.heap.size (fun _ => True) v0_ r ∧ Below w.heap.size w w' := by
 have HR0 := Aside0.mk hr0
 have HC0 := Aside0.mk hc0
 clear hr0 hc0
 have HR1 := Aside0.mk hr1
 have HC1 := Aside0.mk hc1
 clear hr1 hc1
 have HB := Aside0.mk (Below.refl w.heap.size w)
 have H : (impl_pick.l0 k l0 ([] : List (List Int)) l1 (l1.length : Int) 0) = some r := h
 clear h
 have H' := Aside0.mk H
 clear H
 go_enter Try.func98, Try.ntmps98
 go_wp2
 go_loopg [5, 10] k (fun kq v5 v10 w' => ∃ (x5_1 : List (List Int)) (x10_1 : Int), v10 = .int .i64 x10_1 ∧ Aside0 (impl_pick.l0 kq l0 x5_1 l1 (l1.length : Int) x10_1 = some r) ∧ Aside0 (kq ≤ k) ∧ Aside0 (Kd.S (Kd.slice 3 (Kd.int .i64)) 42 w' w.heap.size (fun _ => True) v5 x5_1) ∧ Aside0 (Below w.heap.size w w'))
 case atStart => exact ⟨(([] : List (List Int))), (0), (by first | rfl | (simp; done) | (simp [*]; done)), H', ⟨Nat.le_refl _⟩, ⟨by first | exact Kd.S_nil _ _ _ _ _ | exact Kd.N_nil _ _ _ _ _ | exact Kd.V_nil _ _ _ _ _ | exact Kd.Q_nil _ _ _ _ _ | exact Kd.R_nil _ _ _ _ _⟩, ⟨zb_ HB.out⟩⟩
 case round =>
  clear H'
  try clear c1
  try clear p2
  obtain ⟨x5_1, x10_1, rfl, HA, HK1, HO_5, HB⟩ := hrel
  cases gk with
  | zero => exact absurd HA.out (by simp [impl_pick.l0])
  | succ k1 =>
   have H := HA.out
   clear HA
   simp only [impl_pick.l0] at H
   by_cases c3 : x10_1 < (l1.length : Int)
   ·rw [if_pos c3] at H
    have c3b0 : decide (x10_1 < (l1.length : Int)) = true := decide_eq_true c3
    clear c3
    by_cases c4 : 0 ≤ x10_1
    ·rw [if_pos c4] at H
     have c4b0 : decide (0 ≤ x10_1) = true := decide_eq_true c4
     clear c4
     by_cases c5 : x10_1 < (l1.length : Int)
     ·rw [if_pos c5] at H
      have c5b0 : decide (x10_1 < (l1.length : Int)) = true := decide_eq_true c5
      clear c5
      by_cases c6 : 0 ≤ (rd l1 x10_1)
      ·rw [if_pos c6] at H
       have c6b0 : decide (0 ≤ (rd l1 x10_1)) = true := decide_eq_true c6
       clear c6
       by_cases c7 : (rd l1 x10_1) < (l0.length : Int)
       ·rw [if_pos c7] at H
        have c7b0 : decide ((rd l1 x10_1) < (l0.length : Int)) = true := decide_eq_true c7
        clear c7
        replace H := Option.bind_eq_some_iff.mp H
        obtain ⟨t356, A80, H⟩ := H
        (try dsimp only at H)
        have A8 := Aside0.mk A80
        clear A80
        by_cases c9 : x5_1.length < 5864062014805
        ·rw [if_pos c9] at H
         have LMc9 := Aside0.mk c9
         clear c9
         obtain ⟨y359, hy359⟩ : ∃ y_ : List (List Int), y_ = (x5_1 ++ [t356]) := ⟨_, rfl⟩
         replace H : (impl_pick.l0 k1 l0 y359 l1 (l1.length : Int) (wrap64 (x10_1 + 1))) = some r := by first | (rw [hy359]; with_reducible exact H) | (have H2_ := (Option.bind_some _ _).symm.trans H; rw [hy359]; with_reducible exact H2_) | (have H2_ := (Option.bind_some _ _).symm.trans H; with_reducible exact H2_) | with_reducible exact H | (rw [hy359]; exact H) | exact H
         have Ny359 := Aside0.mk hy359
         clear hy359
         have H' := Aside0.mk H
         clear H
         have p354 : 0 ≤ (x10_1 : Int) := of_decide_eq_true (by assumption)
         have q354 : x10_1 < (l1.length : Int) := of_decide_eq_true (by assumption)
         obtain ⟨ad354, e354, hx354_0⟩ := Kd.at_int HR1.out x10_1 p354 q354
         cases e354
         (try replace hx354_0 := (HB.out.cell (World.block_lt_of_cell? w _ hx354_0)).trans hx354_0)
         replace p354 := eq_true p354
         replace q354 := eq_true q354
         have p355 : 0 ≤ ((rd l1 x10_1) : Int) := of_decide_eq_true (by assumption)
         have q355 : (rd l1 x10_1) < (l0.length : Int) := of_decide_eq_true (by assumption)
         obtain ⟨ad355, A355_0, c355_0, e355, hx355_0, hl355_0, hi355_0⟩ := at_L1 HR0.out (rd l1 x10_1) p355 q355
         cases e355
         (try replace hx355_0 := (HB.out.cell (World.block_lt_of_cell? w _ hx355_0)).trans hx355_0)
         have HR355_0 := Aside0.mk hi355_0
         have HC355_0 := Aside0.mk hl355_0
         clear hi355_0 hl355_0
         replace p355 := eq_true p355
         replace q355 := eq_true q355
         go_wp2_with (first | ((with_reducible refine gate_callee (f := 100) rfl ?_); refine goesL_ (some 19) rfl rfl Try.func100 (by kernel_rfl) rfl #[.slice A355_0 (rd_L1 l0 (rd l1 x10_1)).length c355_0] rfl (by simp only [zA_, zB_, zD_] <;> rfl) ?_; (with_reducible refine (slices_Clone_int_int.calls _ _ (rd_L1 l0 (rd l1 x10_1)) t356 _ ?side1 ?side2 A8.out).mono ?_); (case side1 => exact zC_ (Kd.C_below HR355_0.out HB.out)); (case side2 => exact HC355_0.out); rintro e w10 ⟨v357, rfl, ho0, hb⟩; refine ⟨_, rfl, ?_⟩; have n0_ := Aside0.mk (Kd.S_elder' (zS_ HO_5.out) (Kd.R_base ho0) hb); have n1_ := Aside0.mk (Kd.R_lower ho0 (below_size (zb_ HB.out))); have n2_ := Aside0.mk (below_step (zb_ HB.out) hb); clear HO_5; clear HB; have HO_5 := n0_; have HO358 := n1_; have HB := n2_; clear n0_ n1_ n2_; (try clear hb); (try clear hb2); (try clear hk); (try clear hi); (try clear ho0); obtain ⟨Ao12, co12, eo12⟩ := Kd.R_slice HO358.out; subst eo12) | ((with_reducible refine gate_builtin (b := .append) (xs := #[.tmp 14, .tmp 20]) rfl ?_); at_builtin; refine Kd.S_append (Kd.slice 3 (Kd.int .i64)) (w0 := w) w.heap.size rfl (.tmp 14) (.tmp 20) 50 42 (.slice none 0 0) 24 rfl Try.underlying50 info42 rfl (by decide) (by omega) u5 x5_1 t356 [.slice Ao12 t356.length co12] (fun _ => True) (fun k_ => some k_ = (.slice Ao12 t356.length co12 : Value).ownBlock) rfl rfl ?aP (fun k_ hk_ => ((Kd.R_mono (ok' := fun k_ => ((fun _ => True)) k_ ∧ some k_ ≠ (u5 : Value).ownBlock) (Kd.R_apart' (HO358.out) (Kd.S_typed HO_5.out) (by decide)) (fun k_ hk => ⟨trivial, hk.2⟩))).1 k_ hk_.symm) ?aF ?aO ?aB ?aS ?aL ?_; (case aP => exact Kd.M_row (Kd.R_mono (Kd.R_tight rfl (Kd.R_mono (ok' := fun k_ => ((fun _ => True)) k_ ∧ some k_ ≠ (u5 : Value).ownBlock) (Kd.R_apart' (HO358.out) (Kd.S_typed HO_5.out) (by decide)) (fun k_ hk => ⟨trivial, hk.2⟩))) (fun _ h_ => h_))); (case aB => exact (zb_ HB.out)); (case aF => exact (fun _ _ => trivial)); (case aO => exact (by (with_reducible repeat (first | apply Kd.S_alloc | apply Kd.S_drewN | apply Kd.S_drew)); exact Kd.S_mono HO_5.out (fun k_ hk => ⟨trivial, fun e_ => hk.2 e_⟩))); (case aS => exact (below_size (zb_ HB.out))); (case aL => have := LMc9.out; omega); intro v360 w11 ho hb hg hat; rw [← Ny359.out] at ho; have n0_ := Aside0.mk (hb); have n1_ := Aside0.mk (ho); clear HB; clear HO_5; clear HO358; have HB := n0_; have HO361 := n1_; clear n0_ n1_; clear ho hb hg hat))
         go_roundg k1
         case measure => have := HK1.out; omega
         case rel => exact ⟨(y359), (wrap64 (x10_1 + 1)), (by first | rfl | (simp; done) | (simp [*]; done)), H', ⟨by have := HK1.out; omega⟩, ⟨zS_ HO361.out⟩, ⟨zb_ HB.out⟩⟩
        ·rw [if_neg c9] at H
         exact absurd H (by simp)
       ·rw [if_neg c7] at H
        exact absurd H (by simp)
      ·rw [if_neg c6] at H
       exact absurd H (by simp)
     ·rw [if_neg c5] at H
      exact absurd H (by simp)
    ·rw [if_neg c4] at H
     exact absurd H (by simp)
   ·rw [if_neg c3] at H
    have c3b0 : decide (x10_1 < (l1.length : Int)) = false := decide_eq_false c3
    clear c3
    obtain rfl := Option.some.inj H
    go_wp2
    go_ret
    exact ⟨_, by first | rfl | (simp [errW_none, errW_some] <;> rfl) | (simp [*, errW_none, errW_some] <;> rfl), zS_ HO_5.out, zb_ HB.out⟩
theorem add_plain_off_ (g o j : Nat) : (⟨g, o, none⟩ : Addr).add j = ⟨g, o + j, none⟩ := by
 unfold Addr.add
 split <;> simp_all
theorem given_step_run {P : Program} {ops : Array Oper} {o : Oper} {a : Act} {w : World} {K : Act → World → Prop} {Q : Exit → Act → World → Prop} {E : Prop} (hg : o.guard = none) (s x : Operand) (t : TypeId)
  (hop : o.op = Op.call { callee := Callee.builtin Builtin.append, args := #[s, x], argTypes := #[t, t] }) (vs vx : Value) (hs : a.eval s = vs) (hx : a.eval x = vx) (v1 : Value) (w1 : World)
  (hr : (Builtin.append_ #[t, t] o.type #[vs, vx]).run P w = .ok v1 w1) (hK : K (a.put o.dst v1) w1) : if Region.wanted o (yielded ops a.tmps) = true then Oper.wp P o a w K Q else E := by
 have hw : Region.wanted o (yielded ops a.tmps) = true := by simp [Region.wanted, hg]
 rw [if_pos hw]
 unfold Oper.wp execOp
 simp only [hop, resolve, invoke, builtin, Sem.run_bind, Sem.run_pure, Result.andThen_ok, List.map_toArray, List.map_cons, List.map_nil, hs, hx, hr]
 exact hK
theorem given_puts {base g cap n e : Nat} {ok : Nat → Prop} : ∀ (vs : List Int) (i : Nat) (w : World) (ys : List Int), Kd.R (Kd.int .i64) e w base ok (.slice (some ⟨g, 0, none⟩) n cap) ys →
  ∃ zs : List Int, Kd.R (Kd.int .i64) e (w.setCells g i (vs.map (Value.int .i64))) base ok (.slice (some ⟨g, 0, none⟩) n cap) zs ∧ zs.length = ys.length ∧ (∀ j, j < i → zs[j]? = ys[j]?) ∧ (∀ j, j < vs.length → i + j < ys.length → zs[i + j]? = vs[j]?) ∧ w.grownBy (w.setCells g i (vs.map (Value.int .i64))) (some g)
 | [], i, w, ys, h => ⟨ys, h, rfl, fun _ _ => rfl, fun j hj => absurd hj (by simp), grown_of_below (Below.refl _ _) _⟩
 | u :: vs, i, w, ys, h => by
  obtain ⟨h1, hg1⟩ := Kd.R_putg h (i : Int) u
  rw [show ((i : Int).toNat) = i by omega] at h1 hg1
  obtain ⟨zs, h2, h3, h4, h5, h6⟩ := given_puts vs (i + 1) _ _ h1
  rw [List.length_set] at h3 h5
  refine ⟨zs, h2, h3, fun j hj => ?_, fun j hj hl => ?_, hg1.trans h6⟩
  ·rw [h4 j (by omega), List.getElem?_set_ne (by omega)]
  ·rcases Nat.eq_zero_or_pos j with rfl | hp
   ·rw [Nat.add_zero] at hl ⊢
    rw [h4 i (by omega), List.getElem?_set_self hl]
    rfl
   ·obtain ⟨j, rfl⟩ : ∃ m, j = m + 1 := ⟨j - 1, by omega⟩
    simp only [List.length_cons] at hj
    rw [show i + (j + 1) = i + 1 + j by omega, h5 j (by omega) (by omega)]
    rfl
theorem given_delete_run {P : Program} {base g n c k e : Nat} {ok : Nat → Prop} {W : World} {xs : List Int} (t ty : TypeId) (i : TypeInfo) (ht : P.underlying t = some (.slice e)) (hi : P.info? e = some i) (hsz : i.size = 1)
  (HO : Kd.R (Kd.int .i64) e W base ok (.slice (some ⟨g, 0, none⟩) n c) xs) (hk : k < n) (A : Option Addr) (hA : A = if c = k + 1 then some ⟨g, 0, none⟩ else some ⟨g, k + 1, none⟩) (c2 : Nat) :
  (Builtin.append_ #[t, t] ty #[.slice (some ⟨g, 0, none⟩) k c, .slice A (n - (k + 1)) c2]).run P W = .ok (.slice (some ⟨g, 0, none⟩) (n - 1) c) (W.setCells g k ((xs.drop (k + 1)).map (Value.int .i64))) := by
 obtain ⟨hn, hnc, _⟩ := Kd.R_reads' HO
 have hcell : ∀ q, q < n → W.cell? ⟨g, q, none⟩ = some (.int .i64 (rdOf 0 xs (q : Int))) ∧ W.frozen? ⟨g, q, none⟩ = false := fun q hq => by
  have := Kd.R_celln 0 HO (q : Int) (by omega) (by omega)
  rwa [show ((q : Int).toNat) = q by omega] at this
 have hnl : ((xs.drop (k + 1)).map (Value.int .i64)).length = (n - (k + 1)) * i.size := by rw [List.length_map, List.length_drop, hsz, hn, Nat.mul_one]
 have hone : ∀ u ∈ (xs.drop (k + 1)).map (Value.int .i64), u.oneCell' = true := by
  intro u hu
  obtain ⟨x, _, rfl⟩ := List.mem_map.1 hu
  rfl
 obtain ⟨a, rfl, hc⟩ : ∃ a, A = some a ∧ ∀ j u, ((xs.drop (k + 1)).map (Value.int .i64))[j]? = some u → W.cell? (a.add j) = some u := by
  by_cases hck : c = k + 1
  ·rw [if_pos hck] at hA
   refine ⟨_, hA, fun j u hu => ?_⟩
   have h0 : xs.drop (k + 1) = [] := List.drop_of_length_le (by omega)
   rw [h0] at hu
   simp at hu
  ·rw [if_neg hck] at hA
   refine ⟨_, hA, fun j u hu => ?_⟩
   rw [List.getElem?_map, List.getElem?_drop] at hu
   obtain ⟨x, hx, rfl⟩ := Option.map_eq_some_iff.1 hu
   have hl := (List.getElem?_eq_some_iff.1 hx).1
   rw [add_plain_off_, (hcell (k + 1 + j) (by omega)).1]
   unfold rdOf
   rw [List.getD_eq_getElem?_getD, show (((k + 1 + j : Nat) : Int).toNat) = k + 1 + j by omega, hx]
   rfl
 have hrun := run_append_room_cells (P := P) (w := W) t ty e i ht hi g 0 k c a (n - (k + 1)) c2 _ hnl hc hone (by omega)
  (fun j hj => by rw [hsz, Nat.mul_one, Nat.zero_add, (hcell (k + j) (by rw [List.length_map, List.length_drop] at hj; omega)).1]; rfl)
  (fun j hj => by rw [hsz, Nat.mul_one, Nat.zero_add]; exact (hcell (k + j) (by rw [List.length_map, List.length_drop] at hj; omega)).2)
 rw [hsz, Nat.mul_one, Nat.zero_add, show k + (n - (k + 1)) = n - 1 by omega] at hrun
 exact hrun
set_option maxHeartbeats 1000000 in
set_option maxRecDepth 100000 in
theorem slices_Delete_int_calls (w0 w : World) (v : Value) (l : List Int) (i : Nat) (hi : i < l.length) (hB : Below w0.heap.size w0 w) (ho : Kd.R (Kd.int .i64) 3 w w0.heap.size (fun _ => True) v l) :
  Calls Try.prog 99 #[v, .int .i64 (i : Int), .int .i64 ((i : Int) + 1)] w fun e w' => ∃ v0_ : Value, e = .returned v0_ ∧ Kd.R (Kd.int .i64) 3 w' w0.heap.size (fun _ => True) v0_ (l.eraseIdx i) ∧ Below w0.heap.size w0 w' := by
 obtain ⟨A0, c0, rfl, hlc, hC⟩ := Kd.R_reads ho
 obtain ⟨g0, cap, e0, hg0, hg0l, cells0, hh0⟩ := Kd.R_form ho (by omega)
 injection e0 with ea en ec
 subst ea ec
 have hmax := hC.2.1
 obtain ⟨i0, hi0, hz0, hz1, hz2⟩ := info_parts info3
 have ho1 := Kd.R_drew ho
 have hB1 : Below w0.heap.size w0 w.drew := below_drew hB
 obtain ⟨W, hW⟩ : ∃ W, W = w.drew := ⟨_, rfl⟩
 rw [← hW] at ho1 hB1
 obtain ⟨zs, hR1, hzl, hzlo, hzhi, hgr1⟩ := given_puts (l.drop (i + 1)) i W l ho1
 obtain ⟨ys, hR2, hyl, hylo, hyhi, hgr2⟩ := given_puts [0] (l.length - 1) _ zs hR1
 clear hyhi
 have hrun := fun (ty : TypeId) (A : Option Addr) (hA : A = if c0 = i + 1 then some ⟨g0, 0, none⟩ else some ⟨g0, i + 1, none⟩) (c2 : Nat) => given_delete_run (P := Try.prog) 42 ty i0 Try.underlying42 hi0 hz1 ho1 hi A hA c2
 have hcl : ∀ ty c3, (Builtin.clear_ #[42] ty #[.slice (some ⟨g0, l.length - 1, none⟩) 1 c3]).run Try.prog (W.setCells g0 i ((l.drop (i + 1)).map (Value.int .i64))) = .ok (.tuple #[]) ((W.setCells g0 i ((l.drop (i + 1)).map (Value.int .i64))).setCells g0 (l.length - 1) ([(0 : Int)].map (Value.int .i64))) :=
  fun ty c3 => Lib.run_clear_slice _ 42 3 ty (.int .i64 0) Try.underlying42 (fun _ => by kernel_rfl) rfl rfl g0 (l.length - 1) 1 c3 (by omega)
   (fun t ht => by rw [← show (((l.length - 1 + t : Nat) : Int).toNat) = l.length - 1 + t by omega, (Kd.R_celln 0 hR1 ((l.length - 1 + t : Nat) : Int) (by omega) (by omega)).1]; rfl)
   (fun t ht => by rw [← show (((l.length - 1 + t : Nat) : Int).toNat) = l.length - 1 + t by omega]; exact (Kd.R_celln 0 hR1 ((l.length - 1 + t : Nat) : Int) (by omega) (by omega)).2)
 have HE := Aside0.mk (show ys.take (l.length - 1) = l.eraseIdx i by
  apply List.ext_getElem?
  intro j
  rw [List.getElem?_take, List.getElem?_eraseIdx]
  by_cases hj : j < l.length - 1
  ·rw [if_pos hj, hylo j hj]
   by_cases hji : j < i
   ·rw [if_pos hji, hzlo j hji]
   ·rw [if_neg hji]
    have := hzhi (j - i) (by rw [List.length_drop]; omega) (by omega)
    rw [show i + (j - i) = j by omega] at this
    rw [this, List.getElem?_drop, show i + 1 + (j - i) = j + 1 by omega]
  ·rw [if_neg hj]
   by_cases hji : j < i
   ·omega
   ·rw [if_neg hji, List.getElem?_eq_none (by omega)])
 have HR2 := Aside0.mk (Kd.R_take hR2 (show l.length - 1 ≤ ys.length by omega))
 have HBW := Aside0.mk (show Below w0.heap.size w0 ((W.setCells g0 i ((l.drop (i + 1)).map (Value.int .i64))).setCells g0 (l.length - 1) ([(0 : Int)].map (Value.int .i64))) from (hB1.grown hgr1 hB1.size (fun k hk => by injection hk with hk; subst hk; exact hg0)).grown hgr2 (Nat.le_trans hB1.size hgr1.size) (fun k hk => by injection hk with hk; subst hk; exact hg0))
 have HRUN := Aside0.mk hrun
 have HCL := Aside0.mk hcl
 have HB := Aside0.mk hB
 have HI := Aside0.mk hi
 have HM := Aside0.mk hmax
 have HLC := Aside0.mk hlc
 obtain ⟨n, hn⟩ : ∃ n, l.length = n := ⟨_, rfl⟩
 clear hR1 hR2 hgr1 hgr2 hrun hcl
 generalize ((l.drop (i + 1)).map (Value.int .i64)) = V at HR2 HBW HRUN HCL
 generalize ([(0 : Int)].map (Value.int .i64)) = Z at HR2 HBW HCL
 clear hC hg0 hg0l hh0 cells0 hz0 hz1 hz2 hi0 i0 hzl hzlo hzhi hyl hylo hB hB1 ho ho1 en
 have HWD := Aside0.mk hW
 clear hW
 rw [hn] at HE HRUN HCL HR2 HBW HI HM HLC hi hmax hlc ⊢
 clear hn
 have f1 := eq_true (show (0 : Int) ≤ (i : Int) by omega)
 have f2 := eq_true (show (i : Int) ≤ (i : Int) + 1 by omega)
 have f3 := eq_true (show (i : Int) + 1 ≤ (n : Int) by omega)
 have f4 := eq_true (show (n : Int) ≤ (c0 : Int) by omega)
 have f5 := eq_true (show (0 : Int) ≤ (i : Int) + 1 by omega)
 have f6 := eq_true (show (i : Int) ≤ (n : Int) by omega)
 have f7 := eq_true (show (i : Int) ≤ (c0 : Int) by omega)
 have f8 : ((i : Int) == (i : Int) + 1) = false := by simp; omega
 have f9 := eq_false (show ¬ (i : Int) = (i : Int) + 1 by omega)
 have f10 := eq_true (show (i : Int) + 1 ≤ (c0 : Int) by omega)
 have f11 := eq_true (show (n : Int) - 1 ≤ (n : Int) by omega)
 have f12 := eq_true (show (0 : Int) ≤ (n : Int) - 1 by omega)
 have f13 := eq_false (show ¬ c0 = i by omega)
 have f14 := eq_false (show ¬ i = c0 by omega)
 have f15 := eq_false (show ¬ c0 = n - 1 by omega)
 have f16 := eq_true (show n - 1 ≤ n by omega)
 have f17 : n - (n - 1) = 1 := by omega
 have f18 := eq_false (show ¬ n = i by omega)
 have f19 := eq_false (show ¬ i = n by omega)
 have f20 := eq_true (show i < n by omega)
 have f21 := eq_false (show ¬ n ≤ i by omega)
 by_cases hc : c0 = i + 1
 ·have g1 := eq_true hc
  have g2 := eq_true (show (c0 : Int) = (i : Int) + 1 by omega)
  have HRA := Aside0.mk (fun ty c2 => HRUN.out ty (some ⟨g0, 0, none⟩) (by rw [if_pos hc]) c2)
  clear hi hmax hlc hc
  go_enter Try.func99, Try.ntmps99
  go_wp2
  go_region_law (refine given_step_run rfl (.tmp 22) (.tmp 25) 42 rfl (.slice (some ⟨g0, 0, none⟩) i c0) (.slice (some ⟨g0, 0, none⟩) (n - (i + 1)) (c0 - (i + 1))) (by simp [Act.eval, Act.put]) (by simp [Act.eval, Act.put]) _ _ (by rw [← HWD.out]; exact HRA.out _ _) ?_)
  have hcl := HCL.out
  go_wp2
  go_ret
  exact ⟨_, rfl, by rw [← HE.out]; exact HR2.out, HBW.out⟩
 ·have g1 := eq_false hc
  have g2 := eq_false (show ¬ (c0 : Int) = (i : Int) + 1 by omega)
  have HRA := Aside0.mk (fun ty c2 => HRUN.out ty (some ⟨g0, i + 1, none⟩) (by rw [if_neg hc]) c2)
  clear hi hmax hlc hc
  go_enter Try.func99, Try.ntmps99
  go_wp2
  go_region_law (refine given_step_run rfl (.tmp 22) (.tmp 25) 42 rfl (.slice (some ⟨g0, 0, none⟩) i c0) (.slice (some ⟨g0, i + 1, none⟩) (n - (i + 1)) (c0 - (i + 1))) (by simp [Act.eval, Act.put]) (by simp [Act.eval, Act.put]) _ _ (by rw [← HWD.out]; exact HRA.out _ _) ?_)
  have hcl := HCL.out
  go_wp2
  go_ret
  exact ⟨_, rfl, by rw [← HE.out]; exact HR2.out, HBW.out⟩
def placesOf_ (n : Nat) : List Int := (List.range n).map fun (i : Nat) => (i : Int)
theorem placesOf_succ_ (n : Nat) : placesOf_ (n + 1) = placesOf_ n ++ [(n : Int)] := by
 unfold placesOf_
 rw [List.range_succ, List.map_append]
 rfl
theorem placesOf_length_ (n : Nat) : (placesOf_ n).length = n := by simp [placesOf_]
def impl_NeededIn.l1 : Nat → List (List Int) → List (List Int) → List Int → Int → Option (List Int)
 | 0, _, _, _, _ => none
 | k + 1, x1, x2, x11, x13 => if 0 ≤ x13 then (if x13 + 1 ≤ (x11.length : Int) ∧ x11.length < 4398046511104 then ((impl_pick.f k x2 (x11.eraseIdx x13.toNat)).bind fun t => (impl_check.f k x1 t).bind fun u => if u.1 = true then impl_NeededIn.l1 k x1 x2 (x11.eraseIdx x13.toNat) (wrap64 (x13 - 1)) else impl_NeededIn.l1 k x1 x2 x11 (wrap64 (x13 - 1))) else none) else some x11
def impl_NeededIn.f (k : Nat) (a0 : Int) (l1 : List (List Int)) (l2 : List (List Int)) : Option (List Int × Bool) := (impl_CheckProof.f k a0 l1 l2).bind fun t => if t.2.2 = true then (if t.1 = true then (if l2.length < 4398046511104 ∧ l2.length ≤ k then ((impl_NeededIn.l1 k l1 l2 (placesOf_ l2.length) (wrap64 ((l2.length : Int) - 2))).bind fun a => some (a, true)) else none) else some ([], false)) else some ([], false)
theorem impl_NeededIn.mono_l : ∀ k, (∀ y0 y1 y2 y3, LeO (impl_NeededIn.l1 k y0 y1 y2 y3) (impl_NeededIn.l1 (k + 1) y0 y1 y2 y3))
 | 0 => fun _ _ _ _ r h => by simp [impl_NeededIn.l1] at h
 | k + 1 => by
  have ih0 := impl_NeededIn.mono_l k
  ·intro y0 y1 y2 y3
   unfold impl_NeededIn.l1
   repeat' first
   | (with_reducible exact ih0 _ _ _ _)
   | (with_reducible exact impl_pick.mono _ _ _)
   | (with_reducible exact impl_check.mono _ _ _)
   | (with_reducible exact LeO.refl _)
   | (with_reducible exact LeO.none _)
   | (with_reducible refine LeO.ite ?_ ?_)
   | (with_reducible refine LeO.bind ?_ (fun _ => ?_))
theorem impl_NeededIn.mono : ∀ a0 a1 a2 k, LeO (impl_NeededIn.f k a0 a1 a2) (impl_NeededIn.f (k + 1) a0 a1 a2) := by
 intro a0 a1 a2 k
 unfold impl_NeededIn.f
 refine LeO.bind (impl_CheckProof.mono _ _ _ _) (fun t => LeO.ite (LeO.ite ?_ (LeO.refl _)) (LeO.refl _))
 intro r h
 by_cases c : a2.length < 4398046511104 ∧ a2.length ≤ k
 ·rw [if_pos c] at h
  rw [if_pos ⟨c.1, by omega⟩]
  exact LeO.bind (impl_NeededIn.mono_l k _ _ _ _) (fun _ => LeO.refl _) r h
 ·rw [if_neg c] at h
  cases h
set_option maxHeartbeats 1000000 in
set_option maxRecDepth 100000 in
theorem impl_NeededIn.calls (k : Nat) (a0 : Int) (A1 : Option Addr) (c1 : Nat) (l1 : List (List Int)) (A2 : Option Addr) (c2 : Nat) (l2 : List (List Int)) (r1 : List Int) (r2 : Bool) (w : World) (hr1 : Kd.C (Kd.slice 3 (Kd.int .i64)) w A1 l1.length l1) (hc1 : l1.length ≤ c1) (hr2 : Kd.C (Kd.slice 3 (Kd.int .i64)) w A2 l2.length l2) (hc2 : l2.length ≤ c2) (h : impl_NeededIn.f k a0 l1 l2 = some (r1, r2)) :
  Calls Try.prog 54 #[.int .i64 a0, .slice A1 l1.length c1, .slice A2 l2.length c2] w fun e w' => ∃ v0_ : Value, e = .returned (.tuple #[v0_, .bool r2]) ∧ Kd.R (Kd.int .i64) 3 w' w.heap.size (fun _ => True) v0_ r1 ∧ Below w.heap.size w w' := by
 have HR1 := Aside0.mk hr1
 have HC1 := Aside0.mk hc1
 have HR2 := Aside0.mk hr2
 have HC2 := Aside0.mk hc2
 have HL := Aside0.mk hr2.2.1
 clear hr1 hc1 hr2 hc2
 have HB := Aside0.mk (Below.refl w.heap.size w)
 unfold impl_NeededIn.f at h
 replace h := Option.bind_eq_some_iff.mp h
 obtain ⟨⟨t1, t2, t3⟩, A0', h⟩ := h
 have G0 := Aside0.mk A0'
 clear A0'
 replace h : (if t3 = true then (if t1 = true then (if l2.length < 4398046511104 ∧ l2.length ≤ k then ((impl_NeededIn.l1 k l1 l2 (placesOf_ l2.length) (wrap64 ((l2.length : Int) - 2))).bind fun a => some (a, true)) else none) else some ([], false)) else some ([], false)) = some (r1, r2) := h
 cases t3 with
 | false =>
  obtain ⟨rfl, rfl⟩ : [] = r1 ∧ false = r2 := by simpa using h
  clear h
  go_enter Try.func54, Try.ntmps54
  go_wp2_with (((with_reducible refine gate_callee (f := 40) rfl ?_); refine goesL_ (some 21) rfl rfl Try.func40 (by kernel_rfl) rfl #[.int .i64 a0, .slice A1 l1.length c1, .slice A2 l2.length c2] rfl (by simp only [zA_, zB_, zD_] <;> rfl) ?_; (with_reducible refine (impl_CheckProof.calls k a0 _ _ l1 _ _ l2 _ _ _ _ ?side1 ?side2 ?side3 ?side4 G0.out).mono ?_); (case side1 => exact zC_ HR1.out); (case side2 => exact HC1.out); (case side3 => exact zC_ HR2.out); (case side4 => exact HC2.out); rintro e w4 ⟨rfl, hb⟩; refine ⟨_, rfl, ?_⟩; have n0_ := Aside0.mk (below_step (zb_ HB.out) hb); clear HB; have HB := n0_; clear n0_; (try clear hb)))
  go_ret2
  exact ⟨_, by first | rfl | simp, Kd.R_nil _ _ _ _ _, zb_ HB.out⟩
 | true =>
  rw [if_pos rfl] at h
  cases t1 with
  | false =>
   obtain ⟨rfl, rfl⟩ : [] = r1 ∧ false = r2 := by simpa using h
   clear h
   go_enter Try.func54, Try.ntmps54
   go_wp2_with (((with_reducible refine gate_callee (f := 40) rfl ?_); refine goesL_ (some 21) rfl rfl Try.func40 (by kernel_rfl) rfl #[.int .i64 a0, .slice A1 l1.length c1, .slice A2 l2.length c2] rfl (by simp only [zA_, zB_, zD_] <;> rfl) ?_; (with_reducible refine (impl_CheckProof.calls k a0 _ _ l1 _ _ l2 _ _ _ _ ?side1 ?side2 ?side3 ?side4 G0.out).mono ?_); (case side1 => exact zC_ HR1.out); (case side2 => exact HC1.out); (case side3 => exact zC_ HR2.out); (case side4 => exact HC2.out); rintro e w4 ⟨rfl, hb⟩; refine ⟨_, rfl, ?_⟩; have n0_ := Aside0.mk (below_step (zb_ HB.out) hb); clear HB; have HB := n0_; clear n0_; (try clear hb)))
   go_ret2
   exact ⟨_, by first | rfl | simp, Kd.R_nil _ _ _ _ _, zb_ HB.out⟩
  | true =>
   rw [if_pos rfl] at h
   by_cases c3 : l2.length < 4398046511104 ∧ l2.length ≤ k
   ·rw [if_pos c3] at h
    replace h := Option.bind_eq_some_iff.mp h
    obtain ⟨a, A1', h⟩ := h
    obtain ⟨rfl, rfl⟩ : a = r1 ∧ true = r2 := by simpa using h
    have H' := Aside0.mk A1'
    have LM := Aside0.mk c3
    clear h A1' c3
    go_enter Try.func54, Try.ntmps54
    go_wp2_with (((with_reducible refine gate_callee (f := 40) rfl ?_); refine goesL_ (some 21) rfl rfl Try.func40 (by kernel_rfl) rfl #[.int .i64 a0, .slice A1 l1.length c1, .slice A2 l2.length c2] rfl (by simp only [zA_, zB_, zD_] <;> rfl) ?_; (with_reducible refine (impl_CheckProof.calls k a0 _ _ l1 _ _ l2 _ _ _ _ ?side1 ?side2 ?side3 ?side4 G0.out).mono ?_); (case side1 => exact zC_ HR1.out); (case side2 => exact HC1.out); (case side3 => exact zC_ HR2.out); (case side4 => exact HC2.out); rintro e w4 ⟨rfl, hb⟩; refine ⟨_, rfl, ?_⟩; have n0_ := Aside0.mk (below_step (zb_ HB.out) hb); clear HB; have HB := n0_; clear n0_; (try clear hb)))
    go_loopg [11, 33] k (fun kq v11 v33 w' => ∃ (x : Nat), v33 = .int .i64 (x : Int) ∧ Aside0 (x ≤ l2.length ∧ l2.length - x ≤ kq) ∧ Aside0 (Kd.R (Kd.int .i64) 3 w' w.heap.size (fun _ => True) v11 (placesOf_ x)) ∧ Aside0 (Below w.heap.size w w'))
    case atStart => exact ⟨0, rfl, ⟨by omega, by have := LM.out.2; omega⟩, ⟨Kd.R_nil _ _ _ _ _⟩, ⟨zb_ HB.out⟩⟩
    case round =>
     clear HB
     obtain ⟨x, rfl, HA, HO, HB⟩ := hrel
     by_cases c4 : x < l2.length
     ·have d1 : decide ((x : Int) < (l2.length : Int)) = true := decide_eq_true (by omega)
      have d2 : decide (x < l2.length) = true := decide_eq_true c4
      have LX := Aside0.mk c4
      have HW := Aside0.mk (show wrap64 ((x : Int) + 1) = ((x + 1 : Nat) : Int) by have := HL.out; unfold wrap64; omega)
      obtain ⟨y, hy⟩ : ∃ y, y = placesOf_ x := ⟨_, rfl⟩
      have LY := Aside0.mk (show y.length = x by rw [hy, placesOf_length_])
      have NY := Aside0.mk (show y ++ [(x : Int)] = placesOf_ (x + 1) by rw [hy, placesOf_succ_])
      rw [← hy] at HO
      obtain ⟨Ay, cy, ey⟩ := Kd.R_slice HO.out
      subst ey
      clear c4 hy
      go_wp2_with ((with_reducible refine gate_builtin (b := .append) (xs := #[.tmp 36, .tmp 38]) rfl ?_); at_builtin; refine Kd.R_append (Kd.int .i64) (w0 := w) w.heap.size rfl (.tmp 36) (.tmp 38) 42 3 (.int .i64 0) 8 rfl Try.underlying42 info3 rfl (by decide) (by omega) (.slice Ay y.length cy) y (x : Int) [.int .i64 (x : Int)] (fun _ => True) (fun _ => False) rfl rfl ?aP (fun _ hk => hk.elim) ?aF ?aO ?aB ?aS ?aL ?_; (case aP => exact rfl); (case aB => exact (zb_ HB.out)); (case aF => exact (fun _ _ => trivial)); (case aO => exact (zR_ HO.out)); (case aS => exact (below_size (zb_ HB.out))); (case aL => have h1 := LY.out; have h2 := LM.out.1; have h3 := LX.out; omega); intro v6 w6 ho hb hg hat; rw [NY.out] at ho; have n0_ := Aside0.mk hb; have n1_ := Aside0.mk ho; clear HB; clear HO; have HB := n0_; have HO := n1_; clear n0_ n1_; clear ho hb hg hat)
      go_roundg (gk - 1)
      case measure => have := HA.out.2; have := LX.out; omega
      case rel => exact ⟨x + 1, by first | rfl | (rw [← HW.out]; done) | (rw [HW.out]; done) | simp [HW.out], ⟨by have := LX.out; omega, by have := HA.out.2; have := LX.out; omega⟩, ⟨zR_ HO.out⟩, ⟨zb_ HB.out⟩⟩
     ·have d1 : decide ((x : Int) < (l2.length : Int)) = false := decide_eq_false (by omega)
      have d2 : decide (x < l2.length) = false := decide_eq_false c4
      have hx : x = l2.length := by have := HA.out.1; omega
      obtain ⟨y, hy⟩ : ∃ y, y = placesOf_ x := ⟨_, rfl⟩
      rw [← hy] at HO
      rw [hx] at hy
      rw [← hy] at H'
      have hb1 : (l2.length : Int) ≤ 4398046511104 := by have := LM.out.1; omega
      have HW := Aside0.mk (show wrap64 ((l2.length : Int) - 2) = (l2.length : Int) - 2 by unfold wrap64; omega)
      clear c4 hx hy HA
      go_wp2
      rw [HW.out] at H'
      go_loopg [11, 13] k (fun kq v11 v13 w' => ∃ (z : List Int) (i : Int), v13 = .int .i64 i ∧ Aside0 (impl_NeededIn.l1 kq l1 l2 z i = some a) ∧ Aside0 (kq ≤ k) ∧ Aside0 (i ≤ 4398046511104) ∧ Aside0 (Kd.R (Kd.int .i64) 3 w' w.heap.size (fun _ => True) v11 z) ∧ Aside0 (Below w.heap.size w w'))
      case atStart => exact ⟨y, (l2.length : Int) - 2, by first | rfl | (simp; done), H', ⟨Nat.le_refl _⟩, ⟨by omega⟩, ⟨zR_ HO.out⟩, ⟨zb_ HB.out⟩⟩
      case round =>
       clear H' HB HO d1 d2 hb1
       obtain ⟨z, i, rfl, HA, HK, HI, HO, HB⟩ := hrel
       obtain ⟨Az, cz, ez⟩ := Kd.R_slice HO.out
       subst ez
       cases gk with
       | zero => exact absurd HA.out (by simp [impl_NeededIn.l1])
       | succ k1 =>
        have h := HA.out
        clear HA
        simp only [impl_NeededIn.l1] at h
        by_cases c5 : 0 ≤ i
        ·rw [if_pos c5] at h
         obtain ⟨n, rfl⟩ : ∃ n : Nat, i = (n : Int) := ⟨i.toNat, by omega⟩
         rw [show ((n : Int).toNat) = n by omega] at h
         by_cases c6 : (n : Int) + 1 ≤ (z.length : Int) ∧ z.length < 4398046511104
         ·rw [if_pos c6] at h
          have HLT := Aside0.mk (show n < z.length by omega)
          have HV := Aside0.mk (show slices_Clone_int_int.f z = some z by unfold slices_Clone_int_int.f; rw [if_pos (by omega)])
          replace h := Option.bind_eq_some_iff.mp h
          obtain ⟨t, A6, h⟩ := h
          replace h := Option.bind_eq_some_iff.mp h
          obtain ⟨⟨u1, u2⟩, A7, h⟩ := h
          have G7 := Aside0.mk A7
          obtain ⟨q, hq⟩ : ∃ q, q = z.eraseIdx n := ⟨_, rfl⟩
          rw [← hq] at A6 h
          have NQ := Aside0.mk hq
          have G6 := Aside0.mk A6
          have HW := Aside0.mk (show wrap64 ((n : Int) - 1) = (n : Int) - 1 by have := HI.out; unfold wrap64; omega)
          have e1 : decide ((n : Int) ≥ 0) = true := decide_eq_true (by omega)
          have e2 : decide ((0 : Int) ≤ (n : Int)) = true := decide_eq_true (by omega)
          have e3 : (n : Int) ≤ 4398046511104 := HI.out
          have HS := Aside0.mk (Below.refl wr.heap.size wr)
          clear c5 c6 A6 A7 hq
          have HWS := Aside0.mk (show w.heap.size ≤ wr.heap.size from HB.out.size)
          have HBW := HB
          have HOW := HO
          cases u1 with
          | true =>
           rw [if_pos rfl] at h
           rw [HW.out] at h
           have H' := Aside0.mk h
           clear h
           go_wp2_with (first | ((with_reducible refine gate_callee (f := 100) rfl ?_); refine goesL_ (some 49) rfl rfl Try.func100 (by kernel_rfl) rfl #[.slice Az z.length cz] rfl (by simp only [zA_, zB_, zD_] <;> rfl) ?_; (with_reducible refine (slices_Clone_int_int.calls _ _ z z _ ?side1 ?side2 HV.out).mono ?_); (case side1 => exact zC_ (Kd.R_reads' HO.out).2.2); (case side2 => exact (Kd.R_reads' HO.out).2.1); rintro e w5 ⟨v5, rfl, ho, hb⟩; refine ⟨_, rfl, ?_⟩; have n2_ := Aside0.mk (below_step (by repeat (first | (with_reducible first | exact HS.out | apply below_alloc | apply pw_below_drewN | apply below_drew1) | exact HS.out)) hb); have n3_ := Aside0.mk (Kd.R_below ((zR_ HO.out) : Kd.R (Kd.int .i64) 3 _ w.heap.size (fun _ => True) (.slice Az z.length cz) z) hb); clear HS; have HO5 := Aside0.mk ho; have HS := n2_; clear n2_ n3_ ho; (try clear hb)) | (go_at_call 99; (with_reducible refine (slices_Delete_int_calls wr _ v5 z n HLT.out ?side1 ?side2).mono ?_); (case side1 => exact (by repeat (first | (with_reducible first | exact HS.out | apply below_alloc | apply pw_below_drewN | apply below_drew1) | exact HS.out))); (case side2 => exact (zR_ HO5.out)); rintro e w7 ⟨v7, rfl, ho, hb⟩; rw [← NQ.out] at ho; obtain ⟨A7, c7, e7⟩ := Kd.R_slice ho; subst e7; have n1_ := Aside0.mk (Kd.R_lower ho HWS.out); have n2_ := Aside0.mk hb; have n3_ := Aside0.mk (Kd.R_below HOW.out hb); have n4_ := Aside0.mk (below_then HBW.out HWS.out hb); clear HS HO HO5 HB; have HO7 := n1_; have HO := n3_; have HB := n4_; clear n1_ n2_ n3_ n4_ ho hb) | (go_at_call 98; (with_reducible refine (impl_pick.calls k1 _ _ l2 _ _ q t _ ?side1 ?side2 ?side3 ?side4 G6.out).mono ?_); (case side1 => exact zC_ (Kd.C_below HR2.out HB.out)); (case side2 => exact HC2.out); (case side3 => exact zC_ (Kd.R_reads' HO7.out).2.2); (case side4 => exact (Kd.R_reads' HO7.out).2.1); rintro e w8 ⟨v8, rfl, ho, hb⟩; have n1_ := Aside0.mk (Kd.R_below ((zR_ HO7.out) : Kd.R (Kd.int .i64) 3 _ w.heap.size (fun _ => True) (.slice A7 q.length c7) q) hb); have n2_ := Aside0.mk (Kd.R_below ((zR_ HO.out) : Kd.R (Kd.int .i64) 3 _ w.heap.size (fun _ => True) (.slice Az z.length cz) z) hb); have n3_ := Aside0.mk (below_step (zb_ HB.out) hb); clear HO7 HO HB; have HO7 := n1_; have HO := n2_; have HB := n3_; obtain ⟨A8, c8, e8⟩ := Kd.S_slice ho; subst e8; have HR8 := Aside0.mk (Kd.S_reads' ho).2.2; have HC8 := Aside0.mk (Kd.S_reads' ho).2.1; clear n1_ n2_ n3_ ho hb) | (go_at_call 90; (with_reducible refine (impl_check.calls k1 _ _ l1 _ _ t _ _ _ ?side1 ?side2 ?side3 ?side4 G7.out).mono ?_); (case side1 => exact zC_ (Kd.C_below HR1.out HB.out)); (case side2 => exact HC1.out); (case side3 => exact zC_ HR8.out); (case side4 => exact HC8.out); rintro e w9 ⟨rfl, hb⟩; have n1_ := Aside0.mk (Kd.R_below ((zR_ HO7.out) : Kd.R (Kd.int .i64) 3 _ w.heap.size (fun _ => True) (.slice A7 q.length c7) q) hb); have n2_ := Aside0.mk (Kd.R_below ((zR_ HO.out) : Kd.R (Kd.int .i64) 3 _ w.heap.size (fun _ => True) (.slice Az z.length cz) z) hb); have n3_ := Aside0.mk (below_step (zb_ HB.out) hb); clear HO7 HO HB; have HO7 := n1_; have HO := n2_; have HB := n3_; clear n1_ n2_ n3_ hb))
           go_roundg k1
           case measure => have := HK.out; omega
           case rel => exact ⟨q, (n : Int) - 1, by first | rfl | (rw [← HW.out]; done) | (rw [HW.out]; done) | simp [HW.out], H', ⟨by have := HK.out; omega⟩, ⟨by have := HI.out; omega⟩, ⟨zR_ HO7.out⟩, ⟨zb_ HB.out⟩⟩
          | false =>
           rw [if_neg Bool.false_ne_true] at h
           rw [HW.out] at h
           have H' := Aside0.mk h
           clear h
           go_wp2_with (first | ((with_reducible refine gate_callee (f := 100) rfl ?_); refine goesL_ (some 49) rfl rfl Try.func100 (by kernel_rfl) rfl #[.slice Az z.length cz] rfl (by simp only [zA_, zB_, zD_] <;> rfl) ?_; (with_reducible refine (slices_Clone_int_int.calls _ _ z z _ ?side1 ?side2 HV.out).mono ?_); (case side1 => exact zC_ (Kd.R_reads' HO.out).2.2); (case side2 => exact (Kd.R_reads' HO.out).2.1); rintro e w5 ⟨v5, rfl, ho, hb⟩; refine ⟨_, rfl, ?_⟩; have n2_ := Aside0.mk (below_step (by repeat (first | (with_reducible first | exact HS.out | apply below_alloc | apply pw_below_drewN | apply below_drew1) | exact HS.out)) hb); have n3_ := Aside0.mk (Kd.R_below ((zR_ HO.out) : Kd.R (Kd.int .i64) 3 _ w.heap.size (fun _ => True) (.slice Az z.length cz) z) hb); clear HS; have HO5 := Aside0.mk ho; have HS := n2_; clear n2_ n3_ ho; (try clear hb)) | (go_at_call 99; (with_reducible refine (slices_Delete_int_calls wr _ v5 z n HLT.out ?side1 ?side2).mono ?_); (case side1 => exact (by repeat (first | (with_reducible first | exact HS.out | apply below_alloc | apply pw_below_drewN | apply below_drew1) | exact HS.out))); (case side2 => exact (zR_ HO5.out)); rintro e w7 ⟨v7, rfl, ho, hb⟩; rw [← NQ.out] at ho; obtain ⟨A7, c7, e7⟩ := Kd.R_slice ho; subst e7; have n1_ := Aside0.mk (Kd.R_lower ho HWS.out); have n2_ := Aside0.mk hb; have n3_ := Aside0.mk (Kd.R_below HOW.out hb); have n4_ := Aside0.mk (below_then HBW.out HWS.out hb); clear HS HO HO5 HB; have HO7 := n1_; have HO := n3_; have HB := n4_; clear n1_ n2_ n3_ n4_ ho hb) | (go_at_call 98; (with_reducible refine (impl_pick.calls k1 _ _ l2 _ _ q t _ ?side1 ?side2 ?side3 ?side4 G6.out).mono ?_); (case side1 => exact zC_ (Kd.C_below HR2.out HB.out)); (case side2 => exact HC2.out); (case side3 => exact zC_ (Kd.R_reads' HO7.out).2.2); (case side4 => exact (Kd.R_reads' HO7.out).2.1); rintro e w8 ⟨v8, rfl, ho, hb⟩; have n1_ := Aside0.mk (Kd.R_below ((zR_ HO7.out) : Kd.R (Kd.int .i64) 3 _ w.heap.size (fun _ => True) (.slice A7 q.length c7) q) hb); have n2_ := Aside0.mk (Kd.R_below ((zR_ HO.out) : Kd.R (Kd.int .i64) 3 _ w.heap.size (fun _ => True) (.slice Az z.length cz) z) hb); have n3_ := Aside0.mk (below_step (zb_ HB.out) hb); clear HO7 HO HB; have HO7 := n1_; have HO := n2_; have HB := n3_; obtain ⟨A8, c8, e8⟩ := Kd.S_slice ho; subst e8; have HR8 := Aside0.mk (Kd.S_reads' ho).2.2; have HC8 := Aside0.mk (Kd.S_reads' ho).2.1; clear n1_ n2_ n3_ ho hb) | (go_at_call 90; (with_reducible refine (impl_check.calls k1 _ _ l1 _ _ t _ _ _ ?side1 ?side2 ?side3 ?side4 G7.out).mono ?_); (case side1 => exact zC_ (Kd.C_below HR1.out HB.out)); (case side2 => exact HC1.out); (case side3 => exact zC_ HR8.out); (case side4 => exact HC8.out); rintro e w9 ⟨rfl, hb⟩; have n1_ := Aside0.mk (Kd.R_below ((zR_ HO7.out) : Kd.R (Kd.int .i64) 3 _ w.heap.size (fun _ => True) (.slice A7 q.length c7) q) hb); have n2_ := Aside0.mk (Kd.R_below ((zR_ HO.out) : Kd.R (Kd.int .i64) 3 _ w.heap.size (fun _ => True) (.slice Az z.length cz) z) hb); have n3_ := Aside0.mk (below_step (zb_ HB.out) hb); clear HO7 HO HB; have HO7 := n1_; have HO := n2_; have HB := n3_; clear n1_ n2_ n3_ hb))
           go_roundg k1
           case measure => have := HK.out; omega
           case rel => exact ⟨z, (n : Int) - 1, by first | rfl | (rw [← HW.out]; done) | (rw [HW.out]; done) | simp [HW.out], H', ⟨by have := HK.out; omega⟩, ⟨by have := HI.out; omega⟩, ⟨zR_ HO.out⟩, ⟨zb_ HB.out⟩⟩
         ·rw [if_neg c6] at h
          exact absurd h (by simp)
        ·rw [if_neg c5] at h
         obtain rfl : z = a := by simpa using h
         have e1 : decide (i ≥ 0) = false := decide_eq_false c5
         have e2 : decide ((0 : Int) ≤ i) = false := decide_eq_false c5
         clear h c5
         go_wp2
         go_ret2
         exact ⟨_, by first | rfl | simp, zR_ HO.out, zb_ HB.out⟩
   ·rw [if_neg c3] at h
    exact absurd h (by simp)
def impl_TrimProof.f (k : Nat) (a0 : Int) (l1 : List (List Int)) (l2 : List (List Int)) : Option ((List (List Int)) × Bool) := (impl_NeededIn.f k a0 l1 l2).bind fun bt362 => ((impl_pick.f k l2 bt362.1).bind fun t366 => (some (t366, bt362.2)))
theorem impl_TrimProof.mono : ∀ a0 a1 a2 k, LeO (impl_TrimProof.f k a0 a1 a2) (impl_TrimProof.f (k + 1) a0 a1 a2) := by
 intro a0 a1 a2 k
 unfold impl_TrimProof.f
 repeat' first
   | (with_reducible exact impl_NeededIn.mono _ _ _ _)
   | (with_reducible exact impl_pick.mono _ _ _)
   | (with_reducible exact LeO.refl _)
   | (with_reducible exact LeO.none _)
   | (with_reducible refine LeO.ite ?_ ?_)
   | (with_reducible refine LeO.bind ?_ (fun _ => ?_))
   | exact impl_NeededIn.mono _ _ _ _
   | exact impl_pick.mono _ _ _
   | exact LeO.none _
   | refine LeO.ite ?_ ?_
   | refine LeO.bind ?_ (fun _ => ?_)
set_option maxHeartbeats 8000000 in
set_option maxRecDepth 100000 in
theorem impl_TrimProof.calls (k : Nat) (a0 : Int) (A1 : Option Addr) (c1 : Nat) (l1 : List (List Int)) (A2 : Option Addr) (c2 : Nat) (l2 : List (List Int)) (r1 : List (List Int)) (r2 : Bool) (w : World) (hr1 : Kd.C (Kd.slice 3 (Kd.int .i64)) w A1 l1.length l1) (hc1 : l1.length ≤ c1) (hr2 : Kd.C (Kd.slice 3 (Kd.int .i64)) w A2 l2.length l2) (hc2 : l2.length ≤ c2) (h : impl_TrimProof.f k a0 l1 l2 = some (r1, r2)) :
  Calls Try.prog 52 #[.int .i64 a0, .slice A1 l1.length c1, .slice A2 l2.length c2] w fun e w' => ∃ v0_ : Value, e = .returned (.tuple #[v0_, .bool r2]) ∧ Kd.S (Kd.slice 3 (Kd.int .i64)) 42 w' w.heap.size (fun _ => True) v0_ r1 ∧ Below w.heap.size w w' := by
 have HR1 := Aside0.mk hr1
 have HC1 := Aside0.mk hc1
 clear hr1 hc1
 have HR2 := Aside0.mk hr2
 have HC2 := Aside0.mk hc2
 clear hr2 hc2
 have HB := Aside0.mk (Below.refl w.heap.size w)
 have H : ((impl_NeededIn.f k a0 l1 l2).bind fun bt362 => ((impl_pick.f k l2 bt362.1).bind fun t366 => (some (t366, bt362.2)))) = some (r1, r2) := h
 clear h
 replace H := Option.bind_eq_some_iff.mp H
 obtain ⟨⟨t362, t363⟩, A40, H⟩ := H
 (try dsimp only at H)
 have A4 := Aside0.mk A40
 clear A40
 replace H := Option.bind_eq_some_iff.mp H
 obtain ⟨t366, A50, H⟩ := H
 (try dsimp only at H)
 have A5 := Aside0.mk A50
 clear A50
 simp only [Option.some.injEq, Prod.mk.injEq] at H
 obtain ⟨rfl, rfl⟩ := H
 go_enter Try.func52, Try.ntmps52
 go_wp2_with (first | ((with_reducible refine gate_callee (f := 54) rfl ?_); refine goesL_ (some 14) rfl rfl Try.func54 (by kernel_rfl) rfl #[.int .i64 a0, .slice A1 l1.length c1, .slice A2 l2.length c2] rfl (by simp only [zA_, zB_, zD_] <;> rfl) ?_; (with_reducible refine (impl_NeededIn.calls k a0 _ _ l1 _ _ l2 t362 t363 _ ?side1 ?side2 ?side3 ?side4 A4.out).mono ?_); (case side1 => exact zC_ HR1.out); (case side2 => exact HC1.out); (case side3 => exact zC_ HR2.out); (case side4 => exact HC2.out); rintro e w6 ⟨v364, rfl, ho0, hb⟩; refine ⟨_, rfl, ?_⟩; have n0_ := Aside0.mk (Kd.R_lower ho0 (below_size (zb_ HB.out))); have n1_ := Aside0.mk (below_step (zb_ HB.out) hb); clear HB; have HO365 := n0_; have HB := n1_; clear n0_ n1_; (try clear hb); (try clear hb2); (try clear hk); (try clear hi); (try clear ho0); obtain ⟨Ao7, co7, eo7⟩ := Kd.R_slice HO365.out; subst eo7) | ((with_reducible refine gate_callee (f := 98) rfl ?_); refine goesL_ (some 19) rfl rfl Try.func98 (by kernel_rfl) rfl #[.slice A2 l2.length c2, .slice Ao7 t362.length co7] rfl (by simp only [zA_, zB_, zD_] <;> rfl) ?_; (with_reducible refine (impl_pick.calls k _ _ l2 _ _ t362 t366 _ ?side1 ?side2 ?side3 ?side4 A5.out).mono ?_); (case side1 => exact zC_ (Kd.C_below HR2.out HB.out)); (case side2 => exact HC2.out); (case side3 => exact zC_ (Kd.R_reads' HO365.out).2.2); (case side4 => exact (Kd.R_reads' HO365.out).2.1); rintro e w8 ⟨v367, rfl, ho0, hb⟩; refine ⟨_, rfl, ?_⟩; have n0_ := Aside0.mk (Kd.R_below (zR_ HO365.out) hb); have n1_ := Aside0.mk (Kd.S_lower (Kd.S_new' ho0 (Kd.R_lt (zR_ HO365.out))) (below_size (zb_ HB.out))); have n2_ := Aside0.mk (below_step (zb_ HB.out) hb); clear HO365; clear HB; have HO365 := n0_; have HO368 := n1_; have HB := n2_; clear n0_ n1_ n2_; (try clear hb); (try clear hb2); (try clear hk); (try clear hi); (try clear ho0)))
 go_ret2
 exact ⟨_, by first | rfl | (simp [errW_none, errW_some] <;> rfl) | (simp [*, errW_none, errW_some] <;> rfl), by (with_reducible repeat (first | apply Kd.S_alloc | apply Kd.S_drewN | apply Kd.S_drew)); exact Kd.S_mono HO368.out (fun _ hk => trivial), zb_ HB.out⟩
def spec_l6Good.f (k : Nat) (a0 : Int) (l1 : List (List Int)) (l2 : List (List Int)) : Option (Bool) := (spec_GoodClauses.f k a0 l1).bind fun t369 => (if t369 = true then ((spec_l4Good.f k a0 l2 300).bind fun t370 => (some t370)) else (some false))
theorem spec_l6Good.mono : ∀ a0 a1 a2 k, LeO (spec_l6Good.f k a0 a1 a2) (spec_l6Good.f (k + 1) a0 a1 a2) := by
 intro a0 a1 a2 k
 unfold spec_l6Good.f
 repeat' first
   | (with_reducible exact spec_GoodClauses.mono _ _ _)
   | (with_reducible exact spec_l4Good.mono _ _ _ _)
   | (with_reducible exact LeO.refl _)
   | (with_reducible exact LeO.none _)
   | (with_reducible refine LeO.ite ?_ ?_)
   | (with_reducible refine LeO.bind ?_ (fun _ => ?_))
   | exact spec_GoodClauses.mono _ _ _
   | exact spec_l4Good.mono _ _ _ _
   | exact LeO.none _
   | refine LeO.ite ?_ ?_
   | refine LeO.bind ?_ (fun _ => ?_)
set_option maxHeartbeats 8000000 in
set_option maxRecDepth 100000 in
theorem spec_l6Good.calls (k : Nat) (a0 : Int) (A1 : Option Addr) (c1 : Nat) (l1 : List (List Int)) (A2 : Option Addr) (c2 : Nat) (l2 : List (List Int)) (r : Bool) (w : World) (hr1 : Kd.C (Kd.slice 3 (Kd.int .i64)) w A1 l1.length l1) (hc1 : l1.length ≤ c1) (hr2 : Kd.C (Kd.slice 3 (Kd.int .i64)) w A2 l2.length l2) (hc2 : l2.length ≤ c2) (h : spec_l6Good.f k a0 l1 l2 = some r) :
  Calls Try.prog 91 #[.int .i64 a0, .slice A1 l1.length c1, .slice A2 l2.length c2] w fun e w' => e = .returned (.bool r) ∧ Drawn0 w w' := by
 have HR1 := Aside0.mk hr1
 have HC1 := Aside0.mk hc1
 clear hr1 hc1
 have HR2 := Aside0.mk hr2
 have HC2 := Aside0.mk hc2
 clear hr2 hc2
 have H : ((spec_GoodClauses.f k a0 l1).bind fun t369 => (if t369 = true then ((spec_l4Good.f k a0 l2 300).bind fun t370 => (some t370)) else (some false))) = some r := h
 clear h
 replace H := Option.bind_eq_some_iff.mp H
 obtain ⟨t369, A40, H⟩ := H
 (try dsimp only at H)
 have A4 := Aside0.mk A40
 clear A40
 by_cases c5 : t369 = true
 ·subst c5
  have H1 : ((spec_l4Good.f k a0 l2 300).bind fun t370 => (some t370)) = some r := by rw [if_pos rfl] at H; exact H
  clear H
  have H := H1
  clear H1
  replace H := Option.bind_eq_some_iff.mp H
  obtain ⟨t370, A60, H⟩ := H
  (try dsimp only at H)
  have A6 := Aside0.mk A60
  clear A60
  obtain rfl := Option.some.inj H
  go_enter Try.func91, Try.ntmps91
  go_wp2_with (first | ((with_reducible refine gate_callee (f := 104) rfl ?_); refine goesL_ (some 9) rfl rfl Try.func104 (by kernel_rfl) rfl #[.int .i64 a0, .slice A1 l1.length c1] rfl (by simp only [zA_, zB_, zD_] <;> rfl) ?_; (with_reducible refine (spec_GoodClauses.calls k a0 _ _ l1 true _ ?side1 ?side2 A4.out).mono ?_); (case side1 => exact zC_ HR1.out); (case side2 => exact HC1.out); rintro e w' ⟨rfl, ⟨nd, rfl⟩⟩; refine ⟨_, rfl, ?_⟩) | (go_at_call 122; (with_reducible refine (spec_l4Good.calls k a0 _ _ l2 300 t370 _ ?side1 ?side2 A6.out).mono ?_); (case side1 => exact zC_ HR2.out); (case side2 => exact HC2.out); rintro e w' ⟨rfl, ⟨nd, rfl⟩⟩))
  go_ret
  exact ⟨by first | rfl | (simp; done) | (simp [*]; done), by repeat (first | exact Drawn0.refl _ | apply Drawn0.step)⟩
 ·replace c5 := Bool.eq_false_iff.mpr c5
  subst c5
  have H1 : (some false) = some r := by rw [if_neg (show ¬ (false = true) by decide)] at H; exact H
  clear H
  have H := H1
  clear H1
  obtain rfl := Option.some.inj H
  go_enter Try.func91, Try.ntmps91
  go_wp2_with (first | ((with_reducible refine gate_callee (f := 104) rfl ?_); refine goesL_ (some 9) rfl rfl Try.func104 (by kernel_rfl) rfl #[.int .i64 a0, .slice A1 l1.length c1] rfl (by simp only [zA_, zB_, zD_] <;> rfl) ?_; (with_reducible refine (spec_GoodClauses.calls k a0 _ _ l1 false _ ?side1 ?side2 A4.out).mono ?_); (case side1 => exact zC_ HR1.out); (case side2 => exact HC1.out); rintro e w' ⟨rfl, ⟨nd, rfl⟩⟩; refine ⟨_, rfl, ?_⟩))
  go_ret
  exact ⟨by first | rfl | (simp; done) | (simp [*]; done), by repeat (first | exact Drawn0.refl _ | apply Drawn0.step)⟩
def spec_l6AtOnce.f (k : Nat) (l0 : List (List Int)) (l1 : List Int) : Option (Bool) := (spec_l5Negate.f k l1).bind fun t371 => ((spec_l4Propagate.f k l0 t371).bind fun bt374 => (some bt374.2))
theorem spec_l6AtOnce.mono : ∀ a0 a1 k, LeO (spec_l6AtOnce.f k a0 a1) (spec_l6AtOnce.f (k + 1) a0 a1) := by
 intro a0 a1 k
 unfold spec_l6AtOnce.f
 repeat' first
   | (with_reducible exact spec_l4Propagate.mono _ _ _)
   | (with_reducible exact spec_l5Negate.mono _ _)
   | (with_reducible exact LeO.refl _)
   | (with_reducible exact LeO.none _)
   | (with_reducible refine LeO.ite ?_ ?_)
   | (with_reducible refine LeO.bind ?_ (fun _ => ?_))
   | exact spec_l4Propagate.mono _ _ _
   | exact spec_l5Negate.mono _ _
   | exact LeO.none _
   | refine LeO.ite ?_ ?_
   | refine LeO.bind ?_ (fun _ => ?_)
set_option maxHeartbeats 8000000 in
set_option maxRecDepth 100000 in
theorem spec_l6AtOnce.calls (k : Nat) (A0 : Option Addr) (c0 : Nat) (l0 : List (List Int)) (A1 : Option Addr) (c1 : Nat) (l1 : List Int) (r : Bool) (w : World) (hr0 : Kd.C (Kd.slice 3 (Kd.int .i64)) w A0 l0.length l0) (hc0 : l0.length ≤ c0) (hr1 : Kd.C (Kd.int .i64) w A1 l1.length l1) (hc1 : l1.length ≤ c1) (h : spec_l6AtOnce.f k l0 l1 = some r) :
  Calls Try.prog 106 #[.slice A0 l0.length c0, .slice A1 l1.length c1] w fun e w' => e = .returned (.bool r) ∧ Below w.heap.size w w' := by
 have HR0 := Aside0.mk hr0
 have HC0 := Aside0.mk hc0
 clear hr0 hc0
 have HR1 := Aside0.mk hr1
 have HC1 := Aside0.mk hc1
 clear hr1 hc1
 have HB := Aside0.mk (Below.refl w.heap.size w)
 have H : ((spec_l5Negate.f k l1).bind fun t371 => ((spec_l4Propagate.f k l0 t371).bind fun bt374 => (some bt374.2))) = some r := h
 clear h
 replace H := Option.bind_eq_some_iff.mp H
 obtain ⟨t371, A30, H⟩ := H
 (try dsimp only at H)
 have A3 := Aside0.mk A30
 clear A30
 replace H := Option.bind_eq_some_iff.mp H
 obtain ⟨⟨t374, t375⟩, A40, H⟩ := H
 (try dsimp only at H)
 have A4 := Aside0.mk A40
 clear A40
 obtain rfl := Option.some.inj H
 go_enter Try.func106, Try.ntmps106
 go_wp2_with (first | ((with_reducible refine gate_callee (f := 137) rfl ?_); refine goesL_ (some 10) rfl rfl Try.func137 (by kernel_rfl) rfl #[.slice A1 l1.length c1] rfl (by simp only [zA_, zB_, zD_] <;> rfl) ?_; (with_reducible refine (spec_l5Negate.calls k _ _ l1 t371 _ ?side1 ?side2 A3.out).mono ?_); (case side1 => exact zC_ HR1.out); (case side2 => exact HC1.out); rintro e w5 ⟨v372, rfl, ho0, hb⟩; refine ⟨_, rfl, ?_⟩; have n0_ := Aside0.mk (Kd.R_lower ho0 (below_size (zb_ HB.out))); have n1_ := Aside0.mk (below_step (zb_ HB.out) hb); clear HB; have HO373 := n0_; have HB := n1_; clear n0_ n1_; (try clear hb); (try clear hb2); (try clear hk); (try clear hi); (try clear ho0); obtain ⟨Ao6, co6, eo6⟩ := Kd.R_slice HO373.out; subst eo6) | ((with_reducible refine gate_callee (f := 136) rfl ?_); refine goesL_ (some 11) rfl rfl Try.func136 (by kernel_rfl) rfl #[.slice A0 l0.length c0, .slice Ao6 t371.length co6] rfl (by simp only [zA_, zB_, zD_] <;> rfl) ?_; (with_reducible refine (spec_l4Propagate.calls k _ _ l0 _ _ t371 t374 t375 _ ?side1 ?side2 ?side3 ?side4 A4.out).mono ?_); (case side1 => exact zC_ (Kd.C_below HR0.out HB.out)); (case side2 => exact HC0.out); (case side3 => exact zC_ (Kd.R_reads' HO373.out).2.2); (case side4 => exact (Kd.R_reads' HO373.out).2.1); rintro e w7 ⟨v376, rfl, ho0, hb⟩; refine ⟨_, rfl, ?_⟩; have n0_ := Aside0.mk (Kd.R_elder' (zR_ HO373.out) (Kd.R_base ho0) hb); have n1_ := Aside0.mk (Kd.R_lower (Kd.R_new' ho0 (Kd.R_lt (zR_ HO373.out))) (below_size (zb_ HB.out))); have n2_ := Aside0.mk (below_step (zb_ HB.out) hb); clear HO373; clear HB; have HO373 := n0_; have HO377 := n1_; have HB := n2_; clear n0_ n1_ n2_; (try clear hb); (try clear hb2); (try clear hk); (try clear hi); (try clear ho0)))
 go_ret
 exact ⟨by first | rfl | (simp [errW_none, errW_some] <;> rfl) | (simp [*, errW_none, errW_some] <;> rfl), zb_ HB.out⟩
end Go.Proofs.Ytpkbjgmeejlchaa.PFnTrimmed
-- squeezed
