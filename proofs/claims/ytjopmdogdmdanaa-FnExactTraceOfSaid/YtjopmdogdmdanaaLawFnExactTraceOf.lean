-- Made by a program of this session (wip/tools), which leans on the kit's print: checked by Lean alone.
import Derived.Test.YtjopmdogdmdanaaRows
import Derived.Test.YtjopmdogdmdanaaPFnExactTraceOfx12
import Derived.Test.YtjopmdogdmdanaaPureFnExactTraceOf
import Derived.Test.YtjopmdogdmdanaaOpenFnExactTraceOf
import Derived.WalkKit
import Derived.ProofKit
import Derived.OpenShut
import Derived.ShutString
import Derived.ChangeOld
import Derived.Below
import Derived.SizedLaws
namespace Go.Proofs.Ytjopmdogdmdanaa.fnExactTraceOf
open Go.ChangeShapes Go.WideShapes Go.ChangeAt Go.RowKit Go.Proofs.Ytjopmdogdmdanaa.PFnExactTraceOf Go.Proofs.YtjopmdogdmdanaaW.PrintWords
open Go.ChangeMaps (open_string shut_string)
set_option linter.unusedVariables false
theorem own : ownKnob Try.prog.godebug = none := by kernel_rfl
theorem laidOut : laidOutB Try.prog = true := by kernel_rfl
theorem opens23 : Open.Opens Try.prog 23 k23 (fun x_ => ((Lit.int .i64 x_.f0).wf = true ∧ (Lit.int .i64 x_.f1).wf = true ∧ (Lit.int .i64 x_.f2).wf = true ∧ (Lit.int .i64 x_.f3).wf = true ∧ (Lit.int .i64 x_.f4).wf = true ∧ (Lit.int .i64 x_.f5).wf = true)) := by
  intro H enc w fuel cs x hx
  have hc23 : Try.prog.cellsOf 23 = 6 := by kernel_rfl
  obtain ⟨xs, n, _, _, hl, hlen, hf⟩ := DataW.trod_struct Try.underlying23 hx
  rw [hc23] at hl
  obtain ⟨c0_, cs, rfl⟩ := List.exists_cons_of_length_eq_add_one hl
  replace hl : cs.length = 5 := by simpa using hl
  obtain ⟨c1_, cs, rfl⟩ := List.exists_cons_of_length_eq_add_one hl
  replace hl : cs.length = 4 := by simpa using hl
  obtain ⟨c2_, cs, rfl⟩ := List.exists_cons_of_length_eq_add_one hl
  replace hl : cs.length = 3 := by simpa using hl
  obtain ⟨c3_, cs, rfl⟩ := List.exists_cons_of_length_eq_add_one hl
  replace hl : cs.length = 2 := by simpa using hl
  obtain ⟨c4_, cs, rfl⟩ := List.exists_cons_of_length_eq_add_one hl
  replace hl : cs.length = 1 := by simpa using hl
  obtain ⟨c5_, cs, rfl⟩ := List.exists_cons_of_length_eq_add_one hl
  replace hl : cs.length = 0 := by simpa using hl
  obtain rfl : cs = [] := List.eq_nil_of_length_eq_zero hl
  clear hl
  · skip
    have e0 : Try.prog.cellsOf 3 = 1 := by kernel_rfl
    have g0 : DataW.trod enc Try.prog w 0 (fun _ => true) true n 3 (([c0_, c1_, c2_, c3_, c4_, c5_].drop 0).take (Try.prog.cellsOf 3)) = xs[0]? := hf 0 _ rfl
    rw [e0] at g0
    simp only [List.drop, List.take] at g0
    rw [List.getElem?_eq_getElem (show 0 < xs.length by rw [hlen]; decide)] at g0
    obtain ⟨y0_, k0_, w0_⟩ := (Open.opens_int Try.underlying3) H enc w n _ _ g0
    have e1 : Try.prog.cellsOf 3 = 1 := by kernel_rfl
    have g1 : DataW.trod enc Try.prog w 0 (fun _ => true) true n 3 (([c0_, c1_, c2_, c3_, c4_, c5_].drop 1).take (Try.prog.cellsOf 3)) = xs[1]? := hf 1 _ rfl
    rw [e1] at g1
    simp only [List.drop, List.take] at g1
    rw [List.getElem?_eq_getElem (show 1 < xs.length by rw [hlen]; decide)] at g1
    obtain ⟨y1_, k1_, w1_⟩ := (Open.opens_int Try.underlying3) H enc w n _ _ g1
    have e2 : Try.prog.cellsOf 3 = 1 := by kernel_rfl
    have g2 : DataW.trod enc Try.prog w 0 (fun _ => true) true n 3 (([c0_, c1_, c2_, c3_, c4_, c5_].drop 2).take (Try.prog.cellsOf 3)) = xs[2]? := hf 2 _ rfl
    rw [e2] at g2
    simp only [List.drop, List.take] at g2
    rw [List.getElem?_eq_getElem (show 2 < xs.length by rw [hlen]; decide)] at g2
    obtain ⟨y2_, k2_, w2_⟩ := (Open.opens_int Try.underlying3) H enc w n _ _ g2
    have e3 : Try.prog.cellsOf 3 = 1 := by kernel_rfl
    have g3 : DataW.trod enc Try.prog w 0 (fun _ => true) true n 3 (([c0_, c1_, c2_, c3_, c4_, c5_].drop 3).take (Try.prog.cellsOf 3)) = xs[3]? := hf 3 _ rfl
    rw [e3] at g3
    simp only [List.drop, List.take] at g3
    rw [List.getElem?_eq_getElem (show 3 < xs.length by rw [hlen]; decide)] at g3
    obtain ⟨y3_, k3_, w3_⟩ := (Open.opens_int Try.underlying3) H enc w n _ _ g3
    have e4 : Try.prog.cellsOf 3 = 1 := by kernel_rfl
    have g4 : DataW.trod enc Try.prog w 0 (fun _ => true) true n 3 (([c0_, c1_, c2_, c3_, c4_, c5_].drop 4).take (Try.prog.cellsOf 3)) = xs[4]? := hf 4 _ rfl
    rw [e4] at g4
    simp only [List.drop, List.take] at g4
    rw [List.getElem?_eq_getElem (show 4 < xs.length by rw [hlen]; decide)] at g4
    obtain ⟨y4_, k4_, w4_⟩ := (Open.opens_int Try.underlying3) H enc w n _ _ g4
    have e5 : Try.prog.cellsOf 3 = 1 := by kernel_rfl
    have g5 : DataW.trod enc Try.prog w 0 (fun _ => true) true n 3 (([c0_, c1_, c2_, c3_, c4_, c5_].drop 5).take (Try.prog.cellsOf 3)) = xs[5]? := hf 5 _ rfl
    rw [e5] at g5
    simp only [List.drop, List.take] at g5
    rw [List.getElem?_eq_getElem (show 5 < xs.length by rw [hlen]; decide)] at g5
    obtain ⟨y5_, k5_, w5_⟩ := (Open.opens_int Try.underlying3) H enc w n _ _ g5
    exact ⟨⟨y0_, y1_, y2_, y3_, y4_, y5_⟩, ⟨[_], [_, _, _, _, _], rfl, k0_, ⟨[_], [_, _, _, _], rfl, k1_, ⟨[_], [_, _, _], rfl, k2_, ⟨[_], [_, _], rfl, k3_, ⟨[_], [_], rfl, k4_, k5_⟩⟩⟩⟩⟩, ⟨w0_, w1_, w2_, w3_, w4_, w5_⟩⟩
set_option maxHeartbeats 1000000 in
set_option maxRecDepth 100000 in
theorem lifted (os : Os) (started : os.Started) (H : Type) (enc : TypeId × Value → H) :
    ReturnsInHanded {} Try.checked os 13 .any (Rows.fnExactTraceOfSpec.pre6 enc Try.prog Try.f13 Rows.fnExactTraceOfRow.domain false) (Rows.fnExactTraceOfSpec.post enc Try.prog Try.f13 false true false false) := by
  refine returnsInHanded_of_change_sized (C := Try.checked) own started (by kernel_rfl) Try.func13
    (ChangeSpec.witness6 (enc := enc) (C := Try.checked) false ⟨#[], #[.slice none 0 0, .slice none 0 0], []⟩ 8 (by kernel_rfl) (by kernel_rfl) (by kernel_rfl) (by kernel_rfl)) ?_
  intro W base args ds gs before hval0 hW hcnd hsz0 _
  have hval : ∀ (j : Nat) t v, Try.f13.params[j]? = some t → args[j]? = some v → Value.okWide Try.prog W .any base t v := hval0
  have hW' := hW
  obtain ⟨p, q, hA0, hV, rfl, hfz, hnd⟩ := hW
  have hA : DataW.TrodAll enc Try.prog W 0 (fun _ => true) true Try.f13.params.toList args.toList ds p := hA0
  rw [Try.params13] at hA hval
  obtain ⟨v0, vs0, d0, ds0, p0, q0, hargs, rfl, rfl, h0, r0⟩ := trodAll_cons hA
  obtain ⟨v1, vs1, d1, ds1, p1, q1, rfl, rfl, rfl, h1, r1⟩ := trodAll_cons r0
  obtain ⟨rfl, rfl, rfl⟩ := trodAll_nil r1
  obtain rfl : args = #[v0, v1] := by cases args; simp_all
  obtain ⟨rfl, rfl⟩ := trodVars_none hV
  obtain ⟨a0, len0, cap0, rfl⟩ := okWide_slice Try.underlying29 (hval 0 29 v0 rfl rfl)
  have k0 := h0
  have lt0 : ∀ x ∈ p0, x.block < W.heap.size := by obtain ⟨m, hm⟩ := k0; exact DataW.trod_lt m _ _ _ hm
  obtain ⟨l0, rfl, hc0, hr0, f0⟩ := Open.slice_arg (Open.opens_slice Try.underlying29 (by kernel_rfl) opens23) h0
  obtain ⟨a1, len1, cap1, rfl⟩ := okWide_slice Try.underlying37 (hval 1 37 v1 rfl rfl)
  have k1 := h1
  have lt1 : ∀ x ∈ p1, x.block < W.heap.size := by obtain ⟨m, hm⟩ := k1; exact DataW.trod_lt m _ _ _ hm
  obtain ⟨l1, rfl, hc1, hr1, f1⟩ := Open.slice_arg (Open.opens_slice Try.underlying37 (by kernel_rfl) (Open.opens_int Try.underlying3)) h1
  clear hA0 hval0 hsz0
  obtain ⟨k, hP⟩ := Pure.FnExactTraceOf l0 l1 f0 f1
  refine (laws_FnExactTraceOf.calls k _ _ l0 _ _ l1 true W hr0 hc0 hr1 hc1 hP).mono fun e W' hpost => ?_
  obtain ⟨he, hd⟩ := hpost
  have bel : Below W.heap.size W W' := hd
  subst he
  exact ⟨_, rfl, _, _, _, [], _, [], hW', trodAll_mk1 (shut_bool Try.underlying4 _), (trodAll_cons_mk (Below.trod laidOut (by kernel_rfl) (of_decide_eq_true (by kernel_rfl)) k0 bel lt0) (trodAll_cons_mk (Below.trod laidOut (by kernel_rfl) (of_decide_eq_true (by kernel_rfl)) k1 bel lt1) trodAll_mk0)), rfl, bel.frame _, fun h => by cases h⟩
theorem over : Rows.fnExactTraceOfRow.holds Try.pinned (OpenSpec.ofChange Rows.fnExactTraceOfSpec) :=
  OpenClaim.holds_of_wide 13 Try.f13 rfl rfl rfl rfl rfl rfl rfl ⟨rfl, rfl, rfl, rfl, rfl⟩ rfl rfl rfl rfl rfl (by kernel_rfl) Try.func13 (by kernel_rfl)
    (of_decide_eq_true (by kernel_rfl)) (by unfold Func.isWrapper; first | (rw [if_pos (by decide +kernel)]; kernel_rfl) | (rw [if_neg (by decide +kernel)]; exact ⟨rfl, rfl⟩))
    (fun os started H enc _ => lifted os started H enc)
theorem proved : Rows.FnExactTraceOfSaid := over
#print axioms proved
end Go.Proofs.Ytjopmdogdmdanaa.fnExactTraceOf
namespace Go.Proofs.Ytjopmdogdmdanaa
/-- The row, under a short name, for the claim. -/
theorem fnExactTraceOf_holds : Rows.FnExactTraceOfSaid := fnExactTraceOf.proved
end Go.Proofs.Ytjopmdogdmdanaa
