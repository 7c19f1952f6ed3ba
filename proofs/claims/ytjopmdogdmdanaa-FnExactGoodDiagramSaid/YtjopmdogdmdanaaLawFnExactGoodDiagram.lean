-- Made by a program of this session (wip/tools), which leans on the kit's print: checked by Lean alone.
import Derived.Test.YtjopmdogdmdanaaRows
import Derived.Test.YtjopmdogdmdanaaPFnExactGoodDiagramx9
import Derived.Test.YtjopmdogdmdanaaPureFnExactGoodDiagram
import Derived.Test.YtjopmdogdmdanaaOpen
import Derived.WalkKit
import Derived.ProofKit
import Derived.OpenShut
import Derived.ShutString
import Derived.ChangeOld
import Derived.Below
import Derived.SizedLaws
namespace Go.Proofs.Ytjopmdogdmdanaa.fnExactGoodDiagram
open Go.ChangeShapes Go.WideShapes Go.ChangeAt Go.RowKit Go.Proofs.Ytjopmdogdmdanaa.PFnExactGoodDiagram Go.Proofs.YtjopmdogdmdanaaW.PrintWords
open Go.ChangeMaps (open_string shut_string)
set_option linter.unusedVariables false
theorem own : ownKnob Try.prog.godebug = none := by kernel_rfl
theorem laidOut : laidOutB Try.prog = true := by kernel_rfl
theorem opens113 : Open.Opens Try.prog 113 k113 (fun x_ => ((Lit.int .i64 x_.f0).wf = true ∧ (Lit.int .i64 x_.f1).wf = true ∧ (Lit.int .i64 x_.f2).wf = true)) := by
  intro H enc w fuel cs x hx
  have hc113 : Try.prog.cellsOf 113 = 3 := by kernel_rfl
  obtain ⟨xs, n, _, _, hl, hlen, hf⟩ := DataW.trod_struct Try.underlying113 hx
  rw [hc113] at hl
  obtain ⟨c0_, cs, rfl⟩ := List.exists_cons_of_length_eq_add_one hl
  replace hl : cs.length = 2 := by simpa using hl
  obtain ⟨c1_, cs, rfl⟩ := List.exists_cons_of_length_eq_add_one hl
  replace hl : cs.length = 1 := by simpa using hl
  obtain ⟨c2_, cs, rfl⟩ := List.exists_cons_of_length_eq_add_one hl
  replace hl : cs.length = 0 := by simpa using hl
  obtain rfl : cs = [] := List.eq_nil_of_length_eq_zero hl
  clear hl
  · skip
    have e0 : Try.prog.cellsOf 3 = 1 := by kernel_rfl
    have g0 : DataW.trod enc Try.prog w 0 (fun _ => true) true n 3 (([c0_, c1_, c2_].drop 0).take (Try.prog.cellsOf 3)) = xs[0]? := hf 0 _ rfl
    rw [e0] at g0
    simp only [List.drop, List.take] at g0
    rw [List.getElem?_eq_getElem (show 0 < xs.length by rw [hlen]; decide)] at g0
    obtain ⟨y0_, k0_, w0_⟩ := (Open.opens_int Try.underlying3) H enc w n _ _ g0
    have e1 : Try.prog.cellsOf 3 = 1 := by kernel_rfl
    have g1 : DataW.trod enc Try.prog w 0 (fun _ => true) true n 3 (([c0_, c1_, c2_].drop 1).take (Try.prog.cellsOf 3)) = xs[1]? := hf 1 _ rfl
    rw [e1] at g1
    simp only [List.drop, List.take] at g1
    rw [List.getElem?_eq_getElem (show 1 < xs.length by rw [hlen]; decide)] at g1
    obtain ⟨y1_, k1_, w1_⟩ := (Open.opens_int Try.underlying3) H enc w n _ _ g1
    have e2 : Try.prog.cellsOf 3 = 1 := by kernel_rfl
    have g2 : DataW.trod enc Try.prog w 0 (fun _ => true) true n 3 (([c0_, c1_, c2_].drop 2).take (Try.prog.cellsOf 3)) = xs[2]? := hf 2 _ rfl
    rw [e2] at g2
    simp only [List.drop, List.take] at g2
    rw [List.getElem?_eq_getElem (show 2 < xs.length by rw [hlen]; decide)] at g2
    obtain ⟨y2_, k2_, w2_⟩ := (Open.opens_int Try.underlying3) H enc w n _ _ g2
    exact ⟨⟨y0_, y1_, y2_⟩, ⟨[_], [_, _], rfl, k0_, ⟨[_], [_], rfl, k1_, k2_⟩⟩, ⟨w0_, w1_, w2_⟩⟩
set_option maxHeartbeats 1000000 in
set_option maxRecDepth 100000 in
theorem lifted (os : Os) (started : os.Started) (H : Type) (enc : TypeId × Value → H) :
    ReturnsInHanded {} Try.checked os 10 .any (Rows.fnExactGoodDiagramSpec.pre6 enc Try.prog Try.f10 Rows.fnExactGoodDiagramRow.domain false) (Rows.fnExactGoodDiagramSpec.post enc Try.prog Try.f10 false true false false) := by
  refine returnsInHanded_of_change_sized (C := Try.checked) own started (by kernel_rfl) Try.func10
    (ChangeSpec.witness6 (enc := enc) (C := Try.checked) false ⟨#[], #[.agg #[.int .i64 0, .slice none 0 0, .int .i64 0]], []⟩ 8 (by kernel_rfl) (by kernel_rfl) (by kernel_rfl) (by kernel_rfl)) ?_
  intro W base args ds gs before hval0 hW hcnd hsz0 _
  have hval : ∀ (j : Nat) t v, Try.f10.params[j]? = some t → args[j]? = some v → Value.okWide Try.prog W .any base t v := hval0
  have hW' := hW
  obtain ⟨p, q, hA0, hV, rfl, hfz, hnd⟩ := hW
  have hA : DataW.TrodAll enc Try.prog W 0 (fun _ => true) true Try.f10.params.toList args.toList ds p := hA0
  rw [Try.params10] at hA hval
  obtain ⟨v0, vs0, d0, ds0, p0, q0, hargs, rfl, rfl, h0, r0⟩ := trodAll_cons hA
  obtain ⟨rfl, rfl, rfl⟩ := trodAll_nil r0
  obtain rfl : args = #[v0] := by cases args; simp_all
  obtain ⟨rfl, rfl⟩ := trodVars_none hV
  obtain ⟨cs0, rfl, _⟩ := okWide_struct Try.underlying62 (hval 0 62 v0 rfl rfl)
  have k0 := h0
  have lt0 : ∀ x ∈ p0, x.block < W.heap.size := by obtain ⟨m, hm⟩ := k0; exact DataW.trod_lt m _ _ _ hm
  obtain ⟨fu0, hf0⟩ := h0
  obtain ⟨xs0, n0, _, _, hl0, hlen0, hg0⟩ := DataW.trod_struct Try.underlying62 hf0
  have hc0 : Try.prog.cellsOf 62 = 3 := by kernel_rfl
  rw [hc0] at hl0
  obtain ⟨cs0⟩ := cs0
  obtain ⟨c0_0, c0_1, c0_2, rfl⟩ := Open.list3 cs0 (by simpa [Value.cells] using hl0)
  have e0_0 : Try.prog.cellsOf 3 = 1 := by kernel_rfl
  have g0_0 : DataW.trod enc Try.prog W 0 (fun _ => true) true n0 3 (([c0_0, c0_1, c0_2].drop 0).take (Try.prog.cellsOf 3)) = xs0[0]? := hg0 0 _ rfl
  rw [e0_0] at g0_0
  simp only [List.drop, List.take] at g0_0
  rw [List.getElem?_eq_getElem (show 0 < xs0.length by rw [hlen0]; decide)] at g0_0
  obtain ⟨y0_0, k0_0, w0_0⟩ := (Open.opens_int Try.underlying3) H enc W n0 _ _ g0_0
  obtain rfl : c0_0 = .int .i64 y0_0 := by have h_ : [c0_0] = [.int .i64 y0_0] := k0_0; simpa using h_
  have e0_1 : Try.prog.cellsOf 60 = 1 := by kernel_rfl
  have g0_1 : DataW.trod enc Try.prog W 0 (fun _ => true) true n0 60 (([.int .i64 y0_0, c0_1, c0_2].drop 1).take (Try.prog.cellsOf 60)) = xs0[1]? := hg0 1 _ rfl
  rw [e0_1] at g0_1
  simp only [List.drop, List.take] at g0_1
  rw [List.getElem?_eq_getElem (show 1 < xs0.length by rw [hlen0]; decide)] at g0_1
  obtain ⟨y0_1, k0_1, w0_1⟩ := (Open.opens_slice Try.underlying60 (by kernel_rfl) opens113) H enc W n0 _ _ g0_1
  obtain ⟨A0_1, b0_1, ec0_1, hc0_1, hr0_1⟩ := k0_1
  obtain rfl : c0_1 = .slice A0_1 y0_1.length b0_1 := by simpa using ec0_1
  have e0_2 : Try.prog.cellsOf 3 = 1 := by kernel_rfl
  have g0_2 : DataW.trod enc Try.prog W 0 (fun _ => true) true n0 3 (([.int .i64 y0_0, .slice A0_1 y0_1.length b0_1, c0_2].drop 2).take (Try.prog.cellsOf 3)) = xs0[2]? := hg0 2 _ rfl
  rw [e0_2] at g0_2
  simp only [List.drop, List.take] at g0_2
  rw [List.getElem?_eq_getElem (show 2 < xs0.length by rw [hlen0]; decide)] at g0_2
  obtain ⟨y0_2, k0_2, w0_2⟩ := (Open.opens_int Try.underlying3) H enc W n0 _ _ g0_2
  obtain rfl : c0_2 = .int .i64 y0_2 := by have h_ : [c0_2] = [.int .i64 y0_2] := k0_2; simpa using h_
  clear hA0 hval0 hsz0
  obtain ⟨k, hP⟩ := Pure.FnExactGoodDiagram y0_0 y0_1 y0_2 w0_0 w0_1 w0_2
  refine (laws_FnExactGoodDiagram.calls k y0_0 _ _ y0_1 y0_2 true W hr0_1 hc0_1 hP).mono fun e W' hpost => ?_
  obtain ⟨he, hd⟩ := hpost
  have bel : Below W.heap.size W W' := hd
  subst he
  exact ⟨_, rfl, _, _, _, [], _, [], hW', trodAll_mk1 (shut_bool Try.underlying4 _), (trodAll_cons_mk (Below.trod laidOut (by kernel_rfl) (of_decide_eq_true (by kernel_rfl)) k0 bel lt0) trodAll_mk0), rfl, bel.frame _, fun h => by cases h⟩
theorem over : Rows.fnExactGoodDiagramRow.holds Try.pinned (OpenSpec.ofChange Rows.fnExactGoodDiagramSpec) :=
  OpenClaim.holds_of_wide 10 Try.f10 rfl rfl rfl rfl rfl rfl rfl ⟨rfl, rfl, rfl, rfl, rfl⟩ rfl rfl rfl rfl rfl (by kernel_rfl) Try.func10 (by kernel_rfl)
    (of_decide_eq_true (by kernel_rfl)) (by unfold Func.isWrapper; first | (rw [if_pos (by decide +kernel)]; kernel_rfl) | (rw [if_neg (by decide +kernel)]; exact ⟨rfl, rfl⟩))
    (fun os started H enc _ => lifted os started H enc)
theorem proved : Rows.FnExactGoodDiagramSaid := over
#print axioms proved
end Go.Proofs.Ytjopmdogdmdanaa.fnExactGoodDiagram
namespace Go.Proofs.Ytjopmdogdmdanaa
/-- The row, under a short name, for the claim. -/
theorem fnExactGoodDiagram_holds : Rows.FnExactGoodDiagramSaid := fnExactGoodDiagram.proved
end Go.Proofs.Ytjopmdogdmdanaa
