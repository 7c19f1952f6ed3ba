-- Made by a program of this session (wip/tools), which leans on the kit's print: checked by Lean alone.
import Derived.Test.YtjopmdogdmdanaaDoorRows
import Derived.Test.YtjopmdogdmdanaaDoorPFnExactStepTextx6
import Derived.Test.YtjopmdogdmdanaaDoorPureFnExactStepText
import Derived.Test.YtjopmdogdmdanaaDoorOpen
import Derived.WalkKit
import Derived.ProofKit
import Derived.OpenShut
import Derived.ShutString
import Derived.ChangeOld
import Derived.Below
import Derived.SizedLaws
import Derived.Test.YtjopmdogdmdanaaDoorCards
import Derived.Test.YtjopmdogdmdanaaDoorTie
import Derived.LaidMore
import Derived.Stop.Joined
import Derived.Stop.LaidErr
import Derived.SevenTiedAt
import Derived.Lib.LaidTab
namespace Go.Proofs.YtjopmdogdmdanaaDoor.fnExactStepText
open Go.ChangeShapes Go.WideShapes Go.ChangeAt Go.RowKit Go.Proofs.YtjopmdogdmdanaaDoor.PFnExactStepText Go.Proofs.YtjopmdogdmdanaaDoorW.PrintWords
open Go.ChangeMaps (open_string shut_string)
set_option linter.unusedVariables false
theorem own : ownKnob Tryd.prog.godebug = none := by kernel_rfl
theorem laidOut : laidOutB Tryd.prog = true := by kernel_rfl
def lst : List (String × DataW Unit) := [("math/bits.deBruijn32tab", Rows.laid_math_bits_deBruijn32tab), ("math/bits.deBruijn64tab", Rows.laid_math_bits_deBruijn64tab), ("internal/strconv.uint64pow10", Rows.laid_internal_strconv_uint64pow10)]
theorem door_met (os : Os) (args : Array Value) : laidMetH Tryd.prog lst ((World.doorLaid Tryd.prog 400 os).forCall (fun _ _ => 0) ⟨#[], args, []⟩).memory :=
  laidMetH_of_parts3 (fuel := 8) (laidMet_of_run' 8 (by kernel_rfl) (by kernel_rfl)) (by kernel_rfl) (by kernel_rfl)
theorem tab_of {W : World} (h : laidMetH Tryd.prog lst W) : TabP_ W := by
  rw [MakeChecks.laidMetH_plain _ _ _ (by kernel_rfl)] at h
  have h3 : laidMet Tryd.prog [("internal/strconv.uint64pow10", Lib.tabData .u64 Lib.pow10Tab)] W := h.tail.tail
  exact Lib.tabIs_of_head (g := 0) (t := 52) (e := 45) (n := 20) (by kernel_rfl) (by kernel_rfl) (by kernel_rfl) (by kernel_rfl) (by kernel_rfl) (by kernel_rfl) h3
set_option maxHeartbeats 1000000 in
set_option maxRecDepth 100000 in
theorem lifted (os : Os) (started : os.Started) (H : Type) (enc : TypeId × Value → H) :
    ReturnsInHanded {} Tryd.checked os 3 .any (fun w args => (Rows.fnExactStepTextSpec.pre enc Tryd.prog Tryd.f3 [] false w args ∧ laidMetH Tryd.prog lst w) ∧ sizedMet enc Tryd.prog Tryd.f3 (OpenSpec.ofChange Rows.fnExactStepTextSpec) false w args)
      (Rows.fnExactStepTextSpec.post enc Tryd.prog Tryd.f3 false true false false) := by
  refine returnsInHanded_of_change_and (C := Tryd.checked) (X := fun w _ => laidMetH Tryd.prog lst w) (fun _ _ _ hh h => h.of_heap hh) own started (by kernel_rfl) Tryd.func3
    (ChangeSpec.witness_shaped (enc := enc) (C := Tryd.checked) (os := os) (X := fun w _ => laidMetH Tryd.prog lst w) false (World.doorLaid Tryd.prog 400 os) #[.agg #[.int .i64 0, .int .i64 0, .int .i64 0, .int .i64 0, .int .i64 0, .int .i64 0]] 8 rfl (World.shaped_of_RefB (by kernel_rfl) (by kernel_rfl)) (by kernel_rfl) (by kernel_rfl) (by kernel_rfl) (door_met os _)) ?_
  intro W base args ds gs before hval0 hW hcnd hsz0 hL _
  have htab : TabP_ W := tab_of hL
  have hval : ∀ (j : Nat) t v, Tryd.f3.params[j]? = some t → args[j]? = some v → Value.okWide Tryd.prog W .any base t v := hval0
  have hW' := hW
  obtain ⟨p, q, hA0, hV, rfl, hfz, hnd⟩ := hW
  have hA : DataW.TrodAll enc Tryd.prog W 0 (fun _ => true) true Tryd.f3.params.toList args.toList ds p := hA0
  rw [Tryd.params3] at hA hval
  obtain ⟨v0, vs0, d0, ds0, p0, q0, hargs, rfl, rfl, h0, r0⟩ := trodAll_cons hA
  obtain ⟨rfl, rfl, rfl⟩ := trodAll_nil r0
  obtain rfl : args = #[v0] := by cases args; simp_all
  obtain ⟨rfl, rfl⟩ := trodVars_none hV
  obtain ⟨cs0, rfl, _⟩ := okWide_struct Tryd.underlying23 (hval 0 23 v0 rfl rfl)
  have k0 := h0
  have lt0 : ∀ x ∈ p0, x.block < W.heap.size := by obtain ⟨m, hm⟩ := k0; exact DataW.trod_lt m _ _ _ hm
  obtain ⟨fu0, hf0⟩ := h0
  obtain ⟨xs0, n0, _, _, hl0, hlen0, hg0⟩ := DataW.trod_struct Tryd.underlying23 hf0
  have hc0 : Tryd.prog.cellsOf 23 = 6 := by kernel_rfl
  rw [hc0] at hl0
  obtain ⟨cs0⟩ := cs0
  obtain ⟨c0_0, c0_1, c0_2, c0_3, c0_4, c0_5, rfl⟩ := Open.list6 cs0 (by simpa [Value.cells] using hl0)
  have e0_0 : Tryd.prog.cellsOf 3 = 1 := by kernel_rfl
  have g0_0 : DataW.trod enc Tryd.prog W 0 (fun _ => true) true n0 3 (([c0_0, c0_1, c0_2, c0_3, c0_4, c0_5].drop 0).take (Tryd.prog.cellsOf 3)) = xs0[0]? := hg0 0 _ rfl
  rw [e0_0] at g0_0
  simp only [List.drop, List.take] at g0_0
  rw [List.getElem?_eq_getElem (show 0 < xs0.length by rw [hlen0]; decide)] at g0_0
  obtain ⟨y0_0, k0_0, w0_0⟩ := (Open.opens_int Tryd.underlying3) H enc W n0 _ _ g0_0
  obtain rfl : c0_0 = .int .i64 y0_0 := by have h_ : [c0_0] = [.int .i64 y0_0] := k0_0; simpa using h_
  have e0_1 : Tryd.prog.cellsOf 3 = 1 := by kernel_rfl
  have g0_1 : DataW.trod enc Tryd.prog W 0 (fun _ => true) true n0 3 (([.int .i64 y0_0, c0_1, c0_2, c0_3, c0_4, c0_5].drop 1).take (Tryd.prog.cellsOf 3)) = xs0[1]? := hg0 1 _ rfl
  rw [e0_1] at g0_1
  simp only [List.drop, List.take] at g0_1
  rw [List.getElem?_eq_getElem (show 1 < xs0.length by rw [hlen0]; decide)] at g0_1
  obtain ⟨y0_1, k0_1, w0_1⟩ := (Open.opens_int Tryd.underlying3) H enc W n0 _ _ g0_1
  obtain rfl : c0_1 = .int .i64 y0_1 := by have h_ : [c0_1] = [.int .i64 y0_1] := k0_1; simpa using h_
  have e0_2 : Tryd.prog.cellsOf 3 = 1 := by kernel_rfl
  have g0_2 : DataW.trod enc Tryd.prog W 0 (fun _ => true) true n0 3 (([.int .i64 y0_0, .int .i64 y0_1, c0_2, c0_3, c0_4, c0_5].drop 2).take (Tryd.prog.cellsOf 3)) = xs0[2]? := hg0 2 _ rfl
  rw [e0_2] at g0_2
  simp only [List.drop, List.take] at g0_2
  rw [List.getElem?_eq_getElem (show 2 < xs0.length by rw [hlen0]; decide)] at g0_2
  obtain ⟨y0_2, k0_2, w0_2⟩ := (Open.opens_int Tryd.underlying3) H enc W n0 _ _ g0_2
  obtain rfl : c0_2 = .int .i64 y0_2 := by have h_ : [c0_2] = [.int .i64 y0_2] := k0_2; simpa using h_
  have e0_3 : Tryd.prog.cellsOf 3 = 1 := by kernel_rfl
  have g0_3 : DataW.trod enc Tryd.prog W 0 (fun _ => true) true n0 3 (([.int .i64 y0_0, .int .i64 y0_1, .int .i64 y0_2, c0_3, c0_4, c0_5].drop 3).take (Tryd.prog.cellsOf 3)) = xs0[3]? := hg0 3 _ rfl
  rw [e0_3] at g0_3
  simp only [List.drop, List.take] at g0_3
  rw [List.getElem?_eq_getElem (show 3 < xs0.length by rw [hlen0]; decide)] at g0_3
  obtain ⟨y0_3, k0_3, w0_3⟩ := (Open.opens_int Tryd.underlying3) H enc W n0 _ _ g0_3
  obtain rfl : c0_3 = .int .i64 y0_3 := by have h_ : [c0_3] = [.int .i64 y0_3] := k0_3; simpa using h_
  have e0_4 : Tryd.prog.cellsOf 3 = 1 := by kernel_rfl
  have g0_4 : DataW.trod enc Tryd.prog W 0 (fun _ => true) true n0 3 (([.int .i64 y0_0, .int .i64 y0_1, .int .i64 y0_2, .int .i64 y0_3, c0_4, c0_5].drop 4).take (Tryd.prog.cellsOf 3)) = xs0[4]? := hg0 4 _ rfl
  rw [e0_4] at g0_4
  simp only [List.drop, List.take] at g0_4
  rw [List.getElem?_eq_getElem (show 4 < xs0.length by rw [hlen0]; decide)] at g0_4
  obtain ⟨y0_4, k0_4, w0_4⟩ := (Open.opens_int Tryd.underlying3) H enc W n0 _ _ g0_4
  obtain rfl : c0_4 = .int .i64 y0_4 := by have h_ : [c0_4] = [.int .i64 y0_4] := k0_4; simpa using h_
  have e0_5 : Tryd.prog.cellsOf 3 = 1 := by kernel_rfl
  have g0_5 : DataW.trod enc Tryd.prog W 0 (fun _ => true) true n0 3 (([.int .i64 y0_0, .int .i64 y0_1, .int .i64 y0_2, .int .i64 y0_3, .int .i64 y0_4, c0_5].drop 5).take (Tryd.prog.cellsOf 3)) = xs0[5]? := hg0 5 _ rfl
  rw [e0_5] at g0_5
  simp only [List.drop, List.take] at g0_5
  rw [List.getElem?_eq_getElem (show 5 < xs0.length by rw [hlen0]; decide)] at g0_5
  obtain ⟨y0_5, k0_5, w0_5⟩ := (Open.opens_int Tryd.underlying3) H enc W n0 _ _ g0_5
  obtain rfl : c0_5 = .int .i64 y0_5 := by have h_ : [c0_5] = [.int .i64 y0_5] := k0_5; simpa using h_
  clear hA0 hval0 hsz0
  obtain ⟨k, hP⟩ := Pure.FnExactStepText y0_0 y0_1 y0_2 y0_3 y0_4 y0_5 w0_0 w0_1 w0_2 w0_3 w0_4 w0_5
  refine (laws_FnExactStepText.calls k y0_0 y0_1 y0_2 y0_3 y0_4 y0_5 true W hP htab).mono fun e W' hpost => ?_
  obtain ⟨he, hd⟩ := hpost
  have bel : Below W.heap.size W W' := hd
  subst he
  exact ⟨_, rfl, _, _, _, [], _, [], hW', trodAll_mk1 (shut_bool Tryd.underlying4 _), (trodAll_cons_mk (Below.trod laidOut (by kernel_rfl) (of_decide_eq_true (by kernel_rfl)) k0 bel lt0) trodAll_mk0), rfl, bel.frame _, fun h => by cases h⟩
theorem over : Rows.fnExactStepTextRow.holds Tryd.pinned (OpenSpec.ofChange Rows.fnExactStepTextSpec) :=
  OpenClaim.holds_of_wide 3 Tryd.f3 rfl rfl rfl rfl rfl rfl rfl ⟨rfl, rfl, rfl, rfl, rfl⟩ rfl rfl rfl rfl rfl (by kernel_rfl) Tryd.func3 (by kernel_rfl)
    (of_decide_eq_true (by kernel_rfl)) (by unfold Func.isWrapper; first | (rw [if_pos (by decide +kernel)]; kernel_rfl) | (rw [if_neg (by decide +kernel)]; exact ⟨rfl, rfl⟩))
    (fun os started H enc _ => lifted os started H enc)
theorem proved : Rows.FnExactStepTextSaid := over
#print axioms proved
end Go.Proofs.YtjopmdogdmdanaaDoor.fnExactStepText
namespace Go.Proofs.YtjopmdogdmdanaaDoor
/-- The tied card. -/
theorem fnExactStepText_card_holds : Rows.FnExactStepTextCardSaid :=
  Claim7.holds_tied_plain_at .later [] [.data, .data, .data] true (true, "269de84dab079075fc8cbebf1b0b891a22e3c02e86faa2d03c2b365d019e7367") false
    fnExactStepText.proved (fun _ h => by cases h) (by kernel_rfl) (fun _ h => by cases h) fnExactStepText_row_tie rfl ⟨rfl, rfl⟩ (by kernel_rfl) rfl
    (fun f fn hf hfn => by
      obtain rfl : f = 3 := Option.some.inj ((show Tryd.prog.funcNamed "loop.example/g00605/laws.FnExactStepText" = some 3 by kernel_rfl).symm.trans hf) |>.symm
      obtain rfl : fn = Tryd.f3 := (Option.some.inj (Tryd.func3.symm.trans hfn)).symm
      exact ⟨by kernel_rfl, fun j t ht => by
        rw [Tryd.params3] at ht
        have hm : t ∈ [23] := by simpa using Array.mem_of_getElem? ht
        have hall : ([23].all fun u => !Tryd.prog.wantsStandIn u) = true := by kernel_rfl
        exact (show Tryd.prog.wantsStandIn t = false by simpa using List.all_eq_true.1 hall t hm)⟩)
    (by kernel_rfl)
end Go.Proofs.YtjopmdogdmdanaaDoor
