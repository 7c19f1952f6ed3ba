-- Made by a program of this session (wip/tools), which leans on the kit's print: checked by Lean alone.
import Derived.Test.YtpkbjgmeejlchabPFnAtOncex0
import Derived.Test.YtpkbjgmeejlchabPFnAtOncex1
import Derived.Test.YtpkbjgmeejlchabPFnAtOncex3
import Derived.Test.YtpkbjgmeejlchabPFnAtOncex4
import Derived.Test.YtpkbjgmeejlchabPFnAtOncex5
import Derived.Test.YtpkbjgmeejlchabPFnAtOncex6
import Derived.Test.YtpkbjgmeejlchabPFnAtOncex7
import Derived.Test.YtpkbjgmeejlchabPFnAtOncex8
namespace Go.Proofs.Ytpkbjgmeejlchab.PFnAtOnce
open Go.RowKit Go.Proofs.YtpkbjgmeejlchabW.PrintWords Go.Proofs.YtpkbjgmeejlchabW.PrintLast Go.Proofs.YtpkbjgmeejlchabW.PrintMore
attribute [local go_sem] max2_int min2_int max_two min_two max_three min_three max_four min_four   -- for this text's walks alone
set_option linter.unusedVariables false
set_option linter.unusedSimpArgs false

/-! ### laws_FnAtOnce: function 4 -/
mutual
def laws_FnAtOnce.j0 : Nat → List Int → Int → List (List Int) → List Int → List Int → Bool → Bool → Bool → Option (Bool)
 | 0, _, _, _, _, _, _, _, _ => none
 | k + 1, x1, x5, x6, x7, x8, x9, x10, x79 => if x79 = true then (none) else (if x10 = true then ((impl_Reduce.f k x5 x6 x7).bind fun bt329 => (if bt329.2 = true then (if (x8.length : Int) < (x7.length : Int) then (laws_FnAtOnce.j1 k x1 x5 x6 x7 x8 x9 bt329.1 true) else (if 0 ≤ (x7.length : Int) then (if (x7.length : Int) ≤ (x8.length : Int) then ((laws_sameInts.f k (x8.take ((x7.length : Int) : Int).toNat) x7).bind fun t337 => (laws_FnAtOnce.j1 k x1 x5 x6 x7 x8 x9 bt329.1 (!t337))) else (none)) else (none))) else (laws_FnAtOnce.j1 k x1 x5 x6 x7 x8 x9 bt329.1 true))) else (laws_FnAtOnce.j4 k x1))
def laws_FnAtOnce.j4 : Nat → List Int → Option (Bool)
 | 0, _ => none
 | k + 1, x1 => (spec_DrawReduce.f k x1).bind fun bt347 => ((impl_Reduce.f k bt347.1 bt347.2.1 bt347.2.2).bind fun bt354 => ((spec_Reduce.f k bt347.1 bt347.2.1 bt347.2.2).bind fun bt358 => (if (bt354.2 == bt358.2) = true then ((laws_sameRows.f k bt354.1 bt358.1).bind fun t362 => (some t362)) else (none))))
def laws_FnAtOnce.j1 : Nat → List Int → Int → List (List Int) → List Int → List Int → Bool → List (List Int) → Bool → Option (Bool)
 | 0, _, _, _, _, _, _, _, _ => none
 | k + 1, x1, x5, x6, x7, x8, x9, x14, x105 => if x105 = true then (none) else (if x5 ≤ 8 then (laws_FnAtOnce.l0 k x1 x5 x6 x7 x8 x9 x14 0) else (laws_FnAtOnce.j4 k x1))
def laws_FnAtOnce.l0 : Nat → List Int → Int → List (List Int) → List Int → List Int → Bool → List (List Int) → Int → Option (Bool)
 | 0, _, _, _, _, _, _, _, _ => none
 | k + 1, x1, x5, x6, x7, x8, x9, x14, x16 => if 0 ≤ (IntKind.u64.wrap (x5)) then (if x16 < (shl .i64 1 (IntKind.u64.wrap (x5))) then ((laws_modelOf.f k x5 x16).bind fun t338 => ((impl_HoldsAll.f x5 x6 t338).bind fun bt341 => (if bt341.2 = true then ((laws_allIn.f k x7 t338).bind fun t343 => (if t343 = true then (if bt341.1 = true then (if x9 = true then (laws_FnAtOnce.j3 k x1 x5 x6 x7 x8 x9 x14 x16 t338 bt341.1 true) else ((laws_allIn.f k x8 t338).bind fun t344 => (laws_FnAtOnce.j3 k x1 x5 x6 x7 x8 x9 x14 x16 t338 bt341.1 (!t344)))) else (laws_FnAtOnce.j3 k x1 x5 x6 x7 x8 x9 x14 x16 t338 bt341.1 false)) else (laws_FnAtOnce.l0 k x1 x5 x6 x7 x8 x9 x14 (wrap64 (x16 + 1))))) else (none)))) else (laws_FnAtOnce.j4 k x1)) else (none)
def laws_FnAtOnce.j3 : Nat → List Int → Int → List (List Int) → List Int → List Int → Bool → List (List Int) → Int → List Bool → Bool → Bool → Option (Bool)
 | 0, _, _, _, _, _, _, _, _, _, _, _ => none
 | k + 1, x1, x5, x6, x7, x8, x9, x14, x16, x17, x18, x140 => if x140 = true then (none) else ((impl_HoldsAll.f x5 x14 x17).bind fun bt345 => (if bt345.2 = true then (if (bt345.1 != x18) = true then (none) else (laws_FnAtOnce.l0 k x1 x5 x6 x7 x8 x9 x14 (wrap64 (x16 + 1)))) else (none)))
end
def laws_FnAtOnce.f (k : Nat) (l0 : List Int) (l1 : List Int) : Option (Bool) := if (wrap64 ((l0.length : Int) + (l1.length : Int))) > 1048576 then (some true) else ((spec_DrawPropagate.f k l0).bind fun bt309 => ((impl_Propagate.f k bt309.1 bt309.2.1 bt309.2.2).bind fun bt316 => ((spec_Propagate.f k bt309.1 bt309.2.1 bt309.2.2).bind fun bt321 => (if (bt316.2.2 != bt321.2.2) = true then (laws_FnAtOnce.j0 k l1 bt309.1 bt309.2.1 bt309.2.2 bt316.1 bt316.2.1 bt316.2.2 true) else (if (bt316.2.1 != bt321.2.1) = true then (laws_FnAtOnce.j0 k l1 bt309.1 bt309.2.1 bt309.2.2 bt316.1 bt316.2.1 bt316.2.2 true) else ((laws_sameInts.f k bt316.1 bt321.1).bind fun t326 => (if t326 = true then ((impl_GoodClauses.f bt309.1 bt309.2.1).bind fun t327 => ((spec_GoodClauses.f k bt309.1 bt309.2.1).bind fun t328 => (laws_FnAtOnce.j0 k l1 bt309.1 bt309.2.1 bt309.2.2 bt316.1 bt316.2.1 bt316.2.2 (t327 != t328)))) else (laws_FnAtOnce.j0 k l1 bt309.1 bt309.2.1 bt309.2.2 bt316.1 bt316.2.1 bt316.2.2 true))))))))
theorem laws_FnAtOnce.mono_l : ∀ k, (∀ y0 y1 y2 y3 y4 y5 y6 y7, LeO (laws_FnAtOnce.j0 k y0 y1 y2 y3 y4 y5 y6 y7) (laws_FnAtOnce.j0 (k + 1) y0 y1 y2 y3 y4 y5 y6 y7)) ∧ (∀ y0, LeO (laws_FnAtOnce.j4 k y0) (laws_FnAtOnce.j4 (k + 1) y0)) ∧ (∀ y0 y1 y2 y3 y4 y5 y6 y7, LeO (laws_FnAtOnce.j1 k y0 y1 y2 y3 y4 y5 y6 y7) (laws_FnAtOnce.j1 (k + 1) y0 y1 y2 y3 y4 y5 y6 y7)) ∧ (∀ y0 y1 y2 y3 y4 y5 y6 y7, LeO (laws_FnAtOnce.l0 k y0 y1 y2 y3 y4 y5 y6 y7) (laws_FnAtOnce.l0 (k + 1) y0 y1 y2 y3 y4 y5 y6 y7)) ∧ (∀ y0 y1 y2 y3 y4 y5 y6 y7 y8 y9 y10, LeO (laws_FnAtOnce.j3 k y0 y1 y2 y3 y4 y5 y6 y7 y8 y9 y10) (laws_FnAtOnce.j3 (k + 1) y0 y1 y2 y3 y4 y5 y6 y7 y8 y9 y10))
 | 0 => ⟨fun _ _ _ _ _ _ _ _ r h => by simp [laws_FnAtOnce.j0] at h, fun _ r h => by simp [laws_FnAtOnce.j4] at h, fun _ _ _ _ _ _ _ _ r h => by simp [laws_FnAtOnce.j1] at h, fun _ _ _ _ _ _ _ _ r h => by simp [laws_FnAtOnce.l0] at h, fun _ _ _ _ _ _ _ _ _ _ _ r h => by simp [laws_FnAtOnce.j3] at h⟩
 | k + 1 => by
  obtain ⟨ih0, ih1, ih2, ih3, ih4⟩ := laws_FnAtOnce.mono_l k
  refine ⟨?_, ?_, ?_, ?_, ?_⟩
  ·intro y0 y1 y2 y3 y4 y5 y6 y7
   unfold laws_FnAtOnce.j0
   repeat' first
   | (with_reducible exact ih0 _ _ _ _ _ _ _ _)
   | (with_reducible exact ih1 _)
   | (with_reducible exact ih2 _ _ _ _ _ _ _ _)
   | (with_reducible exact ih3 _ _ _ _ _ _ _ _)
   | (with_reducible exact ih4 _ _ _ _ _ _ _ _ _ _ _)
   | (with_reducible exact impl_Propagate.mono _ _ _ _)
   | (with_reducible exact impl_Reduce.mono _ _ _ _)
   | (with_reducible exact laws_allIn.mono _ _ _)
   | (with_reducible exact laws_modelOf.mono _ _ _)
   | (with_reducible exact laws_sameInts.mono _ _ _)
   | (with_reducible exact laws_sameRows.mono _ _ _)
   | (with_reducible exact spec_DrawPropagate.mono _ _)
   | (with_reducible exact spec_DrawReduce.mono _ _)
   | (with_reducible exact spec_GoodClauses.mono _ _ _)
   | (with_reducible exact spec_Propagate.mono _ _ _ _)
   | (with_reducible exact spec_Reduce.mono _ _ _ _)
   | (with_reducible exact LeO.refl _)
   | (with_reducible exact LeO.none _)
   | (with_reducible refine LeO.ite ?_ ?_)
   | (with_reducible refine LeO.bind ?_ (fun _ => ?_))
   | exact ih0 _ _ _ _ _ _ _ _
   | exact ih1 _
   | exact ih2 _ _ _ _ _ _ _ _
   | exact ih3 _ _ _ _ _ _ _ _
   | exact ih4 _ _ _ _ _ _ _ _ _ _ _
   | exact impl_Propagate.mono _ _ _ _
   | exact impl_Reduce.mono _ _ _ _
   | exact laws_allIn.mono _ _ _
   | exact laws_modelOf.mono _ _ _
   | exact laws_sameInts.mono _ _ _
   | exact laws_sameRows.mono _ _ _
   | exact spec_DrawPropagate.mono _ _
   | exact spec_DrawReduce.mono _ _
   | exact spec_GoodClauses.mono _ _ _
   | exact spec_Propagate.mono _ _ _ _
   | exact spec_Reduce.mono _ _ _ _
   | exact LeO.none _
   | refine LeO.ite ?_ ?_
   | refine LeO.bind ?_ (fun _ => ?_)
  ·intro y0
   unfold laws_FnAtOnce.j4
   repeat' first
   | (with_reducible exact ih0 _ _ _ _ _ _ _ _)
   | (with_reducible exact ih1 _)
   | (with_reducible exact ih2 _ _ _ _ _ _ _ _)
   | (with_reducible exact ih3 _ _ _ _ _ _ _ _)
   | (with_reducible exact ih4 _ _ _ _ _ _ _ _ _ _ _)
   | (with_reducible exact impl_Propagate.mono _ _ _ _)
   | (with_reducible exact impl_Reduce.mono _ _ _ _)
   | (with_reducible exact laws_allIn.mono _ _ _)
   | (with_reducible exact laws_modelOf.mono _ _ _)
   | (with_reducible exact laws_sameInts.mono _ _ _)
   | (with_reducible exact laws_sameRows.mono _ _ _)
   | (with_reducible exact spec_DrawPropagate.mono _ _)
   | (with_reducible exact spec_DrawReduce.mono _ _)
   | (with_reducible exact spec_GoodClauses.mono _ _ _)
   | (with_reducible exact spec_Propagate.mono _ _ _ _)
   | (with_reducible exact spec_Reduce.mono _ _ _ _)
   | (with_reducible exact LeO.refl _)
   | (with_reducible exact LeO.none _)
   | (with_reducible refine LeO.ite ?_ ?_)
   | (with_reducible refine LeO.bind ?_ (fun _ => ?_))
   | exact ih0 _ _ _ _ _ _ _ _
   | exact ih1 _
   | exact ih2 _ _ _ _ _ _ _ _
   | exact ih3 _ _ _ _ _ _ _ _
   | exact ih4 _ _ _ _ _ _ _ _ _ _ _
   | exact impl_Propagate.mono _ _ _ _
   | exact impl_Reduce.mono _ _ _ _
   | exact laws_allIn.mono _ _ _
   | exact laws_modelOf.mono _ _ _
   | exact laws_sameInts.mono _ _ _
   | exact laws_sameRows.mono _ _ _
   | exact spec_DrawPropagate.mono _ _
   | exact spec_DrawReduce.mono _ _
   | exact spec_GoodClauses.mono _ _ _
   | exact spec_Propagate.mono _ _ _ _
   | exact spec_Reduce.mono _ _ _ _
   | exact LeO.none _
   | refine LeO.ite ?_ ?_
   | refine LeO.bind ?_ (fun _ => ?_)
  ·intro y0 y1 y2 y3 y4 y5 y6 y7
   unfold laws_FnAtOnce.j1
   repeat' first
   | (with_reducible exact ih0 _ _ _ _ _ _ _ _)
   | (with_reducible exact ih1 _)
   | (with_reducible exact ih2 _ _ _ _ _ _ _ _)
   | (with_reducible exact ih3 _ _ _ _ _ _ _ _)
   | (with_reducible exact ih4 _ _ _ _ _ _ _ _ _ _ _)
   | (with_reducible exact impl_Propagate.mono _ _ _ _)
   | (with_reducible exact impl_Reduce.mono _ _ _ _)
   | (with_reducible exact laws_allIn.mono _ _ _)
   | (with_reducible exact laws_modelOf.mono _ _ _)
   | (with_reducible exact laws_sameInts.mono _ _ _)
   | (with_reducible exact laws_sameRows.mono _ _ _)
   | (with_reducible exact spec_DrawPropagate.mono _ _)
   | (with_reducible exact spec_DrawReduce.mono _ _)
   | (with_reducible exact spec_GoodClauses.mono _ _ _)
   | (with_reducible exact spec_Propagate.mono _ _ _ _)
   | (with_reducible exact spec_Reduce.mono _ _ _ _)
   | (with_reducible exact LeO.refl _)
   | (with_reducible exact LeO.none _)
   | (with_reducible refine LeO.ite ?_ ?_)
   | (with_reducible refine LeO.bind ?_ (fun _ => ?_))
   | exact ih0 _ _ _ _ _ _ _ _
   | exact ih1 _
   | exact ih2 _ _ _ _ _ _ _ _
   | exact ih3 _ _ _ _ _ _ _ _
   | exact ih4 _ _ _ _ _ _ _ _ _ _ _
   | exact impl_Propagate.mono _ _ _ _
   | exact impl_Reduce.mono _ _ _ _
   | exact laws_allIn.mono _ _ _
   | exact laws_modelOf.mono _ _ _
   | exact laws_sameInts.mono _ _ _
   | exact laws_sameRows.mono _ _ _
   | exact spec_DrawPropagate.mono _ _
   | exact spec_DrawReduce.mono _ _
   | exact spec_GoodClauses.mono _ _ _
   | exact spec_Propagate.mono _ _ _ _
   | exact spec_Reduce.mono _ _ _ _
   | exact LeO.none _
   | refine LeO.ite ?_ ?_
   | refine LeO.bind ?_ (fun _ => ?_)
  ·intro y0 y1 y2 y3 y4 y5 y6 y7
   unfold laws_FnAtOnce.l0
   repeat' first
   | (with_reducible exact ih0 _ _ _ _ _ _ _ _)
   | (with_reducible exact ih1 _)
   | (with_reducible exact ih2 _ _ _ _ _ _ _ _)
   | (with_reducible exact ih3 _ _ _ _ _ _ _ _)
   | (with_reducible exact ih4 _ _ _ _ _ _ _ _ _ _ _)
   | (with_reducible exact impl_Propagate.mono _ _ _ _)
   | (with_reducible exact impl_Reduce.mono _ _ _ _)
   | (with_reducible exact laws_allIn.mono _ _ _)
   | (with_reducible exact laws_modelOf.mono _ _ _)
   | (with_reducible exact laws_sameInts.mono _ _ _)
   | (with_reducible exact laws_sameRows.mono _ _ _)
   | (with_reducible exact spec_DrawPropagate.mono _ _)
   | (with_reducible exact spec_DrawReduce.mono _ _)
   | (with_reducible exact spec_GoodClauses.mono _ _ _)
   | (with_reducible exact spec_Propagate.mono _ _ _ _)
   | (with_reducible exact spec_Reduce.mono _ _ _ _)
   | (with_reducible exact LeO.refl _)
   | (with_reducible exact LeO.none _)
   | (with_reducible refine LeO.ite ?_ ?_)
   | (with_reducible refine LeO.bind ?_ (fun _ => ?_))
   | exact ih0 _ _ _ _ _ _ _ _
   | exact ih1 _
   | exact ih2 _ _ _ _ _ _ _ _
   | exact ih3 _ _ _ _ _ _ _ _
   | exact ih4 _ _ _ _ _ _ _ _ _ _ _
   | exact impl_Propagate.mono _ _ _ _
   | exact impl_Reduce.mono _ _ _ _
   | exact laws_allIn.mono _ _ _
   | exact laws_modelOf.mono _ _ _
   | exact laws_sameInts.mono _ _ _
   | exact laws_sameRows.mono _ _ _
   | exact spec_DrawPropagate.mono _ _
   | exact spec_DrawReduce.mono _ _
   | exact spec_GoodClauses.mono _ _ _
   | exact spec_Propagate.mono _ _ _ _
   | exact spec_Reduce.mono _ _ _ _
   | exact LeO.none _
   | refine LeO.ite ?_ ?_
   | refine LeO.bind ?_ (fun _ => ?_)
  ·intro y0 y1 y2 y3 y4 y5 y6 y7 y8 y9 y10
   unfold laws_FnAtOnce.j3
   repeat' first
   | (with_reducible exact ih0 _ _ _ _ _ _ _ _)
   | (with_reducible exact ih1 _)
   | (with_reducible exact ih2 _ _ _ _ _ _ _ _)
   | (with_reducible exact ih3 _ _ _ _ _ _ _ _)
   | (with_reducible exact ih4 _ _ _ _ _ _ _ _ _ _ _)
   | (with_reducible exact impl_Propagate.mono _ _ _ _)
   | (with_reducible exact impl_Reduce.mono _ _ _ _)
   | (with_reducible exact laws_allIn.mono _ _ _)
   | (with_reducible exact laws_modelOf.mono _ _ _)
   | (with_reducible exact laws_sameInts.mono _ _ _)
   | (with_reducible exact laws_sameRows.mono _ _ _)
   | (with_reducible exact spec_DrawPropagate.mono _ _)
   | (with_reducible exact spec_DrawReduce.mono _ _)
   | (with_reducible exact spec_GoodClauses.mono _ _ _)
   | (with_reducible exact spec_Propagate.mono _ _ _ _)
   | (with_reducible exact spec_Reduce.mono _ _ _ _)
   | (with_reducible exact LeO.refl _)
   | (with_reducible exact LeO.none _)
   | (with_reducible refine LeO.ite ?_ ?_)
   | (with_reducible refine LeO.bind ?_ (fun _ => ?_))
   | exact ih0 _ _ _ _ _ _ _ _
   | exact ih1 _
   | exact ih2 _ _ _ _ _ _ _ _
   | exact ih3 _ _ _ _ _ _ _ _
   | exact ih4 _ _ _ _ _ _ _ _ _ _ _
   | exact impl_Propagate.mono _ _ _ _
   | exact impl_Reduce.mono _ _ _ _
   | exact laws_allIn.mono _ _ _
   | exact laws_modelOf.mono _ _ _
   | exact laws_sameInts.mono _ _ _
   | exact laws_sameRows.mono _ _ _
   | exact spec_DrawPropagate.mono _ _
   | exact spec_DrawReduce.mono _ _
   | exact spec_GoodClauses.mono _ _ _
   | exact spec_Propagate.mono _ _ _ _
   | exact spec_Reduce.mono _ _ _ _
   | exact LeO.none _
   | refine LeO.ite ?_ ?_
   | refine LeO.bind ?_ (fun _ => ?_)
theorem laws_FnAtOnce.mono : ∀ a0 a1 k, LeO (laws_FnAtOnce.f k a0 a1) (laws_FnAtOnce.f (k + 1) a0 a1) := by
 intro a0 a1 k
 obtain ⟨ih0, ih1, ih2, ih3, ih4⟩ := laws_FnAtOnce.mono_l k
 unfold laws_FnAtOnce.f
 repeat' first
   | (with_reducible exact ih0 _ _ _ _ _ _ _ _)
   | (with_reducible exact ih1 _)
   | (with_reducible exact ih2 _ _ _ _ _ _ _ _)
   | (with_reducible exact ih3 _ _ _ _ _ _ _ _)
   | (with_reducible exact ih4 _ _ _ _ _ _ _ _ _ _ _)
   | (with_reducible exact impl_Propagate.mono _ _ _ _)
   | (with_reducible exact impl_Reduce.mono _ _ _ _)
   | (with_reducible exact laws_allIn.mono _ _ _)
   | (with_reducible exact laws_modelOf.mono _ _ _)
   | (with_reducible exact laws_sameInts.mono _ _ _)
   | (with_reducible exact laws_sameRows.mono _ _ _)
   | (with_reducible exact spec_DrawPropagate.mono _ _)
   | (with_reducible exact spec_DrawReduce.mono _ _)
   | (with_reducible exact spec_GoodClauses.mono _ _ _)
   | (with_reducible exact spec_Propagate.mono _ _ _ _)
   | (with_reducible exact spec_Reduce.mono _ _ _ _)
   | (with_reducible exact LeO.refl _)
   | (with_reducible exact LeO.none _)
   | (with_reducible refine LeO.ite ?_ ?_)
   | (with_reducible refine LeO.bind ?_ (fun _ => ?_))
   | exact ih0 _ _ _ _ _ _ _ _
   | exact ih1 _
   | exact ih2 _ _ _ _ _ _ _ _
   | exact ih3 _ _ _ _ _ _ _ _
   | exact ih4 _ _ _ _ _ _ _ _ _ _ _
   | exact impl_Propagate.mono _ _ _ _
   | exact impl_Reduce.mono _ _ _ _
   | exact laws_allIn.mono _ _ _
   | exact laws_modelOf.mono _ _ _
   | exact laws_sameInts.mono _ _ _
   | exact laws_sameRows.mono _ _ _
   | exact spec_DrawPropagate.mono _ _
   | exact spec_DrawReduce.mono _ _
   | exact spec_GoodClauses.mono _ _ _
   | exact spec_Propagate.mono _ _ _ _
   | exact spec_Reduce.mono _ _ _ _
   | exact LeO.none _
   | refine LeO.ite ?_ ?_
   | refine LeO.bind ?_ (fun _ => ?_)
set_option maxHeartbeats 8000000 in
set_option maxRecDepth 100000 in
theorem laws_FnAtOnce.calls (k : Nat) (A0 : Option Addr) (c0 : Nat) (l0 : List Int) (A1 : Option Addr) (c1 : Nat) (l1 : List Int) (r : Bool) (w : World) (hr0 : Kd.C (Kd.int .u8) w A0 l0.length l0) (hc0 : l0.length ≤ c0) (hr1 : Kd.C (Kd.int .u8) w A1 l1.length l1) (hc1 : l1.length ≤ c1) (h : laws_FnAtOnce.f k l0 l1 = some r) :
  Calls Try.prog 4 #[.slice A0 l0.length c0, .slice A1 l1.length c1] w fun e w' => e = .returned (.bool r) ∧ Below w.heap.size w w' := by
 have HR0 := Aside0.mk hr0
 have HC0 := Aside0.mk hc0
 clear hr0 hc0
 have HR1 := Aside0.mk hr1
 have HC1 := Aside0.mk hc1
 clear hr1 hc1
 have HB := Aside0.mk (Below.refl w.heap.size w)
 have HTop := Aside0.mk (Nat.zero_le w.heap.size)
 have H : (if (wrap64 ((l0.length : Int) + (l1.length : Int))) > 1048576 then (some true) else ((spec_DrawPropagate.f k l0).bind fun bt309 => ((impl_Propagate.f k bt309.1 bt309.2.1 bt309.2.2).bind fun bt316 => ((spec_Propagate.f k bt309.1 bt309.2.1 bt309.2.2).bind fun bt321 => (if (bt316.2.2 != bt321.2.2) = true then (laws_FnAtOnce.j0 k l1 bt309.1 bt309.2.1 bt309.2.2 bt316.1 bt316.2.1 bt316.2.2 true) else (if (bt316.2.1 != bt321.2.1) = true then (laws_FnAtOnce.j0 k l1 bt309.1 bt309.2.1 bt309.2.2 bt316.1 bt316.2.1 bt316.2.2 true) else ((laws_sameInts.f k bt316.1 bt321.1).bind fun t326 => (if t326 = true then ((impl_GoodClauses.f bt309.1 bt309.2.1).bind fun t327 => ((spec_GoodClauses.f k bt309.1 bt309.2.1).bind fun t328 => (laws_FnAtOnce.j0 k l1 bt309.1 bt309.2.1 bt309.2.2 bt316.1 bt316.2.1 bt316.2.2 (t327 != t328)))) else (laws_FnAtOnce.j0 k l1 bt309.1 bt309.2.1 bt309.2.2 bt316.1 bt316.2.1 bt316.2.2 true))))))))) = some r := h
 clear h
 by_cases c3 : (wrap64 ((l0.length : Int) + (l1.length : Int))) > 1048576
 ·rw [if_pos c3] at H
  have c3b0 : decide (1048576 < (wrap64 ((l0.length : Int) + (l1.length : Int)))) = true := decide_eq_true c3
  clear c3
  obtain rfl := Option.some.inj H
  go_enter Try.func4, Try.ntmps4
  go_wp2
  go_ret
  exact ⟨by first | rfl | (simp [errW_none, errW_some] <;> rfl) | (simp [*, errW_none, errW_some] <;> rfl), zb_ HB.out⟩
 ·rw [if_neg c3] at H
  have c3b0 : decide (1048576 < (wrap64 ((l0.length : Int) + (l1.length : Int)))) = false := decide_eq_false c3
  clear c3
  replace H := Option.bind_eq_some_iff.mp H
  obtain ⟨⟨t309, t310, t311⟩, A40, H⟩ := H
  (try dsimp only at H)
  have A4 := Aside0.mk A40
  clear A40
  replace H := Option.bind_eq_some_iff.mp H
  obtain ⟨⟨t316, t317, t318⟩, A50, H⟩ := H
  (try dsimp only at H)
  have A5 := Aside0.mk A50
  clear A50
  replace H := Option.bind_eq_some_iff.mp H
  obtain ⟨⟨t321, t322, t323⟩, A60, H⟩ := H
  (try dsimp only at H)
  have A6 := Aside0.mk A60
  clear A60
  have HC7 := Aside0.mk H
  clear H
  go_enter Try.func4, Try.ntmps4
  go_upto_region 6 with (first | ((with_reducible refine gate_callee (f := 23) rfl ?_); refine goesL_ (some 37) rfl rfl Try.func23 (by kernel_rfl) rfl #[.slice A0 l0.length c0] rfl (by (try simp only [List.map_toArray, List.map_cons, List.map_nil]); first | done | rfl | (simp only [List.length_drop, List.length_take]; rfl)) ?_; (with_reducible refine (spec_DrawPropagate.calls k _ _ l0 t309 t310 t311 _ ?side1 ?side2 A4.out).mono ?_); (case side1 => exact zC_ HR0.out); (case side2 => exact HC0.out); rintro e w8 ⟨v312, v314, rfl, ho0, ho1, hb⟩; refine ⟨_, rfl, ?_⟩; obtain ⟨lo1, hi1, EL1, EH1, LE1⟩ := iv_ hb; have OR1 := Aside0.mk (show 0 ≤ lo1 ∧ lo1 ≤ hi1 from ⟨Nat.zero_le _, LE1⟩); have n0_ := Aside0.mk (Kd.S_mono (ok' := fun k_ => lo1 ≤ k_ ∧ k_ < hi1) (Kd.S_lower (Kd.S_bound ho0) (below_size (zb_ HB.out))) (fun k_ hk_ => by have a_ := hk_.2.1; have b_ := hk_.2.2.1; omega)); have n1_ := Aside0.mk (Kd.R_mono (ok' := fun k_ => lo1 ≤ k_ ∧ k_ < hi1) (Kd.R_lower (Kd.R_bound ho1) (below_size (zb_ HB.out))) (fun k_ hk_ => by have a_ := hk_.2.1; have b_ := hk_.2.2.1; omega)); have n2_ := Aside0.mk (Nat.le_of_eq EH1.symm); have n3_ := Aside0.mk (below_step (zb_ HB.out) hb); clear HTop; clear HB; have HO313 := n0_; have HO315 := n1_; have HTop := n2_; have HB := n3_; clear n0_ n1_ n2_ n3_; (try clear hb); (try clear hb2); (try clear hk); (try clear hi); (try clear ho0); (try clear ho1); (try clear EL1); (try clear EH1); (try clear LE1); obtain ⟨Ao9, co9, eo9⟩ := Kd.S_slice HO313.out; subst eo9; obtain ⟨Ao10, co10, eo10⟩ := Kd.R_slice HO315.out; subst eo10) | ((with_reducible refine gate_callee (f := 24) rfl ?_); refine goesL_ (some 45) rfl rfl Try.func24 (by kernel_rfl) rfl #[.int .i64 t309, .slice Ao9 t310.length co9, .slice Ao10 t311.length co10] rfl (by (try simp only [List.map_toArray, List.map_cons, List.map_nil]); first | done | rfl | (simp only [List.length_drop, List.length_take]; rfl)) ?_; (with_reducible refine (impl_Propagate.calls k t309 _ _ t310 _ _ t311 t316 t317 t318 _ ?side1 ?side2 ?side3 ?side4 A5.out).mono ?_); (case side1 => exact zC_ (Kd.S_reads' HO313.out).2.2); (case side2 => exact (Kd.S_reads' HO313.out).2.1); (case side3 => exact zC_ (Kd.R_reads' HO315.out).2.2); (case side4 => exact (Kd.R_reads' HO315.out).2.1); rintro e w11 ⟨v319, rfl, ho0, hb⟩; refine ⟨_, rfl, ?_⟩; obtain ⟨lo2, hi2, EL2, EH2, LE2⟩ := iv_ hb; have OR2 := Aside0.mk (show hi1 ≤ lo2 ∧ lo2 ≤ hi2 from ⟨Nat.le_trans HTop.out (Nat.le_of_eq EL2), LE2⟩); have n0_ := Aside0.mk (Kd.S_below (zS_ HO313.out) hb); have n1_ := Aside0.mk (Kd.R_below (zR_ HO315.out) hb); have n2_ := Aside0.mk (Kd.R_mono (ok' := fun k_ => lo2 ≤ k_ ∧ k_ < hi2) (Kd.R_lower (Kd.R_bound ho0) (below_size (zb_ HB.out))) (fun k_ hk_ => by have a_ := hk_.2.1; have b_ := hk_.2.2.1; omega)); have n3_ := Aside0.mk (Nat.le_of_eq EH2.symm); have n4_ := Aside0.mk (below_step (zb_ HB.out) hb); clear HO313; clear HO315; clear HTop; clear HB; have HO313 := n0_; have HO315 := n1_; have HO320 := n2_; have HTop := n3_; have HB := n4_; clear n0_ n1_ n2_ n3_ n4_; (try clear hb); (try clear hb2); (try clear hk); (try clear hi); (try clear ho0); (try clear EL2); (try clear EH2); (try clear LE2)) | ((with_reducible refine gate_callee (f := 25) rfl ?_); refine goesL_ (some 53) rfl rfl Try.func25 (by kernel_rfl) rfl #[.int .i64 t309, .slice Ao9 t310.length co9, .slice Ao10 t311.length co10] rfl (by (try simp only [List.map_toArray, List.map_cons, List.map_nil]); first | done | rfl | (simp only [List.length_drop, List.length_take]; rfl)) ?_; (with_reducible refine (spec_Propagate.calls k t309 _ _ t310 _ _ t311 t321 t322 t323 _ ?side1 ?side2 ?side3 ?side4 A6.out).mono ?_); (case side1 => exact zC_ (Kd.S_reads' HO313.out).2.2); (case side2 => exact (Kd.S_reads' HO313.out).2.1); (case side3 => exact zC_ (Kd.R_reads' HO315.out).2.2); (case side4 => exact (Kd.R_reads' HO315.out).2.1); rintro e w12 ⟨v324, rfl, ho0, hb⟩; refine ⟨_, rfl, ?_⟩; obtain ⟨lo3, hi3, EL3, EH3, LE3⟩ := iv_ hb; have OR3 := Aside0.mk (show hi2 ≤ lo3 ∧ lo3 ≤ hi3 from ⟨Nat.le_trans HTop.out (Nat.le_of_eq EL3), LE3⟩); have n0_ := Aside0.mk (Kd.S_below (zS_ HO313.out) hb); have n1_ := Aside0.mk (Kd.R_below (zR_ HO315.out) hb); have n2_ := Aside0.mk (Kd.R_below (zR_ HO320.out) hb); have n3_ := Aside0.mk (Kd.R_mono (ok' := fun k_ => lo3 ≤ k_ ∧ k_ < hi3) (Kd.R_lower (Kd.R_bound ho0) (below_size (zb_ HB.out))) (fun k_ hk_ => by have a_ := hk_.2.1; have b_ := hk_.2.2.1; omega)); have n4_ := Aside0.mk (Nat.le_of_eq EH3.symm); have n5_ := Aside0.mk (below_step (zb_ HB.out) hb); clear HO313; clear HO315; clear HO320; clear HTop; clear HB; have HO313 := n0_; have HO315 := n1_; have HO320 := n2_; have HO325 := n3_; have HTop := n4_; have HB := n5_; clear n0_ n1_ n2_ n3_ n4_ n5_; (try clear hb); (try clear hb2); (try clear hk); (try clear hi); (try clear ho0); (try clear EL3); (try clear EH3); (try clear LE3)))
  (try simp only [Act.put, List.setIfInBounds_toArray, List.set_cons_zero, List.set_cons_succ])
  go_cut [79] (fun v79 wc => ∃ (kq : Nat) (x79_6 : Bool), v79 = .bool x79_6 ∧ Aside0 (laws_FnAtOnce.j0 kq l1 t309 t310 t311 t316 t317 t318 x79_6 = some r) ∧ Aside0 (kq ≤ k) ∧ Aside0 (Kd.S (Kd.slice 3 (Kd.int .i64)) 24 wc w.heap.size (fun _ => True) (.slice Ao9 t310.length co9) t310) ∧ Aside0 (Kd.R (Kd.int .i64) 3 wc w.heap.size (fun _ => True) (.slice Ao10 t311.length co10) t311) ∧ Aside0 (Kd.R (Kd.int .i64) 3 wc w.heap.size (fun _ => True) v319 t316) ∧ Aside0 (Below w.heap.size w wc))
  case first =>
   have H := HC7.out
   clear HC7
   by_cases c13 : (t318 != t323) = true
   ·rw [if_pos c13] at H
    have c13b0 : (t318 != t323) = true := c13
    (try (have c13b1 : decide (t318 = t323) = false := by simpa using c13))
    (try (have c13b2 : (t318 == t323) = false := by simpa using c13))
    (try (have c13b3 : ¬ (t318 = t323) := by simpa using c13))
    clear c13
    (first | rw [c13b0] | (simp only [i64_w, i32_w]; rw [c13b0]) | skip)
    have H' := Aside0.mk H
    clear H
    go_wp2
    go_meet
    case rel => exact ⟨_, (true), (by first | rfl | (simp; done) | (simp [*]; done)), H', ⟨by first | omega | exact Nat.le_refl _⟩, ⟨Kd.S_mono (zS_ HO313.out) (fun _ _ => trivial)⟩, ⟨Kd.R_mono (zR_ HO315.out) (fun _ _ => trivial)⟩, ⟨Kd.R_mono (zR_ HO320.out) (fun _ _ => trivial)⟩, ⟨zb_ HB.out⟩⟩
   ·rw [if_neg c13] at H
    have c13b0 : (t318 != t323) = false := by simpa using c13
    (try (have c13b1 : decide (t318 = t323) = true := by simpa using c13))
    (try (have c13b2 : (t318 == t323) = true := by simpa using c13))
    clear c13
    (first | rw [c13b0] | (simp only [i64_w, i32_w]; rw [c13b0]) | skip)
    by_cases c14 : (t317 != t322) = true
    ·rw [if_pos c14] at H
     have c14b0 : (t317 != t322) = true := c14
     (try (have c14b1 : decide (t317 = t322) = false := by simpa using c14))
     (try (have c14b2 : (t317 == t322) = false := by simpa using c14))
     (try (have c14b3 : ¬ (t317 = t322) := by simpa using c14))
     clear c14
     have H' := Aside0.mk H
     clear H
     go_wp2
     go_meet
     case rel => exact ⟨_, (true), (by first | rfl | (simp; done) | (simp [*]; done)), H', ⟨by first | omega | exact Nat.le_refl _⟩, ⟨Kd.S_mono (zS_ HO313.out) (fun _ _ => trivial)⟩, ⟨Kd.R_mono (zR_ HO315.out) (fun _ _ => trivial)⟩, ⟨Kd.R_mono (zR_ HO320.out) (fun _ _ => trivial)⟩, ⟨zb_ HB.out⟩⟩
    ·rw [if_neg c14] at H
     have c14b0 : (t317 != t322) = false := by simpa using c14
     (try (have c14b1 : decide (t317 = t322) = true := by simpa using c14))
     (try (have c14b2 : (t317 == t322) = true := by simpa using c14))
     clear c14
     replace H := Option.bind_eq_some_iff.mp H
     obtain ⟨t326, A150, H⟩ := H
     (try dsimp only at H)
     have A15 := Aside0.mk A150
     clear A150
     by_cases c16 : t326 = true
     ·subst c16
      have H1 : ((impl_GoodClauses.f t309 t310).bind fun t327 => ((spec_GoodClauses.f k t309 t310).bind fun t328 => (laws_FnAtOnce.j0 k l1 t309 t310 t311 t316 t317 t318 (t327 != t328)))) = some r := by rw [if_pos rfl] at H; exact H
      clear H
      have H := H1
      clear H1
      replace H := Option.bind_eq_some_iff.mp H
      obtain ⟨t327, A170, H⟩ := H
      (try dsimp only at H)
      have A17 := Aside0.mk A170
      clear A170
      replace H := Option.bind_eq_some_iff.mp H
      obtain ⟨t328, A180, H⟩ := H
      (try dsimp only at H)
      have A18 := Aside0.mk A180
      clear A180
      have H' := Aside0.mk H
      clear H
      obtain ⟨Ao19, co19, eo19⟩ := Kd.R_slice HO320.out
      subst eo19
      obtain ⟨Ao20, co20, eo20⟩ := Kd.R_slice HO325.out
      subst eo20
      go_wp2_with (first | (go_at_call 20; (with_reducible refine (laws_sameInts.calls k _ _ t316 _ _ t321 true _ ?side1 ?side2 ?side3 ?side4 A15.out).mono ?_); (case side1 => exact zC_ (Kd.R_reads' HO320.out).2.2); (case side2 => exact (Kd.R_reads' HO320.out).2.1); (case side3 => exact zC_ (Kd.R_reads' HO325.out).2.2); (case side4 => exact (Kd.R_reads' HO325.out).2.1); rintro e w' ⟨rfl, ⟨nd, rfl⟩⟩) | (go_at_call 26; (with_reducible refine (impl_GoodClauses.calls t309 _ _ t310 t327 _ ?side1 ?side2 A17.out).mono ?_); (case side1 => exact zC_ (Kd.S_reads' HO313.out).2.2); (case side2 => exact (Kd.S_reads' HO313.out).2.1); rintro e w21 ⟨rfl, hb⟩; obtain ⟨lo1, hi1, EL1, EH1, LE1⟩ := iv_ hb; have OR1 := Aside0.mk (show 0 ≤ lo1 ∧ lo1 ≤ hi1 from ⟨Nat.zero_le _, LE1⟩); have n0_ := Aside0.mk (Kd.S_below (zS_ HO313.out) hb); have n1_ := Aside0.mk (Kd.R_below (zR_ HO315.out) hb); have n2_ := Aside0.mk (Kd.R_below (zR_ HO320.out) hb); have n3_ := Aside0.mk (Kd.R_below (zR_ HO325.out) hb); have n4_ := Aside0.mk (Nat.le_of_eq EH1.symm); have n5_ := Aside0.mk (below_step (zb_ HB.out) hb); clear HO313; clear HO315; clear HO320; clear HO325; clear HTop; clear HB; have HO313 := n0_; have HO315 := n1_; have HO320 := n2_; have HO325 := n3_; have HTop := n4_; have HB := n5_; clear n0_ n1_ n2_ n3_ n4_ n5_; (try clear hb); (try clear hb2); (try clear hk); (try clear hi); (try clear EL1); (try clear EH1); (try clear LE1)) | (go_at_call 27; (with_reducible refine (spec_GoodClauses.calls k t309 _ _ t310 t328 _ ?side1 ?side2 A18.out).mono ?_); (case side1 => exact zC_ (Kd.S_reads' HO313.out).2.2); (case side2 => exact (Kd.S_reads' HO313.out).2.1); rintro e w' ⟨rfl, ⟨nd, rfl⟩⟩))
      go_meet
      case rel => exact ⟨_, ((t327 != t328)), (by first | rfl | (simp; done) | (simp [*]; done)), H', ⟨by first | omega | exact Nat.le_refl _⟩, ⟨Kd.S_mono (zS_ HO313.out) (fun _ _ => trivial)⟩, ⟨Kd.R_mono (zR_ HO315.out) (fun _ _ => trivial)⟩, ⟨Kd.R_mono (zR_ HO320.out) (fun _ _ => trivial)⟩, ⟨zb_ HB.out⟩⟩
     ·replace c16 := Bool.eq_false_iff.mpr c16
      subst c16
      have H1 : (laws_FnAtOnce.j0 k l1 t309 t310 t311 t316 t317 t318 true) = some r := by rw [if_neg (show ¬ (false = true) by decide)] at H; exact H
      clear H
      have H := H1
      clear H1
      have H' := Aside0.mk H
      clear H
      obtain ⟨Ao22, co22, eo22⟩ := Kd.R_slice HO320.out
      subst eo22
      obtain ⟨Ao23, co23, eo23⟩ := Kd.R_slice HO325.out
      subst eo23
      go_wp2_with (first | (go_at_call 20; (with_reducible refine (laws_sameInts.calls k _ _ t316 _ _ t321 false _ ?side1 ?side2 ?side3 ?side4 A15.out).mono ?_); (case side1 => exact zC_ (Kd.R_reads' HO320.out).2.2); (case side2 => exact (Kd.R_reads' HO320.out).2.1); (case side3 => exact zC_ (Kd.R_reads' HO325.out).2.2); (case side4 => exact (Kd.R_reads' HO325.out).2.1); rintro e w' ⟨rfl, ⟨nd, rfl⟩⟩))
      go_meet
      case rel => exact ⟨_, (true), (by first | rfl | (simp; done) | (simp [*]; done)), H', ⟨by first | omega | exact Nat.le_refl _⟩, ⟨Kd.S_mono (zS_ HO313.out) (fun _ _ => trivial)⟩, ⟨Kd.R_mono (zR_ HO315.out) (fun _ _ => trivial)⟩, ⟨Kd.R_mono (zR_ HO320.out) (fun _ _ => trivial)⟩, ⟨zb_ HB.out⟩⟩
  case rest =>
   clear HC7
   try clear c1
   try clear c2
   try clear p2
   try clear c3
   try clear c3b0
   try clear c4
   try clear p6
   try clear c13
   try clear c13b0
   try clear c13b1
   try clear c13b2
   try clear c14
   try clear c14b0
   try clear c14b1
   try clear c14b2
   try clear c16
   try clear c23
   obtain ⟨kq, x79_6, rfl, HA, HJ6, HO_6, HO_7, HO_8, HB⟩ := hcut
   cases kq with
   | zero => exact absurd HA.out (by simp [laws_FnAtOnce.j0])
   | succ kj6 =>
    have H := HA.out
    clear HA
    simp only [laws_FnAtOnce.j0] at H
    by_cases c24 : x79_6 = true
    ·subst c24
     have H1 : (none) = some r := by rw [if_pos rfl] at H; exact H
     clear H
     have H := H1
     clear H1
     exact absurd H (by simp)
    ·replace c24 := Bool.eq_false_iff.mpr c24
     subst c24
     have H1 : (if t318 = true then ((impl_Reduce.f kj6 t309 t310 t311).bind fun bt329 => (if bt329.2 = true then (if (t316.length : Int) < (t311.length : Int) then (laws_FnAtOnce.j1 kj6 l1 t309 t310 t311 t316 t317 bt329.1 true) else (if 0 ≤ (t311.length : Int) then (if (t311.length : Int) ≤ (t316.length : Int) then ((laws_sameInts.f kj6 (t316.take ((t311.length : Int) : Int).toNat) t311).bind fun t337 => (laws_FnAtOnce.j1 kj6 l1 t309 t310 t311 t316 t317 bt329.1 (!t337))) else (none)) else (none))) else (laws_FnAtOnce.j1 kj6 l1 t309 t310 t311 t316 t317 bt329.1 true))) else (laws_FnAtOnce.j4 kj6 l1)) = some r := by rw [if_neg (show ¬ (false = true) by decide)] at H; exact H
     clear H
     have H := H1
     clear H1
     have HC25 := Aside0.mk H
     clear H
     go_upto_if 80 with (fail)
     go_cut [] (fun wc => ∃ (kq : Nat), Aside0 (laws_FnAtOnce.j4 kq l1 = some r) ∧ Aside0 (kq ≤ kj6) ∧ Aside0 (Below w.heap.size w wc))
     case first =>
      have H := HC25.out
      clear HC25
      by_cases c26 : t318 = true
      ·subst c26
       have H1 : ((impl_Reduce.f kj6 t309 t310 t311).bind fun bt329 => (if bt329.2 = true then (if (t316.length : Int) < (t311.length : Int) then (laws_FnAtOnce.j1 kj6 l1 t309 t310 t311 t316 t317 bt329.1 true) else (if 0 ≤ (t311.length : Int) then (if (t311.length : Int) ≤ (t316.length : Int) then ((laws_sameInts.f kj6 (t316.take ((t311.length : Int) : Int).toNat) t311).bind fun t337 => (laws_FnAtOnce.j1 kj6 l1 t309 t310 t311 t316 t317 bt329.1 (!t337))) else (none)) else (none))) else (laws_FnAtOnce.j1 kj6 l1 t309 t310 t311 t316 t317 bt329.1 true))) = some r := by rw [if_pos rfl] at H; exact H
       clear H
       have H := H1
       clear H1
       replace H := Option.bind_eq_some_iff.mp H
       obtain ⟨⟨t329, t330⟩, A270, H⟩ := H
       (try dsimp only at H)
       have A27 := Aside0.mk A270
       clear A270
       have HC28 := Aside0.mk H
       clear H
       go_upto_region 10 with (first | ((with_reducible refine gate_callee (f := 28) rfl ?_); refine goesL_ (some 85) rfl rfl Try.func28 (by kernel_rfl) rfl #[.int .i64 t309, .slice Ao9 t310.length co9, .slice Ao10 t311.length co10] rfl (by (try simp only [List.map_toArray, List.map_cons, List.map_nil]); first | done | rfl | (simp only [List.length_drop, List.length_take]; rfl)) ?_; (with_reducible refine (impl_Reduce.calls kj6 t309 _ _ t310 _ _ t311 t329 t330 _ ?side1 ?side2 ?side3 ?side4 A27.out).mono ?_); (case side1 => exact zC_ (Kd.S_reads' HO_6.out).2.2); (case side2 => exact (Kd.S_reads' HO_6.out).2.1); (case side3 => exact zC_ (Kd.R_reads' HO_7.out).2.2); (case side4 => exact (Kd.R_reads' HO_7.out).2.1); rintro e w29 ⟨v331, rfl, ho0, hb⟩; refine ⟨_, rfl, ?_⟩; obtain ⟨lo1, hi1, EL1, EH1, LE1⟩ := iv_ hb; have OR1 := Aside0.mk (show 0 ≤ lo1 ∧ lo1 ≤ hi1 from ⟨Nat.zero_le _, LE1⟩); have n0_ := Aside0.mk (Kd.S_below (zS_ HO_6.out) hb); have n1_ := Aside0.mk (Kd.R_below (zR_ HO_7.out) hb); have n2_ := Aside0.mk (Kd.R_below (zR_ HO_8.out) hb); have n3_ := Aside0.mk (Kd.S_mono (ok' := fun k_ => lo1 ≤ k_ ∧ k_ < hi1) (Kd.S_lower (Kd.S_bound ho0) (below_size (zb_ HB.out))) (fun k_ hk_ => by have a_ := hk_.2.1; have b_ := hk_.2.2.1; omega)); have n4_ := Aside0.mk (Nat.le_of_eq EH1.symm); have n5_ := Aside0.mk (below_step (zb_ HB.out) hb); clear HO_6; clear HO_7; clear HO_8; clear HTop; clear HB; have HO_6 := n0_; have HO_7 := n1_; have HO_8 := n2_; have HO332 := n3_; have HTop := n4_; have HB := n5_; clear n0_ n1_ n2_ n3_ n4_ n5_; (try clear hb); (try clear hb2); (try clear hk); (try clear hi); (try clear ho0); (try clear EL1); (try clear EH1); (try clear LE1)))
       (try simp only [Act.put, List.setIfInBounds_toArray, List.set_cons_zero, List.set_cons_succ])
       go_cut [105] (fun v105 wc => ∃ (kq : Nat) (x105_27 : Bool), v105 = .bool x105_27 ∧ Aside0 (laws_FnAtOnce.j1 kq l1 t309 t310 t311 t316 t317 t329 x105_27 = some r) ∧ Aside0 (kq ≤ kj6) ∧ Aside0 (Kd.S (Kd.slice 3 (Kd.int .i64)) 24 wc w.heap.size (fun _ => True) (.slice Ao9 t310.length co9) t310) ∧ Aside0 (Kd.R (Kd.int .i64) 3 wc w.heap.size (fun _ => True) (.slice Ao10 t311.length co10) t311) ∧ Aside0 (Kd.R (Kd.int .i64) 3 wc w.heap.size (fun _ => True) v319 t316) ∧ Aside0 (Kd.S (Kd.slice 3 (Kd.int .i64)) 24 wc w.heap.size (fun _ => True) v331 t329) ∧ Aside0 (Below w.heap.size w wc))
       case first =>
        have H := HC28.out
        clear HC28
        by_cases c30 : t330 = true
        ·subst c30
         have H1 : (if (t316.length : Int) < (t311.length : Int) then (laws_FnAtOnce.j1 kj6 l1 t309 t310 t311 t316 t317 t329 true) else (if 0 ≤ (t311.length : Int) then (if (t311.length : Int) ≤ (t316.length : Int) then ((laws_sameInts.f kj6 (t316.take ((t311.length : Int) : Int).toNat) t311).bind fun t337 => (laws_FnAtOnce.j1 kj6 l1 t309 t310 t311 t316 t317 t329 (!t337))) else (none)) else (none))) = some r := by rw [if_pos rfl] at H; exact H
         clear H
         have H := H1
         clear H1
         by_cases c31 : (t316.length : Int) < (t311.length : Int)
         ·rw [if_pos c31] at H
          have c31b0 : decide ((t316.length : Int) < (t311.length : Int)) = true := decide_eq_true c31
          have c31b1 : decide (t316.length < t311.length) = true := decide_eq_true (Int.ofNat_lt.mp c31)
          clear c31
          (first | rw [c31b0] | (simp only [i64_w, i32_w]; rw [c31b0]) | skip)
          have H' := Aside0.mk H
          clear H
          obtain ⟨Ao32, co32, eo32⟩ := Kd.R_slice HO_8.out
          subst eo32
          go_wp2
          go_meet
          case rel => exact ⟨_, (true), (by first | rfl | (simp; done) | (simp [*]; done)), H', ⟨by have := HJ6.out; first | omega | exact Nat.le_refl _⟩, ⟨Kd.S_mono (zS_ HO_6.out) (fun _ _ => trivial)⟩, ⟨Kd.R_mono (zR_ HO_7.out) (fun _ _ => trivial)⟩, ⟨Kd.R_mono (zR_ HO_8.out) (fun _ _ => trivial)⟩, ⟨Kd.S_mono (zS_ HO332.out) (fun _ _ => trivial)⟩, ⟨zb_ HB.out⟩⟩
         ·rw [if_neg c31] at H
          have c31b0 : decide ((t316.length : Int) < (t311.length : Int)) = false := decide_eq_false c31
          have c31b1 : decide (t316.length < t311.length) = false := decide_eq_false (fun h => c31 (Int.ofNat_lt.mpr h))
          clear c31
          (first | rw [c31b0] | (simp only [i64_w, i32_w]; rw [c31b0]) | skip)
          by_cases c33 : 0 ≤ (t311.length : Int)
          ·rw [if_pos c33] at H
           have c33b0 := eq_true c33
           have c33b1 : decide (0 ≤ (t311.length : Int)) = true := decide_eq_true c33
           clear c33
           by_cases c34 : (t311.length : Int) ≤ (t316.length : Int)
           ·rw [if_pos c34] at H
            have c34b0 := eq_true c34
            have c34b1 : decide ((t311.length : Int) ≤ (t316.length : Int)) = true := decide_eq_true c34
            clear c34
            obtain ⟨y333, hy333⟩ : ∃ y_ : List Int, y_ = (t316.take ((t311.length : Int) : Int).toNat) := ⟨_, rfl⟩
            replace H : ((laws_sameInts.f kj6 y333 t311).bind fun t337 => (laws_FnAtOnce.j1 kj6 l1 t309 t310 t311 t316 t317 t329 (!t337))) = some r := by first | (rw [hy333]; with_reducible exact H) | (have H2_ := (Option.bind_some _ _).symm.trans H; rw [hy333]; with_reducible exact H2_) | (have H2_ := (Option.bind_some _ _).symm.trans H; with_reducible exact H2_) | with_reducible exact H | (rw [hy333]; exact H) | exact H
            have Ny333 := Aside0.mk hy333
            clear hy333
            replace H := Option.bind_eq_some_iff.mp H
            obtain ⟨t337, A350, H⟩ := H
            (try dsimp only at H)
            have A35 := Aside0.mk A350
            clear A350
            have H' := Aside0.mk H
            clear H
            obtain ⟨Ao36, co36, eo36⟩ := Kd.R_slice HO_8.out
            subst eo36
            have q37 : ((t311.length : Int) : Int) ≤ ((t316.length : Int) : Int) := of_decide_eq_true (by first | (with_reducible assumption) | assumption)
            obtain ⟨i037, hi037, _, hsz37, _⟩ := info_parts info3
            have hroom37 : t316.length ≤ co36 := (Kd.R_reads' HO_8.out).2.1
            have hC37 : Kd.C (Kd.int .i64) _ Ao36 t316.length t316 := (Kd.R_reads' HO_8.out).2.2
            have hcut37 := cut_to (P := Try.prog) 24 3 .i64 Try.underlying24 hi037 Ao36 t316.length co36 (t311.length : Int) (of_decide_eq_true (by first | (with_reducible assumption) | assumption)) q37 hroom37
            have hr37 := Kd.C_take (m := ((t311.length : Int) : Int).toNat) hC37 (by omega)
            have hy37 : y333.length = ((t311.length : Int) : Int).toNat := (by rw [Ny333.out, List.length_take]; omega)
            rw [← Ny333.out] at hr37
            rw [← hy37] at hcut37
            have HR336 := Aside0.mk hr37
            have HC336 := Aside0.mk (show y333.length ≤ co36 from by omega)
            clear hr37 hC37 hroom37 hi037 hsz37
            have KY37 := Aside0.mk hy37
            clear hy37
            have KL37 := Aside0.mk (show ((t311.length : Int) : Int).toNat ≤ t316.length from by omega)
            replace q37 := eq_true q37
            go_wp2_with (first | (go_at_call 20; (with_reducible refine (laws_sameInts.calls kj6 _ _ y333 _ _ t311 t337 _ ?side1 ?side2 ?side3 ?side4 A35.out).mono ?_); (case side1 => repeat (first | exact (by repeat (first | (with_reducible exact HR336.out) | (with_reducible refine Kd.C_alloc ?_ _) | (with_reducible refine Kd.C_drewN ?_ _) | (with_reducible refine Kd.C_drew ?_) | exact HR336.out)) | (with_reducible refine Kd.C_alloc ?_ _) | (with_reducible refine Kd.C_drewN ?_ _) | (with_reducible refine Kd.C_drew ?_))); (case side2 => exact HC336.out); (case side3 => exact zC_ (Kd.R_reads' HO_7.out).2.2); (case side4 => exact (Kd.R_reads' HO_7.out).2.1); rintro e w' ⟨rfl, ⟨nd, rfl⟩⟩))
            go_meet
            case rel => exact ⟨_, (!t337), (by first | rfl | (simp; done) | (simp [*]; done)), H', ⟨by have := HJ6.out; first | omega | exact Nat.le_refl _⟩, ⟨Kd.S_mono (zS_ HO_6.out) (fun _ _ => trivial)⟩, ⟨Kd.R_mono (zR_ HO_7.out) (fun _ _ => trivial)⟩, ⟨Kd.R_mono (zR_ HO_8.out) (fun _ _ => trivial)⟩, ⟨Kd.S_mono (zS_ HO332.out) (fun _ _ => trivial)⟩, ⟨zb_ HB.out⟩⟩
           ·rw [if_neg c34] at H
            exact absurd H (by simp)
          ·rw [if_neg c33] at H
           exact absurd H (by simp)
        ·replace c30 := Bool.eq_false_iff.mpr c30
         subst c30
         have H1 : (laws_FnAtOnce.j1 kj6 l1 t309 t310 t311 t316 t317 t329 true) = some r := by rw [if_neg (show ¬ (false = true) by decide)] at H; exact H
         clear H
         have H := H1
         clear H1
         have H' := Aside0.mk H
         clear H
         go_wp2
         go_meet
         case rel => exact ⟨_, (true), (by first | rfl | (simp; done) | (simp [*]; done)), H', ⟨by have := HJ6.out; first | omega | exact Nat.le_refl _⟩, ⟨Kd.S_mono (zS_ HO_6.out) (fun _ _ => trivial)⟩, ⟨Kd.R_mono (zR_ HO_7.out) (fun _ _ => trivial)⟩, ⟨Kd.R_mono (zR_ HO_8.out) (fun _ _ => trivial)⟩, ⟨Kd.S_mono (zS_ HO332.out) (fun _ _ => trivial)⟩, ⟨zb_ HB.out⟩⟩
       case rest =>
        clear HC28
        try clear c1
        try clear c2
        try clear p2
        try clear c3
        try clear c3b0
        try clear q3
        try clear c4
        try clear p6
        try clear c13
        try clear c13b0
        try clear c13b1
        try clear c13b2
        try clear c14
        try clear c14b0
        try clear c14b1
        try clear c14b2
        try clear c16
        try clear c23
        try clear c24
        try clear c25
        try clear c26
        try clear c28
        try clear c30
        try clear c31
        try clear c31b0
        try clear c31b1
        try clear c33
        try clear c33b0
        try clear c33b1
        try clear c34
        try clear c34b0
        try clear c34b1
        try clear q37
        try clear p2
        try clear p6
        try clear q37
        obtain ⟨kq, x105_27, rfl, HA, HJ27, HO_6, HO_7, HO_8, HO_14, HB⟩ := hcut
        cases kq with
        | zero => exact absurd HA.out (by simp [laws_FnAtOnce.j1])
        | succ kj27 =>
         have H := HA.out
         clear HA
         simp only [laws_FnAtOnce.j1] at H
         by_cases c38 : x105_27 = true
         ·subst c38
          have H1 : (none) = some r := by rw [if_pos rfl] at H; exact H
          clear H
          have H := H1
          clear H1
          exact absurd H (by simp)
         ·replace c38 := Bool.eq_false_iff.mpr c38
          subst c38
          have H1 : (if t309 ≤ 8 then (laws_FnAtOnce.l0 kj27 l1 t309 t310 t311 t316 t317 t329 0) else (laws_FnAtOnce.j4 kj27 l1)) = some r := by rw [if_neg (show ¬ (false = true) by decide)] at H; exact H
          clear H
          have H := H1
          clear H1
          by_cases c39 : t309 ≤ 8
          ·rw [if_pos c39] at H
           have c39b0 : decide (t309 ≤ 8) = true := decide_eq_true c39
           clear c39
           have H' := Aside0.mk H
           clear H
           go_wp2
           go_loopg [16] kj27 (fun kq v16 w' => ∃ (x16_3 : Int), v16 = .int .i64 x16_3 ∧ Aside0 (laws_FnAtOnce.l0 kq l1 t309 t310 t311 t316 t317 t329 x16_3 = some r) ∧ Aside0 (kq ≤ kj27) ∧ Aside0 (Kd.S (Kd.slice 3 (Kd.int .i64)) 24 w' w.heap.size (fun _ => True) (.slice Ao9 t310.length co9) t310) ∧ Aside0 (Kd.R (Kd.int .i64) 3 w' w.heap.size (fun _ => True) (.slice Ao10 t311.length co10) t311) ∧ Aside0 (Kd.R (Kd.int .i64) 3 w' w.heap.size (fun _ => True) v319 t316) ∧ Aside0 (Kd.S (Kd.slice 3 (Kd.int .i64)) 24 w' w.heap.size (fun _ => True) v331 t329) ∧ Aside0 (Below w.heap.size w w'))
           case atStart => exact ⟨(0), (by first | rfl | (simp; done) | (simp [*]; done)), H', ⟨Nat.le_refl _⟩, ⟨Kd.S_mono (zS_ HO_6.out) (fun _ _ => trivial)⟩, ⟨Kd.R_mono (zR_ HO_7.out) (fun _ _ => trivial)⟩, ⟨Kd.R_mono (zR_ HO_8.out) (fun _ _ => trivial)⟩, ⟨Kd.S_mono (zS_ HO_14.out) (fun _ _ => trivial)⟩, ⟨zb_ HB.out⟩⟩
           case round =>
            clear H'
            try clear c1
            try clear c2
            try clear p2
            try clear c3
            try clear c3b0
            try clear q3
            try clear c4
            try clear p6
            try clear c13
            try clear c13b0
            try clear c13b1
            try clear c13b2
            try clear c14
            try clear c14b0
            try clear c14b1
            try clear c14b2
            try clear c16
            try clear c23
            try clear c24
            try clear c25
            try clear c26
            try clear c28
            try clear c30
            try clear c31
            try clear c31b0
            try clear c31b1
            try clear c33
            try clear c33b0
            try clear c33b1
            try clear c34
            try clear c34b0
            try clear c34b1
            try clear q37
            try clear c38
            try clear c39
            try clear c39b0
            try clear p2
            try clear p6
            try clear q3
            try clear q37
            obtain ⟨x16_3, rfl, HA, HK3, HO_6, HO_7, HO_8, HO_14, HB⟩ := hrel
            cases gk with
            | zero => exact absurd HA.out (by simp [laws_FnAtOnce.l0])
            | succ k3 =>
             have H := HA.out
             clear HA
             simp only [laws_FnAtOnce.l0] at H
             obtain ⟨ji40, hji40⟩ : ∃ j_ : Int, (IntKind.u64.wrap (t309)) = j_ := ⟨_, rfl⟩
             replace H : (if 0 ≤ (ji40) then (if x16_3 < (shl .i64 1 (ji40)) then ((laws_modelOf.f k3 t309 x16_3).bind fun t338 => ((impl_HoldsAll.f t309 t310 t338).bind fun bt341 => (if bt341.2 = true then ((laws_allIn.f k3 t311 t338).bind fun t343 => (if t343 = true then (if bt341.1 = true then (if t317 = true then (laws_FnAtOnce.j3 k3 l1 t309 t310 t311 t316 t317 t329 x16_3 t338 bt341.1 true) else ((laws_allIn.f k3 t316 t338).bind fun t344 => (laws_FnAtOnce.j3 k3 l1 t309 t310 t311 t316 t317 t329 x16_3 t338 bt341.1 (!t344)))) else (laws_FnAtOnce.j3 k3 l1 t309 t310 t311 t316 t317 t329 x16_3 t338 bt341.1 false)) else (laws_FnAtOnce.l0 k3 l1 t309 t310 t311 t316 t317 t329 (wrap64 (x16_3 + 1))))) else (none)))) else (laws_FnAtOnce.j4 k3 l1)) else (none)) = some r := by first | (rw [hji40] at H; exact H) | (simp only [hji40] at H ⊢; exact H)
             by_cases c41 : 0 ≤ (ji40)
             ·rw [if_pos c41] at H
              have c41b0 := eq_true c41
              have c41b1 : decide (0 ≤ (ji40)) = true := decide_eq_true c41
              clear c41
              obtain ⟨ji42, hji42⟩ : ∃ j_ : Int, (shl .i64 1 (ji40)) = j_ := ⟨_, rfl⟩
              replace H : (if x16_3 < (ji42) then ((laws_modelOf.f k3 t309 x16_3).bind fun t338 => ((impl_HoldsAll.f t309 t310 t338).bind fun bt341 => (if bt341.2 = true then ((laws_allIn.f k3 t311 t338).bind fun t343 => (if t343 = true then (if bt341.1 = true then (if t317 = true then (laws_FnAtOnce.j3 k3 l1 t309 t310 t311 t316 t317 t329 x16_3 t338 bt341.1 true) else ((laws_allIn.f k3 t316 t338).bind fun t344 => (laws_FnAtOnce.j3 k3 l1 t309 t310 t311 t316 t317 t329 x16_3 t338 bt341.1 (!t344)))) else (laws_FnAtOnce.j3 k3 l1 t309 t310 t311 t316 t317 t329 x16_3 t338 bt341.1 false)) else (laws_FnAtOnce.l0 k3 l1 t309 t310 t311 t316 t317 t329 (wrap64 (x16_3 + 1))))) else (none)))) else (laws_FnAtOnce.j4 k3 l1)) = some r := by first | (rw [hji42] at H; exact H) | (simp only [hji42] at H ⊢; exact H)
              have hji42_ : (IntKind.i64.wrap (1 * 2 ^ min (ji40).toNat 64)) = ji42 := hji42
              have hji42z : (ji40) ≤ 64 → (IntKind.i64.wrap (1 * 2 ^ (ji40).toNat)) = ji42 := shl_small hji42
              have hji42u : (IntKind.i64.wrap (2 ^ min (ji40).toNat 64)) = ji42 := by have h_ := hji42_; rw [Int.one_mul] at h_; exact h_
              have hji42v : (ji40) ≤ 64 → (IntKind.i64.wrap (2 ^ (ji40).toNat)) = ji42 := fun hle_ => by have h_ := hji42z hle_; rw [Int.one_mul] at h_; exact h_
              have hji42y : (wrap64 (1 * 2 ^ min (ji40).toNat 64)) = ji42 := (i64_w _).symm.trans hji42_
              have hji42x : (ji40) ≤ 64 → (wrap64 (1 * 2 ^ (ji40).toNat)) = ji42 := fun h_ => (i64_w _).symm.trans (hji42z h_)
              by_cases c43 : x16_3 < (ji42)
              ·rw [if_pos c43] at H
               have c43b0 : decide (x16_3 < (ji42)) = true := decide_eq_true c43
               clear c43
               replace H := Option.bind_eq_some_iff.mp H
               obtain ⟨t338, A440, H⟩ := H
               (try dsimp only at H)
               have A44 := Aside0.mk A440
               clear A440
               replace H := Option.bind_eq_some_iff.mp H
               obtain ⟨⟨t341, t342⟩, A450, H⟩ := H
               (try dsimp only at H)
               have A45 := Aside0.mk A450
               clear A450
               by_cases c46 : t342 = true
               ·subst c46
                have H1 : ((laws_allIn.f k3 t311 t338).bind fun t343 => (if t343 = true then (if t341 = true then (if t317 = true then (laws_FnAtOnce.j3 k3 l1 t309 t310 t311 t316 t317 t329 x16_3 t338 t341 true) else ((laws_allIn.f k3 t316 t338).bind fun t344 => (laws_FnAtOnce.j3 k3 l1 t309 t310 t311 t316 t317 t329 x16_3 t338 t341 (!t344)))) else (laws_FnAtOnce.j3 k3 l1 t309 t310 t311 t316 t317 t329 x16_3 t338 t341 false)) else (laws_FnAtOnce.l0 k3 l1 t309 t310 t311 t316 t317 t329 (wrap64 (x16_3 + 1))))) = some r := by rw [if_pos rfl] at H; exact H
                clear H
                have H := H1
                clear H1
                replace H := Option.bind_eq_some_iff.mp H
                obtain ⟨t343, A470, H⟩ := H
                (try dsimp only at H)
                have A47 := Aside0.mk A470
                clear A470
                by_cases c48 : t343 = true
                ·subst c48
                 have H1 : (if t341 = true then (if t317 = true then (laws_FnAtOnce.j3 k3 l1 t309 t310 t311 t316 t317 t329 x16_3 t338 t341 true) else ((laws_allIn.f k3 t316 t338).bind fun t344 => (laws_FnAtOnce.j3 k3 l1 t309 t310 t311 t316 t317 t329 x16_3 t338 t341 (!t344)))) else (laws_FnAtOnce.j3 k3 l1 t309 t310 t311 t316 t317 t329 x16_3 t338 t341 false)) = some r := by rw [if_pos rfl] at H; exact H
                 clear H
                 have H := H1
                 clear H1
                 have HC49 := Aside0.mk H
                 clear H
                 go_upto_region 21 with (first | ((with_reducible refine gate_callee (f := 29) rfl ?_); refine goesL_ (some 117) rfl rfl Try.func29 (by kernel_rfl) rfl #[.int .i64 t309, .int .i64 x16_3] rfl (by (try simp only [List.map_toArray, List.map_cons, List.map_nil]); first | done | rfl | (simp only [List.length_drop, List.length_take]; rfl)) ?_; (with_reducible refine (laws_modelOf.calls k3 t309 x16_3 t338 _ A44.out).mono ?_); rintro e w50 ⟨v339, rfl, ho0, hb⟩; refine ⟨_, rfl, ?_⟩; obtain ⟨lo1, hi1, EL1, EH1, LE1⟩ := iv_ hb; have OR1 := Aside0.mk (show 0 ≤ lo1 ∧ lo1 ≤ hi1 from ⟨Nat.zero_le _, LE1⟩); have n0_ := Aside0.mk (Kd.S_below (zS_ HO_6.out) hb); have n1_ := Aside0.mk (Kd.R_below (zR_ HO_7.out) hb); have n2_ := Aside0.mk (Kd.R_below (zR_ HO_8.out) hb); have n3_ := Aside0.mk (Kd.S_below (zS_ HO_14.out) hb); have n4_ := Aside0.mk (Kd.R_mono (ok' := fun k_ => lo1 ≤ k_ ∧ k_ < hi1) (Kd.R_lower (Kd.R_bound ho0) (below_size (zb_ HB.out))) (fun k_ hk_ => by have a_ := hk_.2.1; have b_ := hk_.2.2.1; omega)); have n5_ := Aside0.mk (Nat.le_of_eq EH1.symm); have n6_ := Aside0.mk (below_step (zb_ HB.out) hb); clear HO_6; clear HO_7; clear HO_8; clear HO_14; clear HTop; clear HB; have HO_6 := n0_; have HO_7 := n1_; have HO_8 := n2_; have HO_14 := n3_; have HO340 := n4_; have HTop := n5_; have HB := n6_; clear n0_ n1_ n2_ n3_ n4_ n5_ n6_; (try clear hb); (try clear hb2); (try clear hk); (try clear hi); (try clear ho0); (try clear EL1); (try clear EH1); (try clear LE1); obtain ⟨Ao51, co51, eo51⟩ := Kd.R_slice HO340.out; subst eo51) | ((with_reducible refine gate_callee (f := 30) rfl ?_); refine goesL_ (some 122) rfl rfl Try.func30 (by kernel_rfl) rfl #[.int .i64 t309, .slice Ao9 t310.length co9, .slice Ao51 t338.length co51] rfl (by (try simp only [List.map_toArray, List.map_cons, List.map_nil]); first | done | rfl | (simp only [List.length_drop, List.length_take]; rfl)) ?_; (with_reducible refine (impl_HoldsAll.calls t309 _ _ t310 _ _ t338 t341 true _ ?side1 ?side2 ?side3 ?side4 A45.out).mono ?_); (case side1 => exact zC_ (Kd.S_reads' HO_6.out).2.2); (case side2 => exact (Kd.S_reads' HO_6.out).2.1); (case side3 => exact zC_ (Kd.R_reads' HO340.out).2.2); (case side4 => exact (Kd.R_reads' HO340.out).2.1); rintro e w52 ⟨rfl, hb⟩; refine ⟨_, rfl, ?_⟩; obtain ⟨lo2, hi2, EL2, EH2, LE2⟩ := iv_ hb; have OR2 := Aside0.mk (show hi1 ≤ lo2 ∧ lo2 ≤ hi2 from ⟨Nat.le_trans HTop.out (Nat.le_of_eq EL2), LE2⟩); have n0_ := Aside0.mk (Kd.S_below (zS_ HO_6.out) hb); have n1_ := Aside0.mk (Kd.R_below (zR_ HO_7.out) hb); have n2_ := Aside0.mk (Kd.R_below (zR_ HO_8.out) hb); have n3_ := Aside0.mk (Kd.S_below (zS_ HO_14.out) hb); have n4_ := Aside0.mk (Kd.R_below (zR_ HO340.out) hb); have n5_ := Aside0.mk (Nat.le_of_eq EH2.symm); have n6_ := Aside0.mk (below_step (zb_ HB.out) hb); clear HO_6; clear HO_7; clear HO_8; clear HO_14; clear HO340; clear HTop; clear HB; have HO_6 := n0_; have HO_7 := n1_; have HO_8 := n2_; have HO_14 := n3_; have HO340 := n4_; have HTop := n5_; have HB := n6_; clear n0_ n1_ n2_ n3_ n4_ n5_ n6_; (try clear hb); (try clear hb2); (try clear hk); (try clear hi); (try clear EL2); (try clear EH2); (try clear LE2)) | ((with_reducible refine gate_callee (f := 31) rfl ?_); refine goesL_ (some 129) rfl rfl Try.func31 (by kernel_rfl) rfl #[.slice Ao10 t311.length co10, .slice Ao51 t338.length co51] rfl (by (try simp only [List.map_toArray, List.map_cons, List.map_nil]); first | done | rfl | (simp only [List.length_drop, List.length_take]; rfl)) ?_; (with_reducible refine (laws_allIn.calls k3 _ _ t311 _ _ t338 true _ ?side1 ?side2 ?side3 ?side4 A47.out).mono ?_); (case side1 => exact zC_ (Kd.R_reads' HO_7.out).2.2); (case side2 => exact (Kd.R_reads' HO_7.out).2.1); (case side3 => exact zC_ (Kd.R_reads' HO340.out).2.2); (case side4 => exact (Kd.R_reads' HO340.out).2.1); rintro e w' ⟨rfl, ⟨nd, rfl⟩⟩; refine ⟨_, rfl, ?_⟩))
                 (try simp only [Act.put, List.setIfInBounds_toArray, List.set_cons_zero, List.set_cons_succ])
                 go_cut [140] (fun v140 wc => ∃ (kq : Nat) (x140_48 : Bool), v140 = .bool x140_48 ∧ Aside0 (laws_FnAtOnce.j3 kq l1 t309 t310 t311 t316 t317 t329 x16_3 t338 t341 x140_48 = some r) ∧ Aside0 (kq ≤ k3) ∧ Aside0 (Kd.S (Kd.slice 3 (Kd.int .i64)) 24 wc w.heap.size (fun _ => True) (.slice Ao9 t310.length co9) t310) ∧ Aside0 (Kd.R (Kd.int .i64) 3 wc w.heap.size (fun _ => True) (.slice Ao10 t311.length co10) t311) ∧ Aside0 (Kd.R (Kd.int .i64) 3 wc w.heap.size (fun _ => True) v319 t316) ∧ Aside0 (Kd.S (Kd.slice 3 (Kd.int .i64)) 24 wc w.heap.size (fun _ => True) v331 t329) ∧ Aside0 (Kd.R Kd.bool 4 wc w.heap.size (fun _ => True) (.slice Ao51 t338.length co51) t338) ∧ Aside0 (Below w.heap.size w wc))
                 case first =>
                  have H := HC49.out
                  clear HC49
                  by_cases c53 : t341 = true
                  ·subst c53
                   have H1 : (if t317 = true then (laws_FnAtOnce.j3 k3 l1 t309 t310 t311 t316 t317 t329 x16_3 t338 true true) else ((laws_allIn.f k3 t316 t338).bind fun t344 => (laws_FnAtOnce.j3 k3 l1 t309 t310 t311 t316 t317 t329 x16_3 t338 true (!t344)))) = some r := by rw [if_pos rfl] at H; exact H
                   clear H
                   have H := H1
                   clear H1
                   by_cases c54 : t317 = true
                   ·subst c54
                    have H1 : (laws_FnAtOnce.j3 k3 l1 t309 t310 t311 t316 true t329 x16_3 t338 true true) = some r := by rw [if_pos rfl] at H; exact H
                    clear H
                    have H := H1
                    clear H1
                    have H' := Aside0.mk H
                    clear H
                    go_wp2
                    go_meet
                    case rel => exact ⟨_, (true), (by first | rfl | (simp; done) | (simp [*]; done)), H', ⟨by have := HJ6.out; have := HJ27.out; have := HK3.out; first | omega | exact Nat.le_refl _⟩, ⟨Kd.S_mono (zS_ HO_6.out) (fun _ _ => trivial)⟩, ⟨Kd.R_mono (zR_ HO_7.out) (fun _ _ => trivial)⟩, ⟨Kd.R_mono (zR_ HO_8.out) (fun _ _ => trivial)⟩, ⟨Kd.S_mono (zS_ HO_14.out) (fun _ _ => trivial)⟩, ⟨Kd.R_mono (zR_ HO340.out) (fun _ _ => trivial)⟩, ⟨zb_ HB.out⟩⟩
                   ·replace c54 := Bool.eq_false_iff.mpr c54
                    subst c54
                    have H1 : ((laws_allIn.f k3 t316 t338).bind fun t344 => (laws_FnAtOnce.j3 k3 l1 t309 t310 t311 t316 false t329 x16_3 t338 true (!t344))) = some r := by rw [if_neg (show ¬ (false = true) by decide)] at H; exact H
                    clear H
                    have H := H1
                    clear H1
                    replace H := Option.bind_eq_some_iff.mp H
                    obtain ⟨t344, A550, H⟩ := H
                    (try dsimp only at H)
                    have A55 := Aside0.mk A550
                    clear A550
                    have H' := Aside0.mk H
                    clear H
                    obtain ⟨Ao56, co56, eo56⟩ := Kd.R_slice HO_8.out
                    subst eo56
                    go_wp2_with (first | (go_at_call 31; (with_reducible refine (laws_allIn.calls k3 _ _ t316 _ _ t338 t344 _ ?side1 ?side2 ?side3 ?side4 A55.out).mono ?_); (case side1 => exact zC_ (Kd.R_reads' HO_8.out).2.2); (case side2 => exact (Kd.R_reads' HO_8.out).2.1); (case side3 => exact zC_ (Kd.R_reads' HO340.out).2.2); (case side4 => exact (Kd.R_reads' HO340.out).2.1); rintro e w' ⟨rfl, ⟨nd, rfl⟩⟩))
                    go_meet
                    case rel => exact ⟨_, (!t344), (by first | rfl | (simp; done) | (simp [*]; done)), H', ⟨by have := HJ6.out; have := HJ27.out; have := HK3.out; first | omega | exact Nat.le_refl _⟩, ⟨Kd.S_mono (zS_ HO_6.out) (fun _ _ => trivial)⟩, ⟨Kd.R_mono (zR_ HO_7.out) (fun _ _ => trivial)⟩, ⟨Kd.R_mono (zR_ HO_8.out) (fun _ _ => trivial)⟩, ⟨Kd.S_mono (zS_ HO_14.out) (fun _ _ => trivial)⟩, ⟨Kd.R_mono (zR_ HO340.out) (fun _ _ => trivial)⟩, ⟨zb_ HB.out⟩⟩
                  ·replace c53 := Bool.eq_false_iff.mpr c53
                   subst c53
                   have H1 : (laws_FnAtOnce.j3 k3 l1 t309 t310 t311 t316 t317 t329 x16_3 t338 false false) = some r := by rw [if_neg (show ¬ (false = true) by decide)] at H; exact H
                   clear H
                   have H := H1
                   clear H1
                   have H' := Aside0.mk H
                   clear H
                   go_wp2
                   go_meet
                   case rel => exact ⟨_, (false), (by first | rfl | (simp; done) | (simp [*]; done)), H', ⟨by have := HJ6.out; have := HJ27.out; have := HK3.out; first | omega | exact Nat.le_refl _⟩, ⟨Kd.S_mono (zS_ HO_6.out) (fun _ _ => trivial)⟩, ⟨Kd.R_mono (zR_ HO_7.out) (fun _ _ => trivial)⟩, ⟨Kd.R_mono (zR_ HO_8.out) (fun _ _ => trivial)⟩, ⟨Kd.S_mono (zS_ HO_14.out) (fun _ _ => trivial)⟩, ⟨Kd.R_mono (zR_ HO340.out) (fun _ _ => trivial)⟩, ⟨zb_ HB.out⟩⟩
                 case rest =>
                  clear HC49
                  try clear c1
                  try clear c2
                  try clear p2
                  try clear c3
                  try clear c3b0
                  try clear q3
                  try clear c4
                  try clear c5
                  try clear p6
                  try clear c13
                  try clear c13b0
                  try clear c13b1
                  try clear c13b2
                  try clear c14
                  try clear c14b0
                  try clear c14b1
                  try clear c14b2
                  try clear c16
                  try clear c23
                  try clear c24
                  try clear c25
                  try clear c26
                  try clear c28
                  try clear c29
                  try clear c30
                  try clear c31
                  try clear c31b0
                  try clear c31b1
                  try clear c33
                  try clear c33b0
                  try clear c33b1
                  try clear c34
                  try clear c34b0
                  try clear c34b1
                  try clear q37
                  try clear c38
                  try clear c39
                  try clear c39b0
                  try clear c41
                  try clear c41b0
                  try clear c41b1
                  try clear c43
                  try clear c43b0
                  try clear c46
                  try clear c48
                  try clear c53
                  try clear c54
                  try clear p2
                  try clear p6
                  try clear q3
                  try clear q37
                  obtain ⟨kq, x140_48, rfl, HA, HJ48, HO_6, HO_7, HO_8, HO_14, HO_17, HB⟩ := hcut
                  cases kq with
                  | zero => exact absurd HA.out (by simp [laws_FnAtOnce.j3])
                  | succ kj48 =>
                   have H := HA.out
                   clear HA
                   simp only [laws_FnAtOnce.j3] at H
                   by_cases c57 : x140_48 = true
                   ·subst c57
                    have H1 : (none) = some r := by rw [if_pos rfl] at H; exact H
                    clear H
                    have H := H1
                    clear H1
                    exact absurd H (by simp)
                   ·replace c57 := Bool.eq_false_iff.mpr c57
                    subst c57
                    have H1 : ((impl_HoldsAll.f t309 t329 t338).bind fun bt345 => (if bt345.2 = true then (if (bt345.1 != t341) = true then (none) else (laws_FnAtOnce.l0 kj48 l1 t309 t310 t311 t316 t317 t329 (wrap64 (x16_3 + 1)))) else (none))) = some r := by rw [if_neg (show ¬ (false = true) by decide)] at H; exact H
                    clear H
                    have H := H1
                    clear H1
                    replace H := Option.bind_eq_some_iff.mp H
                    obtain ⟨⟨t345, t346⟩, A580, H⟩ := H
                    (try dsimp only at H)
                    have A58 := Aside0.mk A580
                    clear A580
                    by_cases c59 : t346 = true
                    ·subst c59
                     have H1 : (if (t345 != t341) = true then (none) else (laws_FnAtOnce.l0 kj48 l1 t309 t310 t311 t316 t317 t329 (wrap64 (x16_3 + 1)))) = some r := by rw [if_pos rfl] at H; exact H
                     clear H
                     have H := H1
                     clear H1
                     by_cases c60 : (t345 != t341) = true
                     ·rw [if_pos c60] at H
                      exact absurd H (by simp)
                     ·rw [if_neg c60] at H
                      have c60b0 : (t345 != t341) = false := by simpa using c60
                      (try (have c60b1 : decide (t345 = t341) = true := by simpa using c60))
                      (try (have c60b2 : (t345 == t341) = true := by simpa using c60))
                      clear c60
                      have H' := Aside0.mk H
                      clear H
                      obtain ⟨Ao61, co61, eo61⟩ := Kd.S_slice HO_14.out
                      subst eo61
                      go_wp2_with (first | ((with_reducible refine gate_callee (f := 30) rfl ?_); refine goesL_ (some 145) rfl rfl Try.func30 (by kernel_rfl) rfl #[.int .i64 t309, .slice Ao61 t329.length co61, .slice Ao51 t338.length co51] rfl (by (try simp only [List.map_toArray, List.map_cons, List.map_nil]); first | done | rfl | (simp only [List.length_drop, List.length_take]; rfl)) ?_; (with_reducible refine (impl_HoldsAll.calls t309 _ _ t329 _ _ t338 t345 true _ ?side1 ?side2 ?side3 ?side4 A58.out).mono ?_); (case side1 => exact zC_ (Kd.S_reads' HO_14.out).2.2); (case side2 => exact (Kd.S_reads' HO_14.out).2.1); (case side3 => exact zC_ (Kd.R_reads' HO_17.out).2.2); (case side4 => exact (Kd.R_reads' HO_17.out).2.1); rintro e w62 ⟨rfl, hb⟩; refine ⟨_, rfl, ?_⟩; obtain ⟨lo1, hi1, EL1, EH1, LE1⟩ := iv_ hb; have OR1 := Aside0.mk (show 0 ≤ lo1 ∧ lo1 ≤ hi1 from ⟨Nat.zero_le _, LE1⟩); have n0_ := Aside0.mk (Kd.S_below (zS_ HO_6.out) hb); have n1_ := Aside0.mk (Kd.R_below (zR_ HO_7.out) hb); have n2_ := Aside0.mk (Kd.R_below (zR_ HO_8.out) hb); have n3_ := Aside0.mk (Kd.S_below (zS_ HO_14.out) hb); have n4_ := Aside0.mk (Kd.R_below (zR_ HO_17.out) hb); have n5_ := Aside0.mk (Nat.le_of_eq EH1.symm); have n6_ := Aside0.mk (below_step (zb_ HB.out) hb); clear HO_6; clear HO_7; clear HO_8; clear HO_14; clear HO_17; clear HTop; clear HB; have HO_6 := n0_; have HO_7 := n1_; have HO_8 := n2_; have HO_14 := n3_; have HO_17 := n4_; have HTop := n5_; have HB := n6_; clear n0_ n1_ n2_ n3_ n4_ n5_ n6_; (try clear hb); (try clear hb2); (try clear hk); (try clear hi); (try clear EL1); (try clear EH1); (try clear LE1)))
                      go_roundg kj48
                      case measure => have := HJ6.out; have := HJ27.out; have := HK3.out; have := HJ48.out; omega
                      case rel => exact ⟨(wrap64 (x16_3 + 1)), (by first | rfl | (simp; done) | (simp [*]; done)), H', ⟨by have := HJ6.out; have := HJ27.out; have := HK3.out; have := HJ48.out; omega⟩, ⟨Kd.S_mono (zS_ HO_6.out) (fun _ _ => trivial)⟩, ⟨Kd.R_mono (zR_ HO_7.out) (fun _ _ => trivial)⟩, ⟨Kd.R_mono (zR_ HO_8.out) (fun _ _ => trivial)⟩, ⟨Kd.S_mono (zS_ HO_14.out) (fun _ _ => trivial)⟩, ⟨zb_ HB.out⟩⟩
                    ·replace c59 := Bool.eq_false_iff.mpr c59
                     subst c59
                     have H1 : (none) = some r := by rw [if_neg (show ¬ (false = true) by decide)] at H; exact H
                     clear H
                     have H := H1
                     clear H1
                     exact absurd H (by simp)
                ·replace c48 := Bool.eq_false_iff.mpr c48
                 subst c48
                 have H1 : (laws_FnAtOnce.l0 k3 l1 t309 t310 t311 t316 t317 t329 (wrap64 (x16_3 + 1))) = some r := by rw [if_neg (show ¬ (false = true) by decide)] at H; exact H
                 clear H
                 have H := H1
                 clear H1
                 have H' := Aside0.mk H
                 clear H
                 go_wp2_with (first | ((with_reducible refine gate_callee (f := 29) rfl ?_); refine goesL_ (some 117) rfl rfl Try.func29 (by kernel_rfl) rfl #[.int .i64 t309, .int .i64 x16_3] rfl (by (try simp only [List.map_toArray, List.map_cons, List.map_nil]); first | done | rfl | (simp only [List.length_drop, List.length_take]; rfl)) ?_; (with_reducible refine (laws_modelOf.calls k3 t309 x16_3 t338 _ A44.out).mono ?_); rintro e w63 ⟨v339, rfl, ho0, hb⟩; refine ⟨_, rfl, ?_⟩; obtain ⟨lo1, hi1, EL1, EH1, LE1⟩ := iv_ hb; have OR1 := Aside0.mk (show 0 ≤ lo1 ∧ lo1 ≤ hi1 from ⟨Nat.zero_le _, LE1⟩); have n0_ := Aside0.mk (Kd.S_below (zS_ HO_6.out) hb); have n1_ := Aside0.mk (Kd.R_below (zR_ HO_7.out) hb); have n2_ := Aside0.mk (Kd.R_below (zR_ HO_8.out) hb); have n3_ := Aside0.mk (Kd.S_below (zS_ HO_14.out) hb); have n4_ := Aside0.mk (Kd.R_mono (ok' := fun k_ => lo1 ≤ k_ ∧ k_ < hi1) (Kd.R_lower (Kd.R_bound ho0) (below_size (zb_ HB.out))) (fun k_ hk_ => by have a_ := hk_.2.1; have b_ := hk_.2.2.1; omega)); have n5_ := Aside0.mk (Nat.le_of_eq EH1.symm); have n6_ := Aside0.mk (below_step (zb_ HB.out) hb); clear HO_6; clear HO_7; clear HO_8; clear HO_14; clear HTop; clear HB; have HO_6 := n0_; have HO_7 := n1_; have HO_8 := n2_; have HO_14 := n3_; have HO340 := n4_; have HTop := n5_; have HB := n6_; clear n0_ n1_ n2_ n3_ n4_ n5_ n6_; (try clear hb); (try clear hb2); (try clear hk); (try clear hi); (try clear ho0); (try clear EL1); (try clear EH1); (try clear LE1); obtain ⟨Ao64, co64, eo64⟩ := Kd.R_slice HO340.out; subst eo64) | ((with_reducible refine gate_callee (f := 30) rfl ?_); refine goesL_ (some 122) rfl rfl Try.func30 (by kernel_rfl) rfl #[.int .i64 t309, .slice Ao9 t310.length co9, .slice Ao64 t338.length co64] rfl (by (try simp only [List.map_toArray, List.map_cons, List.map_nil]); first | done | rfl | (simp only [List.length_drop, List.length_take]; rfl)) ?_; (with_reducible refine (impl_HoldsAll.calls t309 _ _ t310 _ _ t338 t341 true _ ?side1 ?side2 ?side3 ?side4 A45.out).mono ?_); (case side1 => exact zC_ (Kd.S_reads' HO_6.out).2.2); (case side2 => exact (Kd.S_reads' HO_6.out).2.1); (case side3 => exact zC_ (Kd.R_reads' HO340.out).2.2); (case side4 => exact (Kd.R_reads' HO340.out).2.1); rintro e w65 ⟨rfl, hb⟩; refine ⟨_, rfl, ?_⟩; obtain ⟨lo2, hi2, EL2, EH2, LE2⟩ := iv_ hb; have OR2 := Aside0.mk (show hi1 ≤ lo2 ∧ lo2 ≤ hi2 from ⟨Nat.le_trans HTop.out (Nat.le_of_eq EL2), LE2⟩); have n0_ := Aside0.mk (Kd.S_below (zS_ HO_6.out) hb); have n1_ := Aside0.mk (Kd.R_below (zR_ HO_7.out) hb); have n2_ := Aside0.mk (Kd.R_below (zR_ HO_8.out) hb); have n3_ := Aside0.mk (Kd.S_below (zS_ HO_14.out) hb); have n4_ := Aside0.mk (Kd.R_below (zR_ HO340.out) hb); have n5_ := Aside0.mk (Nat.le_of_eq EH2.symm); have n6_ := Aside0.mk (below_step (zb_ HB.out) hb); clear HO_6; clear HO_7; clear HO_8; clear HO_14; clear HO340; clear HTop; clear HB; have HO_6 := n0_; have HO_7 := n1_; have HO_8 := n2_; have HO_14 := n3_; have HO340 := n4_; have HTop := n5_; have HB := n6_; clear n0_ n1_ n2_ n3_ n4_ n5_ n6_; (try clear hb); (try clear hb2); (try clear hk); (try clear hi); (try clear EL2); (try clear EH2); (try clear LE2)) | ((with_reducible refine gate_callee (f := 31) rfl ?_); refine goesL_ (some 129) rfl rfl Try.func31 (by kernel_rfl) rfl #[.slice Ao10 t311.length co10, .slice Ao64 t338.length co64] rfl (by (try simp only [List.map_toArray, List.map_cons, List.map_nil]); first | done | rfl | (simp only [List.length_drop, List.length_take]; rfl)) ?_; (with_reducible refine (laws_allIn.calls k3 _ _ t311 _ _ t338 false _ ?side1 ?side2 ?side3 ?side4 A47.out).mono ?_); (case side1 => exact zC_ (Kd.R_reads' HO_7.out).2.2); (case side2 => exact (Kd.R_reads' HO_7.out).2.1); (case side3 => exact zC_ (Kd.R_reads' HO340.out).2.2); (case side4 => exact (Kd.R_reads' HO340.out).2.1); rintro e w' ⟨rfl, ⟨nd, rfl⟩⟩; refine ⟨_, rfl, ?_⟩))
                 go_roundg k3
                 case measure => have := HJ6.out; have := HJ27.out; have := HK3.out; omega
                 case rel => exact ⟨(wrap64 (x16_3 + 1)), (by first | rfl | (simp; done) | (simp [*]; done)), H', ⟨by have := HJ6.out; have := HJ27.out; have := HK3.out; omega⟩, ⟨Kd.S_mono (zS_ HO_6.out) (fun _ _ => trivial)⟩, ⟨Kd.R_mono (zR_ HO_7.out) (fun _ _ => trivial)⟩, ⟨Kd.R_mono (zR_ HO_8.out) (fun _ _ => trivial)⟩, ⟨Kd.S_mono (zS_ HO_14.out) (fun _ _ => trivial)⟩, ⟨zb_ HB.out⟩⟩
               ·replace c46 := Bool.eq_false_iff.mpr c46
                subst c46
                have H1 : (none) = some r := by rw [if_neg (show ¬ (false = true) by decide)] at H; exact H
                clear H
                have H := H1
                clear H1
                exact absurd H (by simp)
              ·rw [if_neg c43] at H
               have c43b0 : decide (x16_3 < (ji42)) = false := decide_eq_false c43
               clear c43
               have H' := Aside0.mk H
               clear H
               go_wp2
               go_meet
               case rel => exact ⟨_, H', ⟨by have := HJ6.out; have := HJ27.out; have := HK3.out; first | omega | exact Nat.le_refl _⟩, ⟨zb_ HB.out⟩⟩
             ·rw [if_neg c41] at H
              exact absurd H (by simp)
          ·rw [if_neg c39] at H
           have c39b0 : decide (t309 ≤ 8) = false := decide_eq_false c39
           clear c39
           have H' := Aside0.mk H
           clear H
           go_wp2
           go_meet
           case rel => exact ⟨_, H', ⟨by have := HJ6.out; have := HJ27.out; first | omega | exact Nat.le_refl _⟩, ⟨zb_ HB.out⟩⟩
      ·replace c26 := Bool.eq_false_iff.mpr c26
       subst c26
       have H1 : (laws_FnAtOnce.j4 kj6 l1) = some r := by rw [if_neg (show ¬ (false = true) by decide)] at H; exact H
       clear H
       have H := H1
       clear H1
       have H' := Aside0.mk H
       clear H
       go_wp2
       go_meet
       case rel => exact ⟨_, H', ⟨by have := HJ6.out; first | omega | exact Nat.le_refl _⟩, ⟨zb_ HB.out⟩⟩
     case rest =>
      clear HC25
      try clear c1
      try clear c2
      try clear p2
      try clear c3
      try clear c3b0
      try clear q3
      try clear c4
      try clear c5
      try clear c6
      try clear p6
      try clear c13
      try clear c13b0
      try clear c13b1
      try clear c13b2
      try clear c14
      try clear c14b0
      try clear c14b1
      try clear c14b2
      try clear c16
      try clear c23
      try clear c24
      try clear c25
      try clear c26
      try clear c28
      try clear c29
      try clear c30
      try clear c31
      try clear c31b0
      try clear c31b1
      try clear c33
      try clear c33b0
      try clear c33b1
      try clear c34
      try clear c34b0
      try clear c34b1
      try clear q37
      try clear c38
      try clear c39
      try clear c39b0
      try clear c41
      try clear c41b0
      try clear c41b1
      try clear c43
      try clear c43b0
      try clear c46
      try clear c48
      try clear c53
      try clear c54
      try clear c57
      try clear c59
      try clear c60
      try clear c60b0
      try clear c60b1
      try clear c60b2
      try clear p64
      try clear p2
      try clear p6
      try clear q3
      try clear q37
      obtain ⟨kq, HA, HJ24, HB⟩ := hcut
      cases kq with
      | zero => exact absurd HA.out (by simp [laws_FnAtOnce.j4])
      | succ kj24 =>
       have H := HA.out
       clear HA
       simp only [laws_FnAtOnce.j4] at H
       replace H := Option.bind_eq_some_iff.mp H
       obtain ⟨⟨t347, t348, t349⟩, A660, H⟩ := H
       (try dsimp only at H)
       have A66 := Aside0.mk A660
       clear A660
       replace H := Option.bind_eq_some_iff.mp H
       obtain ⟨⟨t354, t355⟩, A670, H⟩ := H
       (try dsimp only at H)
       have A67 := Aside0.mk A670
       clear A670
       replace H := Option.bind_eq_some_iff.mp H
       obtain ⟨⟨t358, t359⟩, A680, H⟩ := H
       (try dsimp only at H)
       have A68 := Aside0.mk A680
       clear A680
       by_cases c69 : (t355 == t359) = true
       ·rw [if_pos c69] at H
        have c69b0 : (t355 == t359) = true := c69
        (try (have c69b1 : decide (t355 = t359) = true := by simpa using c69))
        (try (have c69b2 : (t355 == t359) = true := by simpa using c69))
        clear c69
        replace H := Option.bind_eq_some_iff.mp H
        obtain ⟨t362, A700, H⟩ := H
        (try dsimp only at H)
        have A70 := Aside0.mk A700
        clear A700
        obtain rfl := Option.some.inj H
        go_wp2_with (first | ((with_reducible refine gate_callee (f := 32) rfl ?_); refine goesL_ (some 157) rfl rfl Try.func32 (by kernel_rfl) rfl #[.slice A1 l1.length c1] rfl (by (try simp only [List.map_toArray, List.map_cons, List.map_nil]); first | done | rfl | (simp only [List.length_drop, List.length_take]; rfl)) ?_; (with_reducible refine (spec_DrawReduce.calls kj24 _ _ l1 t347 t348 t349 _ ?side1 ?side2 A66.out).mono ?_); (case side1 => exact zC_ (Kd.C_below HR1.out HB.out)); (case side2 => exact HC1.out); rintro e w71 ⟨v350, v352, rfl, ho0, ho1, hb⟩; refine ⟨_, rfl, ?_⟩; obtain ⟨lo1, hi1, EL1, EH1, LE1⟩ := iv_ hb; have OR1 := Aside0.mk (show 0 ≤ lo1 ∧ lo1 ≤ hi1 from ⟨Nat.zero_le _, LE1⟩); have n0_ := Aside0.mk (Kd.S_mono (ok' := fun k_ => lo1 ≤ k_ ∧ k_ < hi1) (Kd.S_lower (Kd.S_bound ho0) (below_size (zb_ HB.out))) (fun k_ hk_ => by have a_ := hk_.2.1; have b_ := hk_.2.2.1; omega)); have n1_ := Aside0.mk (Kd.R_mono (ok' := fun k_ => lo1 ≤ k_ ∧ k_ < hi1) (Kd.R_lower (Kd.R_bound ho1) (below_size (zb_ HB.out))) (fun k_ hk_ => by have a_ := hk_.2.1; have b_ := hk_.2.2.1; omega)); have n2_ := Aside0.mk (Nat.le_of_eq EH1.symm); have n3_ := Aside0.mk (below_step (zb_ HB.out) hb); clear HTop; clear HB; have HO351 := n0_; have HO353 := n1_; have HTop := n2_; have HB := n3_; clear n0_ n1_ n2_ n3_; (try clear hb); (try clear hb2); (try clear hk); (try clear hi); (try clear ho0); (try clear ho1); (try clear EL1); (try clear EH1); (try clear LE1); obtain ⟨Ao72, co72, eo72⟩ := Kd.S_slice HO351.out; subst eo72; obtain ⟨Ao73, co73, eo73⟩ := Kd.R_slice HO353.out; subst eo73) | ((with_reducible refine gate_callee (f := 28) rfl ?_); refine goesL_ (some 165) rfl rfl Try.func28 (by kernel_rfl) rfl #[.int .i64 t347, .slice Ao72 t348.length co72, .slice Ao73 t349.length co73] rfl (by (try simp only [List.map_toArray, List.map_cons, List.map_nil]); first | done | rfl | (simp only [List.length_drop, List.length_take]; rfl)) ?_; (with_reducible refine (impl_Reduce.calls kj24 t347 _ _ t348 _ _ t349 t354 t355 _ ?side1 ?side2 ?side3 ?side4 A67.out).mono ?_); (case side1 => exact zC_ (Kd.S_reads' HO351.out).2.2); (case side2 => exact (Kd.S_reads' HO351.out).2.1); (case side3 => exact zC_ (Kd.R_reads' HO353.out).2.2); (case side4 => exact (Kd.R_reads' HO353.out).2.1); rintro e w74 ⟨v356, rfl, ho0, hb⟩; refine ⟨_, rfl, ?_⟩; obtain ⟨lo2, hi2, EL2, EH2, LE2⟩ := iv_ hb; have OR2 := Aside0.mk (show hi1 ≤ lo2 ∧ lo2 ≤ hi2 from ⟨Nat.le_trans HTop.out (Nat.le_of_eq EL2), LE2⟩); have n0_ := Aside0.mk (Kd.S_below (zS_ HO351.out) hb); have n1_ := Aside0.mk (Kd.R_below (zR_ HO353.out) hb); have n2_ := Aside0.mk (Kd.S_mono (ok' := fun k_ => lo2 ≤ k_ ∧ k_ < hi2) (Kd.S_lower (Kd.S_bound ho0) (below_size (zb_ HB.out))) (fun k_ hk_ => by have a_ := hk_.2.1; have b_ := hk_.2.2.1; omega)); have n3_ := Aside0.mk (Nat.le_of_eq EH2.symm); have n4_ := Aside0.mk (below_step (zb_ HB.out) hb); clear HO351; clear HO353; clear HTop; clear HB; have HO351 := n0_; have HO353 := n1_; have HO357 := n2_; have HTop := n3_; have HB := n4_; clear n0_ n1_ n2_ n3_ n4_; (try clear hb); (try clear hb2); (try clear hk); (try clear hi); (try clear ho0); (try clear EL2); (try clear EH2); (try clear LE2)) | ((with_reducible refine gate_callee (f := 33) rfl ?_); refine goesL_ (some 172) rfl rfl Try.func33 (by kernel_rfl) rfl #[.int .i64 t347, .slice Ao72 t348.length co72, .slice Ao73 t349.length co73] rfl (by (try simp only [List.map_toArray, List.map_cons, List.map_nil]); first | done | rfl | (simp only [List.length_drop, List.length_take]; rfl)) ?_; (with_reducible refine (spec_Reduce.calls kj24 t347 _ _ t348 _ _ t349 t358 t359 _ ?side1 ?side2 ?side3 ?side4 A68.out).mono ?_); (case side1 => exact zC_ (Kd.S_reads' HO351.out).2.2); (case side2 => exact (Kd.S_reads' HO351.out).2.1); (case side3 => exact zC_ (Kd.R_reads' HO353.out).2.2); (case side4 => exact (Kd.R_reads' HO353.out).2.1); rintro e w75 ⟨v360, rfl, ho0, hb⟩; refine ⟨_, rfl, ?_⟩; obtain ⟨lo3, hi3, EL3, EH3, LE3⟩ := iv_ hb; have OR3 := Aside0.mk (show hi2 ≤ lo3 ∧ lo3 ≤ hi3 from ⟨Nat.le_trans HTop.out (Nat.le_of_eq EL3), LE3⟩); have n0_ := Aside0.mk (Kd.S_below (zS_ HO351.out) hb); have n1_ := Aside0.mk (Kd.R_below (zR_ HO353.out) hb); have n2_ := Aside0.mk (Kd.S_below (zS_ HO357.out) hb); have n3_ := Aside0.mk (Kd.S_mono (ok' := fun k_ => lo3 ≤ k_ ∧ k_ < hi3) (Kd.S_lower (Kd.S_bound ho0) (below_size (zb_ HB.out))) (fun k_ hk_ => by have a_ := hk_.2.1; have b_ := hk_.2.2.1; omega)); have n4_ := Aside0.mk (Nat.le_of_eq EH3.symm); have n5_ := Aside0.mk (below_step (zb_ HB.out) hb); clear HO351; clear HO353; clear HO357; clear HTop; clear HB; have HO351 := n0_; have HO353 := n1_; have HO357 := n2_; have HO361 := n3_; have HTop := n4_; have HB := n5_; clear n0_ n1_ n2_ n3_ n4_ n5_; (try clear hb); (try clear hb2); (try clear hk); (try clear hi); (try clear ho0); (try clear EL3); (try clear EH3); (try clear LE3); obtain ⟨Ao76, co76, eo76⟩ := Kd.S_slice HO357.out; subst eo76; obtain ⟨Ao77, co77, eo77⟩ := Kd.S_slice HO361.out; subst eo77) | (go_at_call 34; (with_reducible refine (laws_sameRows.calls kj24 _ _ t354 _ _ t358 t362 _ ?side1 ?side2 ?side3 ?side4 A70.out).mono ?_); (case side1 => exact zC_ (Kd.S_reads' HO357.out).2.2); (case side2 => exact (Kd.S_reads' HO357.out).2.1); (case side3 => exact zC_ (Kd.S_reads' HO361.out).2.2); (case side4 => exact (Kd.S_reads' HO361.out).2.1); rintro e w' ⟨rfl, ⟨nd, rfl⟩⟩))
        go_ret
        exact ⟨by first | rfl | (simp [errW_none, errW_some] <;> rfl) | (simp [*, errW_none, errW_some] <;> rfl), zb_ HB.out⟩
       ·rw [if_neg c69] at H
        exact absurd H (by simp)

/-- THE ONE PURE STATEMENT of laws_FnAtOnce: yours. -/
def laws_FnAtOnce.Pure : Prop := ∀ (l0 : List Int) (l1 : List Int), l0.length ≤ maxLen → l0.length * 1 ≤ 140737488351232 → (∀ x ∈ l0, (Lit.int .u8 x).wf = true) → l1.length ≤ maxLen → l1.length * 1 ≤ 140737488351232 → (∀ x ∈ l1, (Lit.int .u8 x).wf = true) → ∃ k, laws_FnAtOnce.f k l0 l1 = some true
theorem laws_FnAtOnce.walk (P : laws_FnAtOnce.Pure) (a0 : Option Addr) (len0 cap0 : Nat) (z0 : List Int) (a1 : Option Addr) (len1 cap1 : Nat) (z1 : List Int) (w : World) (w0 : (a0 = none ∧ len0 = 0 ∧ cap0 = 0 ∧ z0 = []) ∨ ∃ x, a0 = some x ∧ len0 ≤ cap0 ∧ cap0 ≤ maxLen ∧ z0.length = cap0 ∧ (∀ i, i < z0.length → w.cell? (x.add i) = some (.int .u8 (z0.getD i 0))) ∧ ∀ n ∈ z0, (Lit.int .u8 n).wf = true) (y0 : len0 * 1 ≤ 140737488351232) (w1 : (a1 = none ∧ len1 = 0 ∧ cap1 = 0 ∧ z1 = []) ∨ ∃ x, a1 = some x ∧ len1 ≤ cap1 ∧ cap1 ≤ maxLen ∧ z1.length = cap1 ∧ (∀ i, i < z1.length → w.cell? (x.add i) = some (.int .u8 (z1.getD i 0))) ∧ ∀ n ∈ z1, (Lit.int .u8 n).wf = true) (y1 : len1 * 1 ≤ 140737488351232) :
  Calls Try.prog 4 #[.slice a0 len0 cap0, .slice a1 len1 cap1] w fun e w' => e = .returned (.bool true) ∧ Below w.heap.size w w' := by
 obtain ⟨l0, rfl, hr0, hm0, hw0, hc0⟩ := ReadsInt.ofRowC w0
 obtain ⟨l1, rfl, hr1, hm1, hw1, hc1⟩ := ReadsInt.ofRowC w1
 obtain ⟨k, h⟩ := P l0 l1 hm0 y0 hw0 hm1 y1 hw1
 refine (laws_FnAtOnce.calls k _ _ l0 _ _ l1 true w (Kd.C_of_reads (d := (0 : Int)) (h1 := fun _ => rfl) hr0) hc0 (Kd.C_of_reads (d := (0 : Int)) (h1 := fun _ => rfl) hr1) hc1 h).mono ?_
 rintro e w' ⟨rfl, hd⟩
 exact ⟨rfl, hd⟩

end Go.Proofs.Ytpkbjgmeejlchab.PFnAtOnce
-- squeezed
