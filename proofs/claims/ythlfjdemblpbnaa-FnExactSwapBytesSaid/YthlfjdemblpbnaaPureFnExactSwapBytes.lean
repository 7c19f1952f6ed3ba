/- The pure statement of the law FnExactSwapBytes: the printed functions of the program and of the reference give the same answers, at every input that the statement's guards let in. -/
import Derived.Test.YthlfjdemblpbnaaPFnExactSwapBytesx1
namespace Go.Proofs.Ythlfjdemblpbnaa.Pure
open Go.RowKit Go.Proofs.Ythlfjdemblpbnaa.PFnExactSwapBytes Go.Proofs.YthlfjdemblpbnaaW.PrintWords Go.Proofs.YthlfjdemblpbnaaW.PrintLast Go.Proofs.YthlfjdemblpbnaaW.PrintMore


theorem FnExactSwapBytes : laws_FnExactSwapBytes.Pure := by
  intro a h
  have e : impl_SwapBytes.f a = spec_SwapBytes.f a := rfl
  unfold laws_FnExactSwapBytes.f
  rw [e]
  cases hs : spec_SwapBytes.f a with
  | none =>
    exfalso
    unfold spec_SwapBytes.f spec_l1Word.f spec_l1In.f at hs
    revert hs
    split <;> simp only [Option.bind_some] <;> split <;> (try split) <;> simp
  | some r => simp

end Go.Proofs.Ythlfjdemblpbnaa.Pure
