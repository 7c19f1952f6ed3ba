/- The pure statement of the law FnExactExtendByte: the printed functions of the program and of the reference give the same answers, at every input that the statement's guards let in. -/
import Derived.Test.YthlfjdemblpbnaaPFnExactExtendBytex1
namespace Go.Proofs.Ythlfjdemblpbnaa.Pure
open Go.RowKit Go.Proofs.Ythlfjdemblpbnaa.PFnExactExtendByte Go.Proofs.YthlfjdemblpbnaaW.PrintWords Go.Proofs.YthlfjdemblpbnaaW.PrintLast Go.Proofs.YthlfjdemblpbnaaW.PrintMore


theorem FnExactExtendByte : laws_FnExactExtendByte.Pure := by
  intro a h
  have e : impl_ExtendByte.f a = spec_ExtendByte.f a := rfl
  unfold laws_FnExactExtendByte.f
  rw [e]
  cases hs : spec_ExtendByte.f a with
  | none =>
    exfalso
    unfold spec_ExtendByte.f spec_l1Word.f spec_l1In.f at hs
    revert hs
    split <;> simp only [Option.bind_some] <;> split <;> (try split) <;> simp
  | some r => simp

end Go.Proofs.Ythlfjdemblpbnaa.Pure
