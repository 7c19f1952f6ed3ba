/- The pure statement of the law FnExactSignedOf: the printed functions of the program and of the reference give the same answers, at every input that the statement's guards let in. -/
import Derived.Test.YthlfjdemblpbnaaPFnExactSignedOfx1
namespace Go.Proofs.Ythlfjdemblpbnaa.Pure
open Go.RowKit Go.Proofs.Ythlfjdemblpbnaa.PFnExactSignedOf Go.Proofs.YthlfjdemblpbnaaW.PrintWords Go.Proofs.YthlfjdemblpbnaaW.PrintLast Go.Proofs.YthlfjdemblpbnaaW.PrintMore


theorem FnExactSignedOf : laws_FnExactSignedOf.Pure := by
  intro a h
  have e : impl_SignedOf.f a = spec_SignedOf.f a := rfl
  unfold laws_FnExactSignedOf.f
  rw [e]
  cases hs : spec_SignedOf.f a with
  | none =>
    exfalso
    unfold spec_SignedOf.f spec_l1Word.f spec_l1In.f spec_l1Signed.f at hs
    revert hs
    split <;> simp only [Option.bind_some] <;> split <;> (try split) <;> simp
  | some r => simp

end Go.Proofs.Ythlfjdemblpbnaa.Pure
