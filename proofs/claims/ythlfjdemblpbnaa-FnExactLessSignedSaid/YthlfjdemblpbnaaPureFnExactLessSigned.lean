/- The pure statement of the law FnExactLessSigned: the printed functions of the program and of the reference give the same answers, at every input that the statement's guards let in. -/
import Derived.Test.YthlfjdemblpbnaaPFnExactLessSignedx1
namespace Go.Proofs.Ythlfjdemblpbnaa.Pure
open Go.RowKit Go.Proofs.Ythlfjdemblpbnaa.PFnExactLessSigned Go.Proofs.YthlfjdemblpbnaaW.PrintWords Go.Proofs.YthlfjdemblpbnaaW.PrintLast Go.Proofs.YthlfjdemblpbnaaW.PrintMore


theorem FnExactLessSigned : laws_FnExactLessSigned.Pure := by
  intro a b ha hb
  refine ⟨1, ?_⟩
  have e : impl_LessSigned.f 1 a b = spec_LessSigned.f 1 a b := rfl
  unfold laws_FnExactLessSigned.f
  rw [e]
  have hw : ∀ x, spec_l1Word.f x = some (decide (0 ≤ x ∧ x ≤ 65535)) := by
    intro x
    unfold spec_l1Word.f spec_l1In.f
    split <;> simp [*] <;> omega
  have hg : ∀ x, ∃ y, spec_l1Signed.f x = some y := by
    intro x
    unfold spec_l1Signed.f
    split <;> exact ⟨_, rfl⟩
  obtain ⟨ya, hya⟩ := hg a
  obtain ⟨yb, hyb⟩ := hg b
  cases hs : spec_LessSigned.f 1 a b with
  | none =>
    exfalso
    unfold spec_LessSigned.f at hs
    simp only [spec_LessSigned.j0, hw, hya, hyb, Option.bind_some] at hs
    revert hs
    split <;> (try split) <;> simp
  | some r => simp

end Go.Proofs.Ythlfjdemblpbnaa.Pure
