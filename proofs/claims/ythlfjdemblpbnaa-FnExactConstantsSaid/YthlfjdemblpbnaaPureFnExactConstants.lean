/- The pure statement of the law FnExactConstants: the printed functions of the program and of the reference give the same answers, at every input that the statement's guards let in. -/
import Derived.Test.YthlfjdemblpbnaaPFnExactConstantsx1
namespace Go.Proofs.Ythlfjdemblpbnaa.Pure
open Go.RowKit Go.Proofs.Ythlfjdemblpbnaa.PFnExactConstants Go.Proofs.YthlfjdemblpbnaaW.PrintWords Go.Proofs.YthlfjdemblpbnaaW.PrintLast Go.Proofs.YthlfjdemblpbnaaW.PrintMore


theorem FnExactConstants : laws_FnExactConstants.Pure := by
  rfl

end Go.Proofs.Ythlfjdemblpbnaa.Pure
