/- The pure statement of the law FnExactNewMachine: the printed functions of the program and of the reference give the same answers, at every input that the statement's guards let in. -/
import Derived.Test.YthlfjdemblpbnaaPFnExactNewMachinex3
namespace Go.Proofs.Ythlfjdemblpbnaa.Pure
open Go.RowKit Go.Proofs.Ythlfjdemblpbnaa.PFnExactNewMachine Go.Proofs.YthlfjdemblpbnaaW.PrintWords Go.Proofs.YthlfjdemblpbnaaW.PrintLast Go.Proofs.YthlfjdemblpbnaaW.PrintMore


theorem FnExactNewMachine : laws_FnExactNewMachine.Pure := by
  exact ⟨60, by decide +kernel⟩

end Go.Proofs.Ythlfjdemblpbnaa.Pure
