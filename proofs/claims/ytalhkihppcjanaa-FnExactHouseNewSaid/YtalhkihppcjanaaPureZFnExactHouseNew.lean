/- The program's HouseNew returns what the reference's returns, for all arguments; no condition. -/
import Derived.Test.YtalhkihppcjanaaX0
import Derived.Test.YtalhkihppcjanaaZFnExactHouseNew5
set_option linter.unusedVariables false
set_option linter.unusedSimpArgs false
namespace Go.Proofs.Ytalhkihppcjanaa.Pure
open Go.RowKit Go.Proofs.Ytalhkihppcjanaa.X Go.Proofs.YtalhkihppcjanaaV.PrintWords Go.Proofs.YtalhkihppcjanaaV.PrintLast Go.Proofs.YtalhkihppcjanaaV.PrintMore

theorem FnExactHouseNew : laws_FnExactHouseNew.Pure := by
  intro a _
  rfl

end Go.Proofs.Ytalhkihppcjanaa.Pure
