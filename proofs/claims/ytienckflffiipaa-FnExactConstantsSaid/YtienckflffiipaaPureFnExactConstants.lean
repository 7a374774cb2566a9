/- The program's named constants are those of the reference: FnExactConstants returns true; no condition. -/
import Derived.Test.YtienckflffiipaaPFnExactConstantsx1
namespace Go.Proofs.Ytienckflffiipaa.Pure
open Go.RowKit Go.Proofs.Ytienckflffiipaa.PFnExactConstants Go.Proofs.YtienckflffiipaaW.PrintWords Go.Proofs.YtienckflffiipaaW.PrintLast

/-- YOURS: laws_FnExactConstants.f  = some true
What it reaches (each with k first where it has rounds; `.mono`: more rounds tell the same; `.l0`, ..: its loops, with `.mono_l`): laws_FnExactConstants.f -/
theorem FnExactConstants : laws_FnExactConstants.Pure := by
  rfl

end Go.Proofs.Ytienckflffiipaa.Pure
