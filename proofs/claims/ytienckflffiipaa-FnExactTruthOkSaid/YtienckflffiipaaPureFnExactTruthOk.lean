/- The program's TruthOk returns what the reference's returns, for every integer argument; no condition. -/
import Derived.Test.YtienckflffiipaaPFnExactTruthOkx1
namespace Go.Proofs.Ytienckflffiipaa.Pure
open Go.RowKit Go.Proofs.Ytienckflffiipaa.PFnExactTruthOk Go.Proofs.YtienckflffiipaaW.PrintWords Go.Proofs.YtienckflffiipaaW.PrintLast

/-- YOURS: ∀ (a0 : Int), (Lit.int .i64 a0).wf = true → laws_FnExactTruthOk.f a0 = some true
What it reaches (each with k first where it has rounds; `.mono`: more rounds tell the same; `.l0`, ..: its loops, with `.mono_l`): spec_l1In.f, spec_TruthOk.f, impl_between.f, impl_TruthOk.f, laws_FnExactTruthOk.f -/
theorem FnExactTruthOk : laws_FnExactTruthOk.Pure := by
  intro a _
  by_cases h : a ≥ 0 <;>
  simp [laws_FnExactTruthOk.f, spec_TruthOk.f, impl_TruthOk.f, spec_l1In.f, impl_between.f, h]

end Go.Proofs.Ytienckflffiipaa.Pure
