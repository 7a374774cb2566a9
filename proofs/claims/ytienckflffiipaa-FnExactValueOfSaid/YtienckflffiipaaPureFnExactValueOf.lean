/- The program's ValueOf returns what the reference's returns, for every integer argument; no condition. -/
import Derived.Test.YtienckflffiipaaPFnExactValueOfx1
namespace Go.Proofs.Ytienckflffiipaa.Pure
open Go.RowKit Go.Proofs.Ytienckflffiipaa.PFnExactValueOf Go.Proofs.YtienckflffiipaaW.PrintWords Go.Proofs.YtienckflffiipaaW.PrintLast

/-- YOURS: ∀ (a0 : Int), (Lit.int .i64 a0).wf = true → laws_FnExactValueOf.f a0 = some true
What it reaches (each with k first where it has rounds; `.mono`: more rounds tell the same; `.l0`, ..: its loops, with `.mono_l`): spec_ValueOf.f, impl_between.f, impl_ValueOf.f, laws_eqValue.f, laws_FnExactValueOf.f -/
theorem FnExactValueOf : laws_FnExactValueOf.Pure := by
  intro a _
  by_cases h0 : a = 0
  · subst h0; decide +kernel
  · by_cases h1 : a = 1
    · subst h1; decide +kernel
    · have h : (impl_between.f a 0 1) = some false := by
        unfold impl_between.f
        by_cases g : a ≥ 0
        · rw [if_pos g, decide_eq_false (by omega)]
        · rw [if_neg g]
      simp [laws_FnExactValueOf.f, spec_ValueOf.f, impl_ValueOf.f, h, h0, h1, laws_eqValue.f]

end Go.Proofs.Ytienckflffiipaa.Pure
