/- The program's NotOf returns what the reference's returns, for every integer argument; no condition. -/
import Derived.Test.YtienckflffiipaaPFnExactNotOfx1
namespace Go.Proofs.Ytienckflffiipaa.Pure
open Go.RowKit Go.Proofs.Ytienckflffiipaa.PFnExactNotOf Go.Proofs.YtienckflffiipaaW.PrintWords Go.Proofs.YtienckflffiipaaW.PrintLast

/-- YOURS: ∀ (a0 : Int), (Lit.int .i64 a0).wf = true → laws_FnExactNotOf.f a0 = some true
What it reaches (each with k first where it has rounds; `.mono`: more rounds tell the same; `.l0`, ..: its loops, with `.mono_l`): spec_l1In.f, spec_TruthOk.f, spec_l2Sure.f, spec_NotOf.f, impl_NotOf.f, laws_FnExactNotOf.f -/
theorem FnExactNotOf : laws_FnExactNotOf.Pure := by
  intro a _
  by_cases h0 : a = 0
  · subst h0; decide +kernel
  · by_cases h1 : a = 1
    · subst h1; decide +kernel
    · by_cases h2 : a = 2
      · subst h2; decide +kernel
      · have h : (spec_TruthOk.f a) = some false := by
          unfold spec_TruthOk.f spec_l1In.f
          by_cases g : a ≥ 0
          · rw [if_pos g, decide_eq_false (by omega)]; rfl
          · rw [if_neg g]; rfl
        simp [laws_FnExactNotOf.f, spec_NotOf.f, impl_NotOf.f, h, h0, h1, h2]

end Go.Proofs.Ytienckflffiipaa.Pure
