/- The program's AndOf returns what the reference's returns, for every two integer arguments; no condition. -/
import Derived.Test.YtienckflffiipaaPFnExactAndOfx1
namespace Go.Proofs.Ytienckflffiipaa.Pure
open Go.RowKit Go.Proofs.Ytienckflffiipaa.PFnExactAndOf Go.Proofs.YtienckflffiipaaW.PrintWords Go.Proofs.YtienckflffiipaaW.PrintLast

theorem specTruth (a : Int) : spec_TruthOk.f a = some (decide (a = 0 ∨ a = 1 ∨ a = 2)) := by
  unfold spec_TruthOk.f spec_l1In.f
  by_cases g : a ≥ 0
  · rw [if_pos g]
    simp only [Option.bind_some, Option.some.injEq]
    by_cases h : a ≤ 2
    · rw [decide_eq_true h, decide_eq_true (by omega)]
    · rw [decide_eq_false h, decide_eq_false (by omega)]
  · rw [if_neg g, decide_eq_false (by omega)]; rfl
theorem implTruth (a : Int) : impl_TruthOk.f a = some (decide (a = 0 ∨ a = 1 ∨ a = 2)) := by
  unfold impl_TruthOk.f impl_between.f
  by_cases g : a ≥ 0
  · rw [if_pos g]
    simp only [Option.bind_some, Option.some.injEq]
    by_cases h : a ≤ 2
    · rw [decide_eq_true h, decide_eq_true (by omega)]
    · rw [decide_eq_false h, decide_eq_false (by omega)]
  · rw [if_neg g, decide_eq_false (by omega)]; rfl

/-- YOURS: ∀ (a0 : Int) (a1 : Int), (Lit.int .i64 a0).wf = true → (Lit.int .i64 a1).wf = true → ∃ k, laws_FnExactAndOf.f k a0 a1 = some true
What it reaches (each with k first where it has rounds; `.mono`: more rounds tell the same; `.l0`, ..: its loops, with `.mono_l`): spec_l1In.f, spec_TruthOk.f, spec_l2Sure.f, spec_AndOf.f, impl_between.f, impl_TruthOk.f, impl_fold.f, impl_AndOf.f, laws_FnExactAndOf.f -/
theorem FnExactAndOf : laws_FnExactAndOf.Pure := by
  intro a b _ _
  refine ⟨5, ?_⟩
  by_cases ha : a = 0 ∨ a = 1 ∨ a = 2
  · by_cases hb : b = 0 ∨ b = 1 ∨ b = 2
    · rcases ha with rfl | rfl | rfl <;> rcases hb with rfl | rfl | rfl <;> decide +kernel
    · simp [laws_FnExactAndOf.f, spec_AndOf.f, impl_AndOf.f, impl_fold.f, specTruth, implTruth, ha, hb, spec_AndOf.j0, impl_fold.j0]
  · simp [laws_FnExactAndOf.f, spec_AndOf.f, impl_AndOf.f, impl_fold.f, specTruth, implTruth, ha, spec_AndOf.j0, impl_fold.j0]

end Go.Proofs.Ytienckflffiipaa.Pure
