/- Small lemmas: a number between two others, told by the program and by the reference. -/
import Derived.Test.YtokphjnpkaipcaaX7
import Derived.Test.YtokphjnpkaipcaaVMore
set_option linter.unusedVariables false
set_option linter.unusedSimpArgs false
namespace Go.Proofs.Ytokphjnpkaipcaa.Pure
open Go.RowKit Go.Proofs.Ytokphjnpkaipcaa.X Go.Proofs.YtokphjnpkaipcaaV.PrintWords Go.Proofs.YtokphjnpkaipcaaV.PrintLast Go.Proofs.YtokphjnpkaipcaaV.PrintMore

theorem between_eq (a lo hi : Int) : impl_between.f a lo hi = some (decide (lo ≤ a ∧ a ≤ hi)) := by
  unfold impl_between.f
  by_cases h : a ≥ lo
  · rw [if_pos h]
    by_cases g : a ≤ hi
    · rw [decide_eq_true g, decide_eq_true ⟨h, g⟩]
    · rw [decide_eq_false g, decide_eq_false (fun h' => g h'.2)]
  · rw [if_neg h, decide_eq_false (fun h' => h h'.1)]

end Go.Proofs.Ytokphjnpkaipcaa.Pure
