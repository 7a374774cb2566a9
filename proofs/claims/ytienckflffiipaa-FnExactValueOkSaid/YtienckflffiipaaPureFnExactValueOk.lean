/- The program's ValueOk returns what the reference's returns, for every argument; no condition. -/
import Derived.Test.YtienckflffiipaaX10
import Derived.Test.YtienckflffiipaaX16
import Derived.Test.YtienckflffiipaaX17
import Derived.Test.YtienckflffiipaaLVOkS
set_option linter.unusedVariables false
set_option linter.unusedSimpArgs false
namespace Go.Proofs.Ytienckflffiipaa.Pure
open Go.RowKit Go.Proofs.Ytienckflffiipaa.X Go.Proofs.YtienckflffiipaaV.PrintWords Go.Proofs.YtienckflffiipaaV.PrintLast Go.Proofs.YtienckflffiipaaV.PrintMore

theorem FnExactValueOk : laws_FnExactValueOk.Pure := by
  intro t n s ht hn hs
  refine ⟨s.size + 1, ?_⟩
  have hi : impl_ValueOk.f t n s = some (VOk t n s) := by
    unfold impl_ValueOk.f
    rw [impl_ok]
    rfl
  unfold laws_FnExactValueOk.f
  cases hz : laws_szValue.f t n s 1048576 with
  | none => unfold laws_szValue.f at hz; split at hz <;> cases hz
  | some z =>
    simp only [Option.bind_some]
    by_cases h0 : z < 0
    · rw [if_pos h0]
    · rw [if_neg h0]
      simp only [laws_toValue.f, Option.bind_some]
      rw [spec_ok t n s hs _ (by omega)]
      simp only [Option.bind_some]
      rw [hi]
      simp

end Go.Proofs.Ytienckflffiipaa.Pure
