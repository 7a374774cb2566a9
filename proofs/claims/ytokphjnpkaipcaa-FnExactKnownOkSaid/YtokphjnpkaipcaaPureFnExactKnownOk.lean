/- The program's KnownOk returns what the reference's returns, for all arguments; no condition. -/
import Derived.Test.YtokphjnpkaipcaaX12
import Derived.Test.YtokphjnpkaipcaaLKOk
import Derived.Test.YtokphjnpkaipcaaLKTo
set_option linter.unusedVariables false
set_option linter.unusedSimpArgs false
namespace Go.Proofs.Ytokphjnpkaipcaa.Pure
open Go.RowKit Go.Proofs.Ytokphjnpkaipcaa.X Go.Proofs.YtokphjnpkaipcaaV.PrintWords Go.Proofs.YtokphjnpkaipcaaV.PrintLast Go.Proofs.YtokphjnpkaipcaaV.PrintMore

theorem FnExactKnownOk : laws_FnExactKnownOk.Pure := by
  intro c a t n s t2 n2 s2 _ _ _ _ hs _ _ hs2
  refine ⟨s.size + s2.size + 5, ?_⟩
  unfold laws_FnExactKnownOk.f
  obtain ⟨z, hz⟩ := szK_some c a t n s t2 n2 s2 1048576
  rw [hz, Option.bind_some]
  by_cases h0 : z < 0
  · rw [if_pos h0]
  rw [if_neg h0, toK_eq, Option.bind_some]
  simp only [Option.bind_some]
  rw [spec_known _ _ _ _ _ _ _ _ hs hs2 _ (by omega), impl_known _ _ _ _ _ _ _ _ _ (by omega)]
  simp

end Go.Proofs.Ytokphjnpkaipcaa.Pure
