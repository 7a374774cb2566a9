/- The program's ValueOrder returns what the reference's returns, for all arguments; no condition. -/
import Derived.Test.YtdgikheibcmcjaaX11
import Derived.Test.YtdgikheibcmcjaaX12
import Derived.Test.YtdgikheibcmcjaaLSz
import Derived.Test.YtdgikheibcmcjaaLVOk2
import Derived.Test.YtdgikheibcmcjaaLOrderS
set_option linter.unusedVariables false
set_option linter.unusedSimpArgs false
namespace Go.Proofs.Ytdgikheibcmcjaa.Pure
open Go.RowKit Go.Proofs.Ytdgikheibcmcjaa.X Go.Proofs.YtdgikheibcmcjaaV.PrintWords Go.Proofs.YtdgikheibcmcjaaV.PrintLast Go.Proofs.YtdgikheibcmcjaaV.PrintMore

theorem FnExactValueOrder : laws_FnExactValueOrder.Pure := by
  intro t n s t2 n2 s2 _ _ hs _ _ hs2
  refine ⟨s.size + s2.size + 5, ?_⟩
  have hi : impl_ValueOrder.f (s.size + s2.size + 5) t n s t2 n2 s2 = some (if VOk t n s = true ∧ VOk t2 n2 s2 = true then VOrd t n s t2 n2 s2 else 0) := by
    unfold impl_ValueOrder.f
    rw [impl_ok, impl_ok, impl_order _ _ _ _ _ _ _ (by omega)]
    by_cases h1 : VOk t n s = true
    · by_cases h2 : VOk t2 n2 s2 = true <;> simp [h1, h2]
    · simp [h1]
  unfold laws_FnExactValueOrder.f
  obtain ⟨z, hz⟩ := sz_some t n s 1048576
  rw [hz]
  simp only [Option.bind_some]
  by_cases h0 : z < 0
  · rw [if_pos h0]
  rw [if_neg h0]
  obtain ⟨z2, hz2⟩ := sz_some t2 n2 s2 z
  rw [hz2]
  simp only [Option.bind_some]
  by_cases h02 : z2 < 0
  · rw [if_pos h02]
  rw [if_neg h02]
  simp only [to_eq, Option.bind_some]
  rw [spec_order _ _ _ _ _ _ _ hs hs2 (by omega) (by omega), hi]
  simp

end Go.Proofs.Ytdgikheibcmcjaa.Pure
