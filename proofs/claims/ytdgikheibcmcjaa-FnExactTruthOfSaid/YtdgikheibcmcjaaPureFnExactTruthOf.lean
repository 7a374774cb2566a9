/- The program's TruthOf returns what the reference's returns, for all arguments; no condition. -/
import Derived.Test.YtdgikheibcmcjaaX17
import Derived.Test.YtdgikheibcmcjaaLSz
import Derived.Test.YtdgikheibcmcjaaLTruthVal
set_option linter.unusedVariables false
set_option linter.unusedSimpArgs false
namespace Go.Proofs.Ytdgikheibcmcjaa.Pure
open Go.RowKit Go.Proofs.Ytdgikheibcmcjaa.X Go.Proofs.YtdgikheibcmcjaaV.PrintWords Go.Proofs.YtdgikheibcmcjaaV.PrintLast Go.Proofs.YtdgikheibcmcjaaV.PrintMore

theorem FnExactTruthOf : laws_FnExactTruthOf.Pure := by
  intro t n s _ _ hs
  refine ⟨s.size + 1, ?_⟩
  unfold laws_FnExactTruthOf.f
  obtain ⟨z, hz⟩ := sz_some t n s 1048576
  rw [hz]
  simp only [Option.bind_some]
  by_cases h0 : z < 0
  · rw [if_pos h0]
  rw [if_neg h0]
  simp only [to_eq, Option.bind_some]
  rw [spec_truthOf _ _ _ hs _ (by omega), impl_truthOf]
  simp

end Go.Proofs.Ytdgikheibcmcjaa.Pure
