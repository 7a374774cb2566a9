/- The program's Compare returns what the reference's returns, for all arguments; no condition. -/
import Derived.Test.YtdgikheibcmcjaaX33
import Derived.Test.YtdgikheibcmcjaaLSz
import Derived.Test.YtdgikheibcmcjaaLCompareP
set_option linter.unusedVariables false
set_option linter.unusedSimpArgs false
namespace Go.Proofs.Ytdgikheibcmcjaa.Pure
open Go.RowKit Go.Proofs.Ytdgikheibcmcjaa.X Go.Proofs.YtdgikheibcmcjaaV.PrintWords Go.Proofs.YtdgikheibcmcjaaV.PrintLast Go.Proofs.YtdgikheibcmcjaaV.PrintMore

theorem FnExactCompare : laws_FnExactCompare.Pure := by
  intro kd t n s t2 n2 s2 _ _ _ hs _ _ hs2
  refine ⟨s.size + s2.size + 10, ?_⟩
  unfold laws_FnExactCompare.f
  obtain ⟨z, hz⟩ := sz_some t n s 1048576
  rw [hz]
  simp only [Option.bind_some]
  by_cases h0 : z < 0
  · rw [if_pos h0]
  rw [if_neg h0]
  obtain ⟨z2, hz2⟩ := sz_some t2 n2 s2 z
  rw [hz2]
  simp only [Option.bind_some]
  by_cases h02 : z2 < 0
  · rw [if_pos h02]
  rw [if_neg h02]
  simp only [to_eq, Option.bind_some]
  rw [spec_compare _ _ _ _ _ _ _ hs hs2 _ (by omega), impl_compare _ _ _ _ _ _ _ _ (by omega)]
  simp

end Go.Proofs.Ytdgikheibcmcjaa.Pure
