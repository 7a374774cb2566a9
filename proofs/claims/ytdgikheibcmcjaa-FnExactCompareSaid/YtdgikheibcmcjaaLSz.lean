/- The laws' own copies and sizes of values; lemmas. -/
import Derived.Test.YtdgikheibcmcjaaX2
import Derived.Test.YtdgikheibcmcjaaX3
import Derived.Test.YtdgikheibcmcjaaVMore
set_option linter.unusedVariables false
set_option linter.unusedSimpArgs false
namespace Go.Proofs.Ytdgikheibcmcjaa.Pure
open Go.RowKit Go.Proofs.Ytdgikheibcmcjaa.X Go.Proofs.YtdgikheibcmcjaaV.PrintWords Go.Proofs.YtdgikheibcmcjaaV.PrintLast Go.Proofs.YtdgikheibcmcjaaV.PrintMore

theorem sz_some (t n : Int) (s : ByteArray) (left : Int) : ∃ z, laws_szValue.f t n s left = some z := by
  unfold laws_szValue.f
  split
  · exact ⟨_, rfl⟩
  · exact ⟨_, rfl⟩
theorem to_eq (t n : Int) (s : ByteArray) : laws_toValue.f t n s = some (t, n, s) := rfl

end Go.Proofs.Ytdgikheibcmcjaa.Pure
