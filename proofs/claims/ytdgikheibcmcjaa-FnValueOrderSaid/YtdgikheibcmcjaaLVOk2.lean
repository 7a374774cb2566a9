/- The program's ValueOk tells what it is to be a value; lemmas. -/
import Derived.Test.YtdgikheibcmcjaaX24
import Derived.Test.YtdgikheibcmcjaaLVOk
import Derived.Test.YtdgikheibcmcjaaVMore
set_option linter.unusedVariables false
set_option linter.unusedSimpArgs false
namespace Go.Proofs.Ytdgikheibcmcjaa.Pure
open Go.RowKit Go.Proofs.Ytdgikheibcmcjaa.X Go.Proofs.YtdgikheibcmcjaaV.PrintWords Go.Proofs.YtdgikheibcmcjaaV.PrintLast Go.Proofs.YtdgikheibcmcjaaV.PrintMore

theorem impl_valueOk (t n : Int) (s : ByteArray) : impl_ValueOk.f t n s = some (VOk t n s) := by
  unfold impl_ValueOk.f
  rw [impl_ok]
  rfl

end Go.Proofs.Ytdgikheibcmcjaa.Pure
