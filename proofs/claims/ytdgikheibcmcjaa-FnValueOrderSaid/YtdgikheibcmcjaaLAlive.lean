/- The fixed answer of the laws; a lemma. -/
import Derived.Test.YtdgikheibcmcjaaX24
import Derived.Test.YtdgikheibcmcjaaVMore
set_option linter.unusedVariables false
set_option linter.unusedSimpArgs false
namespace Go.Proofs.Ytdgikheibcmcjaa.Pure
open Go.RowKit Go.Proofs.Ytdgikheibcmcjaa.X Go.Proofs.YtdgikheibcmcjaaV.PrintWords Go.Proofs.YtdgikheibcmcjaaV.PrintLast Go.Proofs.YtdgikheibcmcjaaV.PrintMore

theorem alive_eq : laws_alive.f = some true := by decide +kernel

end Go.Proofs.Ytdgikheibcmcjaa.Pure
