/- Words for this session's prints: the printer's words over rows whose block may be longer than their capacity; plain theorems and definitions. -/
import Derived.Test.YtdgikheibcmcjaaUInv
import Derived.Test.YtdgikheibcmcjaaUFootNe
namespace Go.Proofs.YtdgikheibcmcjaaV.PrintWords
open Go.RowKit
end Go.Proofs.YtdgikheibcmcjaaV.PrintWords
namespace Go.Proofs.YtdgikheibcmcjaaV.PrintLast
section
variable {ops : Array Oper} {a : Act} {o og : Oper} {g : Nat} {t : Tmp} {u : Bool}
end
end Go.Proofs.YtdgikheibcmcjaaV.PrintLast
