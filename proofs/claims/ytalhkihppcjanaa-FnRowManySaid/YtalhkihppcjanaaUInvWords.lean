/- Words for this session's prints: the printer's words over rows whose block may be longer than their capacity; plain theorems and definitions. -/
import Derived.Test.YtalhkihppcjanaaUInv
import Derived.Test.YtalhkihppcjanaaUFootNe
namespace Go.Proofs.YtalhkihppcjanaaV.PrintWords
open Go.RowKit
end Go.Proofs.YtalhkihppcjanaaV.PrintWords
namespace Go.Proofs.YtalhkihppcjanaaV.PrintLast
section
variable {ops : Array Oper} {a : Act} {o og : Oper} {g : Nat} {t : Tmp} {u : Bool}
end
end Go.Proofs.YtalhkihppcjanaaV.PrintLast
