/- Words for this session's prints: the printer's words over rows whose block may be longer than their capacity; plain theorems and definitions. -/
import Derived.Test.YtalhkihppcjanaaUTab
namespace Go.Proofs.YtalhkihppcjanaaV.PrintLast
section
variable {P : Program} {ops : Array Oper} {Q : Exit → Act → World → Prop} {md : Region.Mode} {S : World → Prop} {ds : List Nat} {T : Bool × List (List Nat × List Nat)}
end
end Go.Proofs.YtalhkihppcjanaaV.PrintLast
