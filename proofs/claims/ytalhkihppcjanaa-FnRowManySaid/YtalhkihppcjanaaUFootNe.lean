/- Words for this session's prints: the printer's words over rows whose block may be longer than their capacity; plain theorems and definitions. -/
import Derived.Test.YtalhkihppcjanaaUN
namespace Go.Proofs.YtalhkihppcjanaaV.PrintWords
open Go.RowKit
namespace Kd
section
variable {α : Type} {d : Kd α} {W : World} {g n : Nat} {S ok : Nat → Prop} {A : Option Addr} {ad : Addr} {xs : List α}
end
end Kd
end Go.Proofs.YtalhkihppcjanaaV.PrintWords
