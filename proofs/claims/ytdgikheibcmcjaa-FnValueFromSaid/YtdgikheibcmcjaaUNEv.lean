/- Words for this session's prints: the printer's words over rows whose block may be longer than their capacity; plain theorems and definitions. -/
import Derived.Test.YtdgikheibcmcjaaUN
namespace Go.Proofs.YtdgikheibcmcjaaV.PrintWords
open Go.RowKit
namespace Kd
section
variable {α : Type} {d : Kd α} {e base n cap g : Nat} {ok ok' okp : Nat → Prop} {w w1 W : World} {v v1 : Value} {xs ys : List α}
end
section
variable {P : Program} {ops : Array Oper} {rest : List Oper} {o : Oper} {a : Act} {Q : Exit → Act → World → Prop} {Kc : Act → World → Prop} {α : Type}
end
end Kd
end Go.Proofs.YtdgikheibcmcjaaV.PrintWords
