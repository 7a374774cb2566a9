/- Plain functions for the Go functions of this seat, and proofs that each call answers as its plain function does; made by this session's program over the kit's printer. -/
import Derived.Test.YtdgikheibcmcjaaProg
import Derived.Below
import Derived.Deep.Draws
import Derived.Deep.AppendLies
import Derived.Maps.AppendAt
import Derived.OwnWalk
import Derived.Laws.BytesArg
import Derived.Laws.MakeOwn
import Derived.Laws.OwnMore
import Derived.Deep.OwnRows
import Derived.Tactics
import Derived.Lib.ConvBytes
import Derived.Laws.Slices
import Derived.WalkKit
import Derived.KernelRfl
import Derived.RowKit3
import Derived.Deep.LoopGhost
import Derived.Deep.QuietTactic
import Derived.BigQuiet
import Derived.WideLaws
import Derived.Deep.DeepCutAuto
import Derived.Deep.CutBlock
import Derived.Deep.RegionHeld3
import Derived.Laws.Rows
import Derived.Lib.AppendStr
import Derived.ArgAppend
import Derived.Laws.IdiomCopy
import Derived.OrdersHeld
import Derived.Laws.BitsLemmas
import Derived.RowKit
import Derived.Test.YtdgikheibcmcjaaUWords
import Derived.Test.YtdgikheibcmcjaaULast
import Derived.Test.YtdgikheibcmcjaaUTab
import Derived.Test.YtdgikheibcmcjaaUFour
import Derived.Test.YtdgikheibcmcjaaUQPut
import Derived.Test.YtdgikheibcmcjaaUApart
import Derived.Test.YtdgikheibcmcjaaUArr
import Derived.Test.YtdgikheibcmcjaaUZeros
import Derived.Test.YtdgikheibcmcjaaUFoot
import Derived.Test.YtdgikheibcmcjaaUKept
import Derived.Test.YtdgikheibcmcjaaUShare
import Derived.Test.YtdgikheibcmcjaaUN
import Derived.Test.YtdgikheibcmcjaaUFootNe
import Derived.Test.YtdgikheibcmcjaaUAt
import Derived.Test.YtdgikheibcmcjaaUEqStruct
import Derived.Test.YtdgikheibcmcjaaURepsOne
import Derived.Test.YtdgikheibcmcjaaUInv
import Derived.Test.YtdgikheibcmcjaaUInvWords
import Derived.Test.YtdgikheibcmcjaaUGuard
import Derived.Test.YtdgikheibcmcjaaUNEv
import Derived.Test.YtdgikheibcmcjaaUMore
import Derived.Test.YtdgikheibcmcjaaUMine
import Derived.Test.YtdgikheibcmcjaaUStr
namespace Go.Proofs.Ytdgikheibcmcjaa.X
open Go.RowKit Go.Proofs.YtdgikheibcmcjaaV.PrintWords Go.Proofs.YtdgikheibcmcjaaV.PrintLast Go.Proofs.YtdgikheibcmcjaaV.PrintMore
attribute [local go_sem] max2_int min2_int max_two min_two max_three min_three max_four min_four   -- for this text's walks alone
set_option linter.unusedVariables false
set_option linter.unusedSimpArgs false
def errW : Option Int → Value
  | none => .nilIface
  | some c => .iface 0 (.int .i64 c)
theorem errW_none : errW none = .nilIface := rfl
theorem errW_some (c : Int) : errW (some c) = .iface 0 (.int .i64 c) := rfl
theorem info5 : (Try.prog.info? 5).map (fun i => (i.zero, i.size, i.bytes)) = some (some (.int .u8 0), 1, 1) := by kernel_rfl
-- the values' own types
end Go.Proofs.Ytdgikheibcmcjaa.X
