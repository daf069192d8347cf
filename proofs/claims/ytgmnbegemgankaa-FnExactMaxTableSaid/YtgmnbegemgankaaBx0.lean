/- Each Go function named below returns what the Lean function of its name says, for all arguments at which that is some value; these lines were written by a program of this session, out of the translation. -/
import Derived.Test.YtgmnbegemgankaaProg
import Derived.Below
import Derived.Deep.Draws
import Derived.Deep.AppendLies
import Derived.Maps.AppendAt
import Derived.OwnWalk
import Derived.Laws.BytesArg
import Derived.Laws.MakeOwn
import Derived.Laws.OwnMore
import Derived.Deep.OwnRows
import Derived.Tactics
import Derived.Lib.ConvBytes
import Derived.Laws.Slices
import Derived.WalkKit
import Derived.KernelRfl
import Derived.RowKit3
import Derived.Deep.LoopGhost
import Derived.Deep.QuietTactic
import Derived.BigQuiet
import Derived.WideLaws
import Derived.Deep.DeepCutAuto
import Derived.Deep.CutBlock
import Derived.Deep.RegionHeld3
import Derived.Laws.Rows
import Derived.Lib.AppendStr
import Derived.ArgAppend
import Derived.Laws.IdiomCopy
import Derived.OrdersHeld
import Derived.Laws.BitsLemmas
import Derived.RowKit
import Derived.Test.YtgmnbegemgankaaHandAll
import Derived.Test.YtgmnbegemgankaaWWords
import Derived.Test.YtgmnbegemgankaaWLast
import Derived.Test.YtgmnbegemgankaaWTab
import Derived.Test.YtgmnbegemgankaaWFour
import Derived.Test.YtgmnbegemgankaaWQPut
import Derived.Test.YtgmnbegemgankaaWApart
import Derived.Test.YtgmnbegemgankaaWArr
import Derived.Test.YtgmnbegemgankaaWZeros
import Derived.Test.YtgmnbegemgankaaWFoot
import Derived.Test.YtgmnbegemgankaaWKept
import Derived.Test.YtgmnbegemgankaaWShare
import Derived.Test.YtgmnbegemgankaaWN
import Derived.Test.YtgmnbegemgankaaWFootNe
import Derived.Test.YtgmnbegemgankaaWAt
import Derived.Test.YtgmnbegemgankaaWEqStruct
import Derived.Test.YtgmnbegemgankaaWRepsOne
import Derived.Test.YtgmnbegemgankaaWInv
import Derived.Test.YtgmnbegemgankaaWInvWords
import Derived.Test.YtgmnbegemgankaaWGuard
import Derived.Test.YtgmnbegemgankaaWNEv
import Derived.Test.YtgmnbegemgankaaWMore
namespace Go.Proofs.Ytgmnbegemgankaa.B
open Go.RowKit Go.Proofs.Ytgmnbegemgankaa.Hand Go.Proofs.YtgmnbegemgankaaW.PrintWords Go.Proofs.YtgmnbegemgankaaW.PrintLast Go.Proofs.YtgmnbegemgankaaW.PrintMore
attribute [local go_sem] max2_int min2_int max_two min_two max_three min_three max_four min_four   -- for this text's walks alone
set_option linter.unusedVariables false
set_option linter.unusedSimpArgs false



def errW : Option Int → Value
  | none => .nilIface
  | some c => .iface 0 (.int .i64 c)
theorem errW_none : errW none = .nilIface := rfl
theorem errW_some (c : Int) : errW (some c) = .iface 0 (.int .i64 c) := rfl

-- the values' own types

end Go.Proofs.Ytgmnbegemgankaa.B
