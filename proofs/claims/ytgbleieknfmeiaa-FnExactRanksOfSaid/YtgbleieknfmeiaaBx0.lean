/- Each Go function named below returns what the Lean function of its name says, for all arguments at which that is some value; these lines were written by a program of this session, out of the translation. -/
import Derived.Test.YtgbleieknfmeiaaProg
import Derived.Below
import Derived.Deep.Draws
import Derived.Deep.AppendLies
import Derived.Maps.AppendAt
import Derived.OwnWalk
import Derived.Laws.BytesArg
import Derived.Laws.MakeOwn
import Derived.Laws.OwnMore
import Derived.Deep.OwnRows
import Derived.Tactics
import Derived.Lib.ConvBytes
import Derived.Laws.Slices
import Derived.WalkKit
import Derived.KernelRfl
import Derived.RowKit3
import Derived.Deep.LoopGhost
import Derived.Deep.QuietTactic
import Derived.BigQuiet
import Derived.WideLaws
import Derived.Deep.DeepCutAuto
import Derived.Deep.CutBlock
import Derived.Deep.RegionHeld3
import Derived.Laws.Rows
import Derived.Lib.AppendStr
import Derived.ArgAppend
import Derived.Laws.IdiomCopy
import Derived.OrdersHeld
import Derived.Laws.BitsLemmas
import Derived.RowKit
import Derived.Test.YtgbleieknfmeiaaHandAll
import Derived.Test.YtgbleieknfmeiaaWWords
import Derived.Test.YtgbleieknfmeiaaWLast
import Derived.Test.YtgbleieknfmeiaaWTab
import Derived.Test.YtgbleieknfmeiaaWFour
import Derived.Test.YtgbleieknfmeiaaWQPut
import Derived.Test.YtgbleieknfmeiaaWApart
import Derived.Test.YtgbleieknfmeiaaWArr
import Derived.Test.YtgbleieknfmeiaaWZeros
import Derived.Test.YtgbleieknfmeiaaWFoot
import Derived.Test.YtgbleieknfmeiaaWKept
import Derived.Test.YtgbleieknfmeiaaWShare
import Derived.Test.YtgbleieknfmeiaaWN
import Derived.Test.YtgbleieknfmeiaaWFootNe
import Derived.Test.YtgbleieknfmeiaaWAt
import Derived.Test.YtgbleieknfmeiaaWEqStruct
import Derived.Test.YtgbleieknfmeiaaWRepsOne
import Derived.Test.YtgbleieknfmeiaaWInv
import Derived.Test.YtgbleieknfmeiaaWInvWords
import Derived.Test.YtgbleieknfmeiaaWGuard
import Derived.Test.YtgbleieknfmeiaaWNEv
import Derived.Test.YtgbleieknfmeiaaWMore
namespace Go.Proofs.Ytgbleieknfmeiaa.B
open Go.RowKit Go.Proofs.Ytgbleieknfmeiaa.Hand Go.Proofs.YtgbleieknfmeiaaW.PrintWords Go.Proofs.YtgbleieknfmeiaaW.PrintLast Go.Proofs.YtgbleieknfmeiaaW.PrintMore
attribute [local go_sem] max2_int min2_int max_two min_two max_three min_three max_four min_four   -- for this text's walks alone
set_option linter.unusedVariables false
set_option linter.unusedSimpArgs false



def errW : Option Int → Value
  | none => .nilIface
  | some c => .iface 0 (.int .i64 c)
theorem errW_none : errW none = .nilIface := rfl
theorem errW_some (c : Int) : errW (some c) = .iface 0 (.int .i64 c) := rfl

-- the values' own types

end Go.Proofs.Ytgbleieknfmeiaa.B
