/- Each Go function named below returns what the Lean function of its name says, for all arguments at which that is some value; these lines were written by a program of this session, out of the translation. -/
import Derived.Test.YtogifggjcdcodaaProg
import Derived.Below
import Derived.Deep.Draws
import Derived.Deep.AppendLies
import Derived.Maps.AppendAt
import Derived.OwnWalk
import Derived.Laws.BytesArg
import Derived.Laws.MakeOwn
import Derived.Laws.OwnMore
import Derived.Deep.OwnRows
import Derived.Tactics
import Derived.Lib.ConvBytes
import Derived.Laws.Slices
import Derived.WalkKit
import Derived.KernelRfl
import Derived.RowKit3
import Derived.Deep.LoopGhost
import Derived.Deep.QuietTactic
import Derived.BigQuiet
import Derived.WideLaws
import Derived.Deep.DeepCutAuto
import Derived.Deep.CutBlock
import Derived.Deep.RegionHeld3
import Derived.Laws.Rows
import Derived.Lib.AppendStr
import Derived.ArgAppend
import Derived.Laws.IdiomCopy
import Derived.OrdersHeld
import Derived.Laws.BitsLemmas
import Derived.RowKit
import Derived.Test.YtogifggjcdcodaaBx
import Derived.Test.YtogifggjcdcodaaHm
import Derived.Test.YtogifggjcdcodaaWWords
import Derived.Test.YtogifggjcdcodaaWLast
import Derived.Test.YtogifggjcdcodaaWTab
import Derived.Test.YtogifggjcdcodaaWFour
import Derived.Test.YtogifggjcdcodaaWQPut
import Derived.Test.YtogifggjcdcodaaWApart
import Derived.Test.YtogifggjcdcodaaWArr
import Derived.Test.YtogifggjcdcodaaWZeros
import Derived.Test.YtogifggjcdcodaaWFoot
import Derived.Test.YtogifggjcdcodaaWKept
import Derived.Test.YtogifggjcdcodaaWShare
import Derived.Test.YtogifggjcdcodaaWN
import Derived.Test.YtogifggjcdcodaaWFootNe
import Derived.Test.YtogifggjcdcodaaWAt
import Derived.Test.YtogifggjcdcodaaWEqStruct
import Derived.Test.YtogifggjcdcodaaWRepsOne
import Derived.Test.YtogifggjcdcodaaWInv
import Derived.Test.YtogifggjcdcodaaWInvWords
import Derived.Test.YtogifggjcdcodaaWGuard
import Derived.Test.YtogifggjcdcodaaWNEv
import Derived.Test.YtogifggjcdcodaaWMore
namespace Go.Proofs.Ytogifggjcdcodaa.Q
open Go.RowKit Go.Proofs.Ytogifggjcdcodaa.B Go.Proofs.Ytogifggjcdcodaa.Hand Go.Proofs.YtogifggjcdcodaaW.PrintWords Go.Proofs.YtogifggjcdcodaaW.PrintLast Go.Proofs.YtogifggjcdcodaaW.PrintMore
attribute [local go_sem] max2_int min2_int max_two min_two max_three min_three max_four min_four   -- for this text's walks alone
set_option linter.unusedVariables false
set_option linter.unusedSimpArgs false



def errW : Option Int → Value
  | none => .nilIface
  | some c => .iface 0 (.int .i64 c)
theorem errW_none : errW none = .nilIface := rfl
theorem errW_some (c : Int) : errW (some c) = .iface 0 (.int .i64 c) := rfl

theorem info3 : (Try.prog.info? 3).map (fun i => (i.zero, i.size, i.bytes)) = some (some (.int .i64 0), 1, 8) := by kernel_rfl
-- the values' own types

end Go.Proofs.Ytogifggjcdcodaa.Q
