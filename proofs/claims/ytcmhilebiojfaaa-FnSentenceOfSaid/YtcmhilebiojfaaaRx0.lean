/- Each Go function named below returns what the Lean function of its name says, for all arguments at which that is some value; these lines were written by a program of this session, out of the translation. -/
import Derived.Test.YtcmhilebiojfaaaProg
import Derived.Below
import Derived.Deep.Draws
import Derived.Deep.AppendLies
import Derived.Maps.AppendAt
import Derived.OwnWalk
import Derived.Laws.BytesArg
import Derived.Laws.MakeOwn
import Derived.Laws.OwnMore
import Derived.Deep.OwnRows
import Derived.Tactics
import Derived.Lib.ConvBytes
import Derived.Laws.Slices
import Derived.WalkKit
import Derived.KernelRfl
import Derived.RowKit3
import Derived.Deep.LoopGhost
import Derived.Deep.QuietTactic
import Derived.BigQuiet
import Derived.WideLaws
import Derived.Deep.DeepCutAuto
import Derived.Deep.CutBlock
import Derived.Deep.RegionHeld3
import Derived.Laws.Rows
import Derived.Lib.AppendStr
import Derived.ArgAppend
import Derived.Laws.IdiomCopy
import Derived.OrdersHeld
import Derived.Laws.BitsLemmas
import Derived.RowKit
import Derived.Test.YtcmhilebiojfaaaBx
import Derived.Test.YtcmhilebiojfaaaHm
import Derived.Test.YtcmhilebiojfaaaWWords
import Derived.Test.YtcmhilebiojfaaaWLast
import Derived.Test.YtcmhilebiojfaaaWTab
import Derived.Test.YtcmhilebiojfaaaWFour
import Derived.Test.YtcmhilebiojfaaaWQPut
import Derived.Test.YtcmhilebiojfaaaWApart
import Derived.Test.YtcmhilebiojfaaaWArr
import Derived.Test.YtcmhilebiojfaaaWZeros
import Derived.Test.YtcmhilebiojfaaaWFoot
import Derived.Test.YtcmhilebiojfaaaWKept
import Derived.Test.YtcmhilebiojfaaaWShare
import Derived.Test.YtcmhilebiojfaaaWN
import Derived.Test.YtcmhilebiojfaaaWFootNe
import Derived.Test.YtcmhilebiojfaaaWAt
import Derived.Test.YtcmhilebiojfaaaWEqStruct
import Derived.Test.YtcmhilebiojfaaaWRepsOne
import Derived.Test.YtcmhilebiojfaaaWInv
import Derived.Test.YtcmhilebiojfaaaWInvWords
import Derived.Test.YtcmhilebiojfaaaWGuard
import Derived.Test.YtcmhilebiojfaaaWNEv
import Derived.Test.YtcmhilebiojfaaaWMore
namespace Go.Proofs.Ytcmhilebiojfaaa.R
open Go.RowKit Go.Proofs.Ytcmhilebiojfaaa.B Go.Proofs.Ytcmhilebiojfaaa.Hand Go.Proofs.YtcmhilebiojfaaaW.PrintWords Go.Proofs.YtcmhilebiojfaaaW.PrintLast Go.Proofs.YtcmhilebiojfaaaW.PrintMore
attribute [local go_sem] max2_int min2_int max_two min_two max_three min_three max_four min_four   -- for this text's walks alone
set_option linter.unusedVariables false
set_option linter.unusedSimpArgs false



def errW : Option Int → Value
  | none => .nilIface
  | some c => .iface 0 (.int .i64 c)
theorem errW_none : errW none = .nilIface := rfl
theorem errW_some (c : Int) : errW (some c) = .iface 0 (.int .i64 c) := rfl

theorem info3 : (Try.prog.info? 3).map (fun i => (i.zero, i.size, i.bytes)) = some (some (.int .i64 0), 1, 8) := by kernel_rfl
theorem info5 : (Try.prog.info? 5).map (fun i => (i.zero, i.size, i.bytes)) = some (some (.int .u8 0), 1, 1) := by kernel_rfl
theorem info9 : (Try.prog.info? 9).map (fun i => (i.zero, i.size, i.bytes)) = some (some (.string ⟨#[]⟩), 1, 16) := by kernel_rfl
-- the values' own types

end Go.Proofs.Ytcmhilebiojfaaa.R
