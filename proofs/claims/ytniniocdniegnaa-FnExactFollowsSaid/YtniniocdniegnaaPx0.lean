/- Each Go function named below returns what the Lean function of its name says, for all arguments at which that is some value; these lines were written by a program of this session, out of the translation. -/
import Derived.Test.YtniniocdniegnaaProg
import Derived.Below
import Derived.Deep.Draws
import Derived.Deep.AppendLies
import Derived.Maps.AppendAt
import Derived.OwnWalk
import Derived.Laws.BytesArg
import Derived.Laws.MakeOwn
import Derived.Laws.OwnMore
import Derived.Deep.OwnRows
import Derived.Tactics
import Derived.Lib.ConvBytes
import Derived.Laws.Slices
import Derived.WalkKit
import Derived.KernelRfl
import Derived.RowKit3
import Derived.Deep.LoopGhost
import Derived.Deep.QuietTactic
import Derived.BigQuiet
import Derived.WideLaws
import Derived.Deep.DeepCutAuto
import Derived.Deep.CutBlock
import Derived.Deep.RegionHeld3
import Derived.Laws.Rows
import Derived.Lib.AppendStr
import Derived.ArgAppend
import Derived.Laws.IdiomCopy
import Derived.OrdersHeld
import Derived.Laws.BitsLemmas
import Derived.RowKit
import Derived.Test.YtniniocdniegnaaBx
import Derived.Test.YtniniocdniegnaaHm
import Derived.Test.YtniniocdniegnaaWWords
import Derived.Test.YtniniocdniegnaaWLast
import Derived.Test.YtniniocdniegnaaWTab
import Derived.Test.YtniniocdniegnaaWFour
import Derived.Test.YtniniocdniegnaaWQPut
import Derived.Test.YtniniocdniegnaaWApart
import Derived.Test.YtniniocdniegnaaWArr
import Derived.Test.YtniniocdniegnaaWZeros
import Derived.Test.YtniniocdniegnaaWFoot
import Derived.Test.YtniniocdniegnaaWKept
import Derived.Test.YtniniocdniegnaaWShare
import Derived.Test.YtniniocdniegnaaWN
import Derived.Test.YtniniocdniegnaaWFootNe
import Derived.Test.YtniniocdniegnaaWAt
import Derived.Test.YtniniocdniegnaaWEqStruct
import Derived.Test.YtniniocdniegnaaWRepsOne
import Derived.Test.YtniniocdniegnaaWInv
import Derived.Test.YtniniocdniegnaaWInvWords
import Derived.Test.YtniniocdniegnaaWGuard
import Derived.Test.YtniniocdniegnaaWNEv
import Derived.Test.YtniniocdniegnaaWMore
namespace Go.Proofs.Ytniniocdniegnaa.P
open Go.RowKit Go.Proofs.Ytniniocdniegnaa.B Go.Proofs.Ytniniocdniegnaa.Hand Go.Proofs.YtniniocdniegnaaW.PrintWords Go.Proofs.YtniniocdniegnaaW.PrintLast Go.Proofs.YtniniocdniegnaaW.PrintMore
attribute [local go_sem] max2_int min2_int max_two min_two max_three min_three max_four min_four   -- for this text's walks alone
set_option linter.unusedVariables false
set_option linter.unusedSimpArgs false



def errW : Option Int → Value
  | none => .nilIface
  | some c => .iface 0 (.int .i64 c)
theorem errW_none : errW none = .nilIface := rfl
theorem errW_some (c : Int) : errW (some c) = .iface 0 (.int .i64 c) := rfl

theorem info3 : (Try.prog.info? 3).map (fun i => (i.zero, i.size, i.bytes)) = some (some (.int .i64 0), 1, 8) := by kernel_rfl
theorem info5 : (Try.prog.info? 5).map (fun i => (i.zero, i.size, i.bytes)) = some (some (.int .u8 0), 1, 1) := by kernel_rfl
theorem info9 : (Try.prog.info? 9).map (fun i => (i.zero, i.size, i.bytes)) = some (some (.string ⟨#[]⟩), 1, 16) := by kernel_rfl
-- the values' own types

end Go.Proofs.Ytniniocdniegnaa.P
