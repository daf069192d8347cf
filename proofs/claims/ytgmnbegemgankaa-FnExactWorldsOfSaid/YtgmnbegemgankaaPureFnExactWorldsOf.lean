/- The law that the program's WorldsOf is the reference's answers true, for all arguments. -/
import Derived.Test.YtgmnbegemgankaaLemA
import Derived.Test.YtgmnbegemgankaaPx1
namespace Go.Proofs.Ytgmnbegemgankaa.Pure
open Go.RowKit Go.Proofs.Ytgmnbegemgankaa.B Go.Proofs.Ytgmnbegemgankaa.P Go.Proofs.Ytgmnbegemgankaa.Hand Go.Proofs.Ytgmnbegemgankaa.L Go.Proofs.YtgmnbegemgankaaW.PrintWords Go.Proofs.YtgmnbegemgankaaW.PrintLast Go.Proofs.YtgmnbegemgankaaW.PrintMore
set_option linter.unusedVariables false
set_option linter.unusedSimpArgs false

theorem FnExactWorldsOf : laws_FnExactWorldsOf.Pure := by
  intro a0 _
  unfold laws_FnExactWorldsOf.f
  rw [sWorldsOf_eq, WorldsOf_eq]
  simp

end Go.Proofs.Ytgmnbegemgankaa.Pure
