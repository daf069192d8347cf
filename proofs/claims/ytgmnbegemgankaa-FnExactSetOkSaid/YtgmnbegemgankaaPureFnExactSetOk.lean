/- The law that the program's SetOk is the reference's answers true, for all arguments. -/
import Derived.Test.YtgmnbegemgankaaLemA
import Derived.Test.YtgmnbegemgankaaPx1
namespace Go.Proofs.Ytgmnbegemgankaa.Pure
open Go.RowKit Go.Proofs.Ytgmnbegemgankaa.B Go.Proofs.Ytgmnbegemgankaa.P Go.Proofs.Ytgmnbegemgankaa.Hand Go.Proofs.Ytgmnbegemgankaa.L Go.Proofs.YtgmnbegemgankaaW.PrintWords Go.Proofs.YtgmnbegemgankaaW.PrintLast Go.Proofs.YtgmnbegemgankaaW.PrintMore
set_option linter.unusedVariables false
set_option linter.unusedSimpArgs false

theorem FnExactSetOk : laws_FnExactSetOk.Pure := by
  intro a0 a1 _ _
  unfold laws_FnExactSetOk.f
  rw [sSetOk_eq, SetOk_eq]
  simp

end Go.Proofs.Ytgmnbegemgankaa.Pure
