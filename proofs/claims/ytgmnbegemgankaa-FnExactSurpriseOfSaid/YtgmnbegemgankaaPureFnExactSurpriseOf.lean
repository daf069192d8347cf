/- The law that the program's SurpriseOf is the reference's answers true, for all arguments. -/
import Derived.Test.YtgmnbegemgankaaLemE
import Derived.Test.YtgmnbegemgankaaPx11
namespace Go.Proofs.Ytgmnbegemgankaa.Pure
open Go.RowKit Go.Proofs.Ytgmnbegemgankaa.B Go.Proofs.Ytgmnbegemgankaa.P Go.Proofs.Ytgmnbegemgankaa.Hand Go.Proofs.Ytgmnbegemgankaa.L Go.Proofs.YtgmnbegemgankaaW.PrintWords Go.Proofs.YtgmnbegemgankaaW.PrintLast Go.Proofs.YtgmnbegemgankaaW.PrintMore
set_option linter.unusedVariables false
set_option linter.unusedSimpArgs false

theorem FnExactSurpriseOf : laws_FnExactSurpriseOf.Pure := by
  intro t l s _ _ _ _ _
  refine ⟨l.length + 100, ?_⟩
  unfold laws_FnExactSurpriseOf.f
  by_cases hl : (l.length : Int) > 1048576
  · rw [if_pos hl]
  · rw [if_neg hl, toIntS_eq l _ (by omega) (by omega)]
    simp only [Option.bind_some]
    rw [sSurpriseOf_eq t l s _ (by omega) (by omega)]
    simp only [Option.bind_some]
    rw [SurpriseOf_eq t l s _ (by omega)]
    simp only [Option.bind_some]
    rw [if_pos trivial, eqIntS_refl l _ (by omega) (by omega)]
    simp

end Go.Proofs.Ytgmnbegemgankaa.Pure
