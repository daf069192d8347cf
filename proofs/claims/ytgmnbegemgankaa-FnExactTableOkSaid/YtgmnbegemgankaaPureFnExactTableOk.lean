/- The law that the program's TableOk is the reference's answers true, for all arguments. -/
import Derived.Test.YtgmnbegemgankaaLemE
import Derived.Test.YtgmnbegemgankaaPx2
namespace Go.Proofs.Ytgmnbegemgankaa.Pure
open Go.RowKit Go.Proofs.Ytgmnbegemgankaa.B Go.Proofs.Ytgmnbegemgankaa.P Go.Proofs.Ytgmnbegemgankaa.Hand Go.Proofs.Ytgmnbegemgankaa.L Go.Proofs.YtgmnbegemgankaaW.PrintWords Go.Proofs.YtgmnbegemgankaaW.PrintLast Go.Proofs.YtgmnbegemgankaaW.PrintMore
set_option linter.unusedVariables false
set_option linter.unusedSimpArgs false

theorem FnExactTableOk : laws_FnExactTableOk.Pure := by
  intro t l _ _ _ _
  refine ⟨l.length + 100, ?_⟩
  unfold laws_FnExactTableOk.f
  by_cases hl : (l.length : Int) > 1048576
  · rw [if_pos hl]
  · rw [if_neg hl, toIntS_eq l _ (by omega) (by omega)]
    simp only [Option.bind_some]
    rw [sTableOk_eq t l _ (by omega) (by omega)]
    simp only [Option.bind_some]
    rw [TableOk_eq t l]
    simp only [Option.bind_some]
    rw [if_neg (by simp), eqIntS_refl l _ (by omega) (by omega)]
    simp

end Go.Proofs.Ytgmnbegemgankaa.Pure
