/- The law that the program's MaxTable is the reference's answers true, for all arguments. -/
import Derived.Test.YtgmnbegemgankaaLemE
import Derived.Test.YtgmnbegemgankaaPx7
namespace Go.Proofs.Ytgmnbegemgankaa.Pure
open Go.RowKit Go.Proofs.Ytgmnbegemgankaa.B Go.Proofs.Ytgmnbegemgankaa.P Go.Proofs.Ytgmnbegemgankaa.Hand Go.Proofs.Ytgmnbegemgankaa.L Go.Proofs.YtgmnbegemgankaaW.PrintWords Go.Proofs.YtgmnbegemgankaaW.PrintLast Go.Proofs.YtgmnbegemgankaaW.PrintMore
set_option linter.unusedVariables false
set_option linter.unusedSimpArgs false

theorem FnExactMaxTable : laws_FnExactMaxTable.Pure := by
  intro t c _ _
  obtain ⟨k, hk⟩ : ∃ k : Nat, 1000 ≤ k := ⟨1000, Nat.le_refl _⟩
  refine ⟨k, ?_⟩
  unfold laws_FnExactMaxTable.f
  rw [sMaxTable_eq t c k (by omega)]
  simp only [Option.bind_some]
  rw [MaxTable_eq t c]
  simp only [Option.bind_some]
  have hg := maxTab_len t c
  generalize (if t ≤ 2 ∧ okS t c = true ∧ ¬ c = 0 then maxTab t c else []) = g at hg
  obtain ⟨xs, m1, m2, m3⟩ := mark_held g k (by omega) (by omega)
  rw [eqIntS_refl g k (by omega) (by omega)]
  simp only [Option.bind_some, if_true]
  rw [m1]
  simp only [Option.bind_some]
  rw [m3]
  simp only [Option.bind_some]
  rw [if_neg (by omega), if_pos trivial]
  rw [if_neg (by omega)]
  simp

end Go.Proofs.Ytgmnbegemgankaa.Pure
