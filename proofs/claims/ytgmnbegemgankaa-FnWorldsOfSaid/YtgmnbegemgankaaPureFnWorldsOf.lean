/- The law that a thing more doubles the worlds answers true, at every code of bytes. -/
import Derived.Test.YtgmnbegemgankaaLemB
import Derived.Test.YtgmnbegemgankaaPx1
namespace Go.Proofs.Ytgmnbegemgankaa.Pure
open Go.RowKit Go.Proofs.Ytgmnbegemgankaa.B Go.Proofs.Ytgmnbegemgankaa.P Go.Proofs.Ytgmnbegemgankaa.Hand Go.Proofs.Ytgmnbegemgankaa.L Go.Proofs.YtgmnbegemgankaaW.PrintWords Go.Proofs.YtgmnbegemgankaaW.PrintLast Go.Proofs.YtgmnbegemgankaaW.PrintMore
set_option linter.unusedVariables false
set_option linter.unusedSimpArgs false

theorem draw_ok (l0 : List Int) (hb : ∀ x ∈ l0, (Lit.int .u8 x).wf = true) : ∃ t : Int, -1 ≤ t ∧ t ≤ 5 ∧ spec_DrawWorldsOf.f 3 l0 = some t := by
  obtain ⟨b, hB, ho⟩ := open_ok l0 hb
  obtain ⟨v, v0, v1, hv⟩ := pick_ok hB 0 7 (by omega) (by omega) (by omega) (by omega)
  refine ⟨v - 1, by omega, by omega, ?_⟩
  unfold spec_DrawWorldsOf.f
  rw [ho]
  simp only [Option.bind_some]
  rw [hv 3 (by omega)]
  simp only [Option.bind_some]
  rw [w64 (by omega) (by omega)]

theorem FnWorldsOf : laws_FnWorldsOf.Pure := by
  intro l0 _ _ hb
  refine ⟨3, ?_⟩
  unfold laws_FnWorldsOf.f
  by_cases hl : (l0.length : Int) > 1048576
  · rw [if_pos hl]
  · rw [if_neg hl]
    obtain ⟨t, t0, t1, ht⟩ := draw_ok l0 hb
    rw [ht]
    simp only [Option.bind_some]
    clear ht
    rcases (show t = -1 ∨ t = 0 ∨ t = 1 ∨ t = 2 ∨ t = 3 ∨ t = 4 ∨ t = 5 by omega) with rfl | rfl | rfl | rfl | rfl | rfl | rfl <;> decide +kernel

end Go.Proofs.Ytgmnbegemgankaa.Pure
