/- The law that none and all are sets answers true, at every code of bytes. -/
import Derived.Test.YtgmnbegemgankaaLemC
import Derived.Test.YtgmnbegemgankaaPx7
namespace Go.Proofs.Ytgmnbegemgankaa.Pure
open Go.RowKit Go.Proofs.Ytgmnbegemgankaa.B Go.Proofs.Ytgmnbegemgankaa.P Go.Proofs.Ytgmnbegemgankaa.Hand Go.Proofs.Ytgmnbegemgankaa.L Go.Proofs.YtgmnbegemgankaaW.PrintWords Go.Proofs.YtgmnbegemgankaaW.PrintLast Go.Proofs.YtgmnbegemgankaaW.PrintMore
set_option linter.unusedVariables false
set_option linter.unusedSimpArgs false

theorem draw_ok (l0 : List Int) (hb : ∀ x ∈ l0, (Lit.int .u8 x).wf = true) : ∃ t s : Int, -1 ≤ t ∧ t ≤ 4 ∧ -1 ≤ s ∧ s ≤ 256 ∧ spec_DrawSetOk.f 20 l0 = some (t, s) := by
  obtain ⟨b, hB, ho⟩ := open_ok l0 hb
  obtain ⟨t, p1, h1, h2, t0, t1, ht⟩ := things_ok hB 0 9 (by omega) (by omega) (by omega) (by omega)
  obtain ⟨s, p2, h3, h4, s0, s1, hs⟩ := set_ok hB p1 t 4 (by omega) (by omega) (by omega) (by omega)
  refine ⟨t, s, t0, t1, s0, s1, ?_⟩
  unfold spec_DrawSetOk.f
  rw [ho]
  simp only [Option.bind_some]
  rw [ht 20 (by omega)]
  simp only [Option.bind_some]
  rw [hs 20 (by omega)]
  simp only [Option.bind_some]

theorem FnSetOk : laws_FnSetOk.Pure := by
  intro l0 _ _ hb
  refine ⟨20, ?_⟩
  unfold laws_FnSetOk.f
  by_cases hl : (l0.length : Int) > 1048576
  · rw [if_pos hl]
  · rw [if_neg hl]
    obtain ⟨t, s, t0, t1, s0, s1, hd⟩ := draw_ok l0 hb
    rw [hd]
    simp only [Option.bind_some]
    rw [SetOk_eq, sSetOk_eq, SetOk_eq, WorldsOf_eq]
    simp only [Option.bind_some]
    rw [if_neg (by simp)]
    have e : (okS t 0 == decide (nW t > 0)) = true := by
      rcases (show t = -1 ∨ t = 0 ∨ t = 1 ∨ t = 2 ∨ t = 3 ∨ t = 4 by omega) with rfl | rfl | rfl | rfl | rfl | rfl <;> decide +kernel
    rw [if_pos e]
    cases h : okS t s with
    | false => rw [if_neg (by simp), alive_eq]; rfl
    | true =>
      obtain ⟨a1, a2, a3, a4⟩ := okS_cases h
      have a5 : allW t ≤ 255 := by rcases okT_cases a1 with rfl | rfl | rfl <;> decide
      rw [if_pos rfl, whole_eq t a1]
      simp only [Option.bind_some]
      rw [w64 (by omega) (by omega), SetOk_eq]
      have e2 : okS t (allW t - s) = true := by
        unfold okS
        rw [a1, decide_eq_true (show 0 ≤ allW t - s by omega), decide_eq_true (show allW t - s ≤ allW t by omega)]; rfl
      rw [e2]
      simp only [Option.bind_some, if_true]
      rw [alive_eq]; rfl

end Go.Proofs.Ytgmnbegemgankaa.Pure
