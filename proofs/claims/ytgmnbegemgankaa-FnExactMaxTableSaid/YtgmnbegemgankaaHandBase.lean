/- areThings, isSet, allWorlds and surpriseOf come to just what the words below tell: isSet and areThings for all arguments, surpriseOf for at most 60 ranks. -/
import Derived.Test.YtgmnbegemgankaaHandAll
import Derived.Test.YtgmnbegemgankaaBx
namespace Go.Proofs.Ytgmnbegemgankaa.Hand
open Go.RowKit Go.Proofs.Ytgmnbegemgankaa.B Go.Proofs.YtgmnbegemgankaaW.PrintWords Go.Proofs.YtgmnbegemgankaaW.PrintLast Go.Proofs.YtgmnbegemgankaaW.PrintMore
set_option linter.unusedVariables false
set_option linter.unusedSimpArgs false

theorem areThings_eq (a : Int) : impl_areThings.f a = some (okT a) := by
  unfold impl_areThings.f okT
  by_cases h : a ≥ 1
  · rw [if_pos h]; simp [show (1 : Int) ≤ a from h]
  · rw [if_neg h]; simp [show ¬ (1 : Int) ≤ a from h]

theorem allWorlds_eq (a : Int) (h : okT a = true) : impl_allWorlds.f a = some (allW a) := by
  unfold impl_allWorlds.f allF; rw [if_pos h]

theorem isSet_eq (t s : Int) : impl_isSet.f t s = some (okS t s) := by
  unfold impl_isSet.f okS
  rw [areThings_eq]
  simp only [Option.bind_some]
  cases h : okT t with
  | false => simp
  | true =>
    rw [allWorlds_eq t h]
    by_cases h0 : s ≥ 0
    · simp [h0, show (0 : Int) ≤ s from h0]
    · simp [h0, show ¬ (0 : Int) ≤ s from h0]

theorem okS_cases {t s : Int} (h : okS t s = true) : okT t = true ∧ 0 ≤ s ∧ s ≤ allW t ∧ s ≤ 255 := by
  unfold okS at h
  simp only [Bool.and_eq_true, decide_eq_true_eq] at h
  obtain ⟨h1, h2, h3⟩ := h
  have : allW t ≤ 255 := by rcases okT_cases h1 with rfl | rfl | rfl <;> decide
  exact ⟨h1, h2, h3, by omega⟩

theorem allW_nat {t : Int} (h : okT t = true) : impl_allWorlds.f t = some ((((allW t).toNat + 1 : Nat) : Int) - 1) ∧ (allW t).toNat + 1 ≤ 256 := by
  rcases okT_cases h with rfl | rfl | rfl <;> exact ⟨by decide, by decide⟩

theorem surpriseOf_l0 (a : Nat) (l : List Int) (ha : a < 2 ^ 62) (hl : l.length ≤ 60) : ∀ (d i k : Nat), i + d = l.length → d < k →
    impl_surpriseOf.l0 k a (leastN l a i) l (l.length : Int) i = some (least l a) := by
  intro d
  induction d with
  | zero =>
    intro i k hi hk
    obtain ⟨m, rfl⟩ : ∃ m, k = m + 1 := ⟨k - 1, by omega⟩
    obtain rfl : i = l.length := by omega
    simp only [impl_surpriseOf.l0]
    rw [if_neg (by omega)]; rfl
  | succ d ih =>
    intro i k hi hk
    obtain ⟨m, rfl⟩ : ∃ m, k = m + 1 := ⟨k - 1, by omega⟩
    have e1 : wrap64 ((i : Int) + 1) = ((i + 1 : Nat) : Int) := by rw [w64 (by omega) (by omega)]; simp
    have hb : bit (a : Int) i = a.testBit i := by unfold bit; simp
    have ih1 := ih (i + 1) m (by omega) (by omega)
    simp only [leastN, hb] at ih1
    simp only [impl_surpriseOf.l0]
    rw [if_pos (by omega), if_pos (by omega), if_pos (by omega), and_one a i ha (by omega), e1]
    cases ht : a.testBit i with
    | true => rw [ht] at ih1; simpa using ih1
    | false => rw [ht] at ih1; simpa using ih1

theorem surpriseOf_eq (l : List Int) (s : Int) (k : Nat) (h0 : 0 ≤ s) (h1 : s < 4611686018427387904) (hl : l.length ≤ 60) (hk : l.length < k) : impl_surpriseOf.f k l s = some (least l s) := by
  obtain ⟨a, rfl⟩ := Int.eq_ofNat_of_zero_le h0
  exact surpriseOf_l0 a l (by omega) hl l.length 0 k (by omega) hk

end Go.Proofs.Ytgmnbegemgankaa.Hand
