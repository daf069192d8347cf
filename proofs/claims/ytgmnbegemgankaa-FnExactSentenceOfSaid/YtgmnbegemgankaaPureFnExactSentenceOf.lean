/- The law that the program's SentenceOf is the reference's answers true, for all arguments. -/
import Derived.Test.YtgmnbegemgankaaLemA
import Derived.Test.YtgmnbegemgankaaPx8
import Derived.Test.YtgmnbegemgankaaPx9
namespace Go.Proofs.Ytgmnbegemgankaa.Pure
open Go.RowKit Go.Proofs.Ytgmnbegemgankaa.B Go.Proofs.Ytgmnbegemgankaa.P Go.Proofs.Ytgmnbegemgankaa.Hand Go.Proofs.Ytgmnbegemgankaa.L Go.Proofs.YtgmnbegemgankaaW.PrintWords Go.Proofs.YtgmnbegemgankaaW.PrintLast Go.Proofs.YtgmnbegemgankaaW.PrintMore
set_option linter.unusedVariables false
set_option linter.unusedSimpArgs false

set_option maxRecDepth 100000 in
theorem at1 : ∀ s : Fin 4, laws_FnExactSentenceOf.f 60 1 ((s.val : Nat) : Int) = some true := by decide +kernel
set_option maxRecDepth 100000 in
theorem at2 : ∀ s : Fin 16, laws_FnExactSentenceOf.f 60 2 ((s.val : Nat) : Int) = some true := by decide +kernel
set_option maxRecDepth 100000 in
theorem at3_0 : ∀ s : Fin 32, laws_FnExactSentenceOf.f 60 3 ((s.val + 0 : Nat) : Int) = some true := by decide +kernel
set_option maxRecDepth 100000 in
theorem at3_1 : ∀ s : Fin 32, laws_FnExactSentenceOf.f 60 3 ((s.val + 32 : Nat) : Int) = some true := by decide +kernel
set_option maxRecDepth 100000 in
theorem at3_2 : ∀ s : Fin 32, laws_FnExactSentenceOf.f 60 3 ((s.val + 64 : Nat) : Int) = some true := by decide +kernel
set_option maxRecDepth 100000 in
theorem at3_3 : ∀ s : Fin 32, laws_FnExactSentenceOf.f 60 3 ((s.val + 96 : Nat) : Int) = some true := by decide +kernel
set_option maxRecDepth 100000 in
theorem at3_4 : ∀ s : Fin 32, laws_FnExactSentenceOf.f 60 3 ((s.val + 128 : Nat) : Int) = some true := by decide +kernel
set_option maxRecDepth 100000 in
theorem at3_5 : ∀ s : Fin 32, laws_FnExactSentenceOf.f 60 3 ((s.val + 160 : Nat) : Int) = some true := by decide +kernel
set_option maxRecDepth 100000 in
theorem at3_6 : ∀ s : Fin 32, laws_FnExactSentenceOf.f 60 3 ((s.val + 192 : Nat) : Int) = some true := by decide +kernel
set_option maxRecDepth 100000 in
theorem at3_7 : ∀ s : Fin 32, laws_FnExactSentenceOf.f 60 3 ((s.val + 224 : Nat) : Int) = some true := by decide +kernel
theorem at3 (n : Nat) (h : n < 256) : laws_FnExactSentenceOf.f 60 3 (n : Int) = some true := by
  rcases (show n < 32 ∨ 32 ≤ n ∧ n < 64 ∨ 64 ≤ n ∧ n < 96 ∨ 96 ≤ n ∧ n < 128 ∨ 128 ≤ n ∧ n < 160 ∨ 160 ≤ n ∧ n < 192 ∨ 192 ≤ n ∧ n < 224 ∨ 224 ≤ n by omega) with h | h | h | h | h | h | h | h
  · have := at3_0 ⟨n - 0, by omega⟩
    rwa [show (n - 0) + 0 = n by omega] at this
  · have := at3_1 ⟨n - 32, by omega⟩
    rwa [show (n - 32) + 32 = n by omega] at this
  · have := at3_2 ⟨n - 64, by omega⟩
    rwa [show (n - 64) + 64 = n by omega] at this
  · have := at3_3 ⟨n - 96, by omega⟩
    rwa [show (n - 96) + 96 = n by omega] at this
  · have := at3_4 ⟨n - 128, by omega⟩
    rwa [show (n - 128) + 128 = n by omega] at this
  · have := at3_5 ⟨n - 160, by omega⟩
    rwa [show (n - 160) + 160 = n by omega] at this
  · have := at3_6 ⟨n - 192, by omega⟩
    rwa [show (n - 192) + 192 = n by omega] at this
  · have := at3_7 ⟨n - 224, by omega⟩
    rwa [show (n - 224) + 224 = n by omega] at this

theorem FnExactSentenceOf : laws_FnExactSentenceOf.Pure := by
  intro t s _ _
  refine ⟨60, ?_⟩
  cases h : okS t s with
  | false =>
    unfold laws_FnExactSentenceOf.f spec_SentenceOf.f impl_SentenceOf.f
    rw [sSetOk_eq, isSet_eq, h]
    simp
  | true =>
    obtain ⟨a1, a2, a3, a4⟩ := okS_cases h
    obtain ⟨n, rfl⟩ := Int.eq_ofNat_of_zero_le a2
    rcases okT_cases a1 with rfl | rfl | rfl
    · have : (n : Int) ≤ 3 := a3
      exact at1 ⟨n, by omega⟩
    · have : (n : Int) ≤ 15 := a3
      exact at2 ⟨n, by omega⟩
    · exact at3 n (by omega)

end Go.Proofs.Ytgmnbegemgankaa.Pure
