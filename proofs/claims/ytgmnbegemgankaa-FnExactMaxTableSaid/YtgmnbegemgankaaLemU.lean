/- Plain laws of the statements' own helpers: a copy is the list, a list equals itself, what is marked is held; lists of at most 2000000 numbers. -/
import Derived.Test.YtgmnbegemgankaaHandF
import Derived.Test.YtgmnbegemgankaaPx2
import Derived.Test.YtgmnbegemgankaaPx4
import Derived.Test.YtgmnbegemgankaaPx6
namespace Go.Proofs.Ytgmnbegemgankaa.L
open Go.RowKit Go.Proofs.Ytgmnbegemgankaa.B Go.Proofs.Ytgmnbegemgankaa.P Go.Proofs.Ytgmnbegemgankaa.Hand Go.Proofs.YtgmnbegemgankaaW.PrintWords Go.Proofs.YtgmnbegemgankaaW.PrintLast Go.Proofs.YtgmnbegemgankaaW.PrintMore
set_option linter.unusedVariables false
set_option linter.unusedSimpArgs false

theorem next64 (i : Nat) (h : i ≤ 4000000) : wrap64 ((i : Int) + 1) = ((i + 1 : Nat) : Int) := by rw [w64 (by omega) (by omega)]; simp

theorem rd_get (l : List Int) (i : Nat) (h : i < l.length) : l[i]? = some (rd l (i : Int)) := by
  unfold rd
  rw [Int.toNat_natCast, List.getD_eq_getElem?_getD, List.getElem?_eq_getElem h]; rfl

theorem toIntS_l0 (x0 : List Int) (hl : x0.length ≤ 2000000) : ∀ (d i k : Nat) (x3 : List Int), i + d = x0.length → d < k → x3.length = x0.length → (∀ j, j < i → x3[j]? = x0[j]?) → laws_toIntS.l0 k x0 x3 i = some x0 := by
  intro d
  induction d with
  | zero =>
    intro i k x3 hi hk h3 hj
    obtain ⟨m, rfl⟩ : ∃ m, k = m + 1 := ⟨k - 1, by omega⟩
    simp only [laws_toIntS.l0]
    rw [if_neg (by omega)]
    congr 1
    apply List.ext_getElem?
    intro j
    by_cases h : j < i
    · exact hj j h
    · rw [List.getElem?_eq_none (by omega), List.getElem?_eq_none (by omega)]
  | succ d ih =>
    intro i k x3 hi hk h3 hj
    obtain ⟨m, rfl⟩ : ∃ m, k = m + 1 := ⟨k - 1, by omega⟩
    simp only [laws_toIntS.l0]
    rw [if_pos (by omega), if_pos (by omega), if_pos (by omega), next64 i (by omega), Int.toNat_natCast]
    refine ih (i + 1) m _ (by omega) (by omega) (by simp [h3]) (fun j hj2 => ?_)
    rw [List.getElem?_set]
    by_cases e : i = j
    · subst e
      rw [if_pos rfl, if_pos (by omega), rd_get x0 i (by omega)]
    · rw [if_neg e]
      exact hj j (by omega)

theorem toIntS_eq (l : List Int) (k : Nat) (hl : l.length ≤ 2000000) (hk : l.length < k) : laws_toIntS.f k l = some l := by
  unfold laws_toIntS.f
  rw [if_pos (by omega), if_pos (by omega)]
  exact toIntS_l0 l hl l.length 0 k _ (by omega) hk (by simp) (fun j hj => absurd hj (by omega))

theorem eqIntS_l0 (x : List Int) (hl : x.length ≤ 2000000) : ∀ (d i k : Nat), i + d = x.length → d < k → laws_eqIntS.l0 k x x i = some true := by
  intro d
  induction d with
  | zero =>
    intro i k hi hk
    obtain ⟨m, rfl⟩ : ∃ m, k = m + 1 := ⟨k - 1, by omega⟩
    simp only [laws_eqIntS.l0]
    rw [if_neg (by omega)]
  | succ d ih =>
    intro i k hi hk
    obtain ⟨m, rfl⟩ : ∃ m, k = m + 1 := ⟨k - 1, by omega⟩
    simp only [laws_eqIntS.l0]
    rw [if_pos (by omega), if_pos (by omega), if_pos (by omega), if_pos trivial, next64 i (by omega)]
    exact ih (i + 1) m (by omega) (by omega)

theorem eqIntS_refl (l : List Int) (k : Nat) (hl : l.length ≤ 2000000) (hk : l.length < k) : laws_eqIntS.f k l l = some true := by
  unfold laws_eqIntS.f
  rw [if_pos rfl]
  exact eqIntS_l0 l hl l.length 0 k (by omega) hk

theorem sameInts_l0 (x : List Int) (hl : x.length ≤ 2000000) : ∀ (d i k : Nat), i + d = x.length → d < k → laws_sameInts.l0 k x x i = some true := by
  intro d
  induction d with
  | zero =>
    intro i k hi hk
    obtain ⟨m, rfl⟩ : ∃ m, k = m + 1 := ⟨k - 1, by omega⟩
    simp only [laws_sameInts.l0]
    rw [if_neg (by omega)]
  | succ d ih =>
    intro i k hi hk
    obtain ⟨m, rfl⟩ : ∃ m, k = m + 1 := ⟨k - 1, by omega⟩
    simp only [laws_sameInts.l0]
    rw [if_pos (by omega), if_pos (by omega), if_pos (by omega), if_pos trivial, next64 i (by omega)]
    exact ih (i + 1) m (by omega) (by omega)

theorem sameInts_refl (l : List Int) (k : Nat) (hl : l.length ≤ 2000000) (hk : l.length < k) : laws_sameInts.f k l l = some true := by
  unfold laws_sameInts.f
  rw [if_pos rfl]
  exact sameInts_l0 l hl l.length 0 k (by omega) hk

theorem mark_l0 (n : Nat) (s : Int) (hn : n ≤ 2000000) (hs0 : 0 ≤ s) (hs1 : s ≤ 2000000) : ∀ (d i k : Nat) (x0 : List Int), i + d = n → d < k → x0.length = n → (∀ j : Nat, j < i → rd x0 j = s + j) →
    ∃ xs : List Int, laws_markIntS.l0 k x0 (s + i) i = some (s + n, xs) ∧ xs.length = n ∧ ∀ j : Nat, j < n → rd xs j = s + j := by
  intro d
  induction d with
  | zero =>
    intro i k x0 hi hk h0 hj
    obtain ⟨m, rfl⟩ : ∃ m, k = m + 1 := ⟨k - 1, by omega⟩
    obtain rfl : i = n := by omega
    refine ⟨x0, ?_, h0, hj⟩
    simp only [laws_markIntS.l0]
    rw [if_neg (by omega)]
  | succ d ih =>
    intro i k x0 hi hk h0 hj
    obtain ⟨m, rfl⟩ : ∃ m, k = m + 1 := ⟨k - 1, by omega⟩
    have e : wrap64 (s + (i : Int) + 1) = s + ((i + 1 : Nat) : Int) := by rw [w64 (by omega) (by omega)]; simp; omega
    obtain ⟨xs, h1, h2, h3⟩ := ih (i + 1) m (x0.set i (s + i)) (by omega) (by omega) (by simp [h0]) (fun j hj2 => by
      unfold rd
      rw [Int.toNat_natCast, List.getD_eq_getElem?_getD, List.getElem?_set]
      by_cases e : i = j
      · subst e; rw [if_pos rfl, if_pos (by omega)]; rfl
      · rw [if_neg e]
        have := hj j (by omega)
        unfold rd at this
        rw [Int.toNat_natCast, List.getD_eq_getElem?_getD] at this
        exact this)
    refine ⟨xs, ?_, h2, h3⟩
    simp only [laws_markIntS.l0]
    rw [if_pos (by omega), if_pos (by omega), next64 i (by omega), Int.toNat_natCast, e]
    exact h1

theorem held_l0 (x0 : List Int) (s : Int) (hl : x0.length ≤ 2000000) (hs0 : 0 ≤ s) (hs1 : s ≤ 2000000) (hx : ∀ j : Nat, j < x0.length → rd x0 j = s + j) : ∀ (d i k : Nat), i + d = x0.length → d < k →
    laws_heldIntS.l0 k x0 (s + i) i = some (s + x0.length) := by
  intro d
  induction d with
  | zero =>
    intro i k hi hk
    obtain ⟨m, rfl⟩ : ∃ m, k = m + 1 := ⟨k - 1, by omega⟩
    obtain rfl : i = x0.length := by omega
    simp only [laws_heldIntS.l0]
    rw [if_neg (by omega)]
  | succ d ih =>
    intro i k hi hk
    obtain ⟨m, rfl⟩ : ∃ m, k = m + 1 := ⟨k - 1, by omega⟩
    have e : wrap64 (s + (i : Int) + 1) = s + ((i + 1 : Nat) : Int) := by rw [w64 (by omega) (by omega)]; simp; omega
    simp only [laws_heldIntS.l0]
    rw [if_pos (by omega), if_pos (by omega), if_pos (hx i (by omega)), next64 i (by omega), e]
    exact ih (i + 1) m (by omega) (by omega)

/-- What is marked is held. -/
theorem mark_held (l : List Int) (k : Nat) (hl : l.length ≤ 2000000) (hk : l.length < k) : ∃ xs : List Int, laws_markIntS.f k l 1 = some (1 + (l.length : Int), xs) ∧ xs.length = l.length ∧ laws_heldIntS.f k xs 1 = some (1 + (l.length : Int)) := by
  obtain ⟨xs, h1, h2, h3⟩ := mark_l0 l.length 1 hl (by omega) (by omega) l.length 0 k l (by omega) hk rfl (fun j hj => absurd hj (by omega))
  refine ⟨xs, ?_, h2, ?_⟩
  · unfold laws_markIntS.f; simpa using h1
  · have := held_l0 xs 1 (by omega) (by omega) (by omega) (fun j hj => h3 j (by omega)) xs.length 0 k (by omega) (by omega)
    unfold laws_heldIntS.f
    rw [h2] at this
    simpa using this

end Go.Proofs.Ytgmnbegemgankaa.L
