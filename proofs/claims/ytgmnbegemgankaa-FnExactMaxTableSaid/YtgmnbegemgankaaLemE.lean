/- Plain laws of TableOk, SurpriseOf and MaxTable: the program's and the reference's come to the same; lists of at most 2000000 numbers. -/
import Derived.Test.YtgmnbegemgankaaLemD
import Derived.Test.YtgmnbegemgankaaLemC
import Derived.Test.YtgmnbegemgankaaLemO
import Derived.Test.YtgmnbegemgankaaPx11
import Derived.Test.YtgmnbegemgankaaPx2
import Derived.Test.YtgmnbegemgankaaPx6
namespace Go.Proofs.Ytgmnbegemgankaa.L
open Go.RowKit Go.Proofs.Ytgmnbegemgankaa.B Go.Proofs.Ytgmnbegemgankaa.P Go.Proofs.Ytgmnbegemgankaa.Hand Go.Proofs.YtgmnbegemgankaaW.PrintWords Go.Proofs.YtgmnbegemgankaaW.PrintLast Go.Proofs.YtgmnbegemgankaaW.PrintMore
set_option linter.unusedVariables false
set_option linter.unusedSimpArgs false

theorem allW_range {t : Int} (h : okT t = true) : 3 ≤ allW t ∧ allW t ≤ 255 := by rcases okT_cases h with rfl | rfl | rfl <;> decide
theorem okR_cases {t : Int} {l : List Int} (h : okR t l = true) : okT t = true ∧ (l.length : Int) = nW t ∧ (∀ y ∈ l, 0 ≤ y ∧ y ≤ 9) ∧ (0 : Int) ∈ l ∧ 2 ≤ l.length ∧ l.length ≤ 8 := by
  unfold okR at h
  simp only [Bool.and_eq_true, decide_eq_true_eq, List.all_eq_true, List.any_eq_true, beq_iff_eq] at h
  obtain ⟨h1, h2, h3, x, hx, rfl⟩ := h
  have := nW_pos h1
  exact ⟨h1, h2, h3, hx, by omega, by omega⟩

theorem sTableOk_l0 (t : Int) (l : List Int) (hl : l.length ≤ 2000000) : ∀ (d i k : Nat), i + d = l.length → d < k →
    spec_TableOk.l0 k t l i = some ((l.drop i).all (fun s => okS t s) && ((decide (1 ≤ t) && decide (t ≤ 2)) && decide ((l.length : Int) = allW t + 1))) := by
  intro d
  induction d with
  | zero =>
    intro i k hi hk
    obtain ⟨q, rfl⟩ : ∃ q, k = q + 1 := ⟨k - 1, by omega⟩
    simp only [spec_TableOk.l0]
    rw [if_neg (by omega), List.drop_eq_nil_of_le (by omega), l1In_eq]
    simp only [Option.bind_some, List.all_nil, Bool.true_and]
    cases hb : (decide (1 ≤ t) && decide (t ≤ 2)) with
    | false => simp
    | true =>
      have ht : okT t = true := by
        unfold okT; simp at hb; simp; omega
      have := allW_range ht
      rw [if_pos rfl, l1All_eq t ht]
      simp only [Option.bind_some]
      rw [w64 (by omega) (by omega)]
      rfl
  | succ d ih =>
    intro i k hi hk
    obtain ⟨q, rfl⟩ : ∃ q, k = q + 1 := ⟨k - 1, by omega⟩
    simp only [spec_TableOk.l0]
    rw [if_pos (by omega), if_pos (by omega), sSetOk_eq, drop_cons l i (by omega)]
    simp only [Option.bind_some, List.all_cons]
    cases hx : okS t (rd l (i : Int)) with
    | false => simp
    | true =>
      rw [if_pos rfl, next64 i (by omega), ih (i + 1) q (by omega) (by omega)]
      simp

theorem sTableOk_eq (t : Int) (l : List Int) (k : Nat) (hl : l.length ≤ 2000000) (hk : l.length < k) : spec_TableOk.f k t l = some (okTab t l) := by
  have h := sTableOk_l0 t l hl l.length 0 k (by omega) hk
  unfold spec_TableOk.f
  rw [show ((0 : Nat) : Int) = 0 from rfl, List.drop_zero] at h
  rw [h]
  unfold okTab
  rw [Bool.and_comm, Bool.and_assoc]

theorem TableOk_eq (t : Int) (l : List Int) : impl_TableOk.f t l = some (okTab t l) := rfl

/-- SurpriseOf. -/
def surp (t : Int) (l : List Int) (s : Int) : Int := if okR t l = true ∧ okS t s = true then least l s else -1

theorem sSurp_l0 (a : Nat) (l : List Int) (hl : l.length ≤ 60) : ∀ (d i k : Nat), i + d = l.length → d < k → spec_SurpriseOf.l0 k l a (leastN l a i) i = some (least l a) := by
  intro d
  induction d with
  | zero =>
    intro i k hi hk
    obtain ⟨m, rfl⟩ : ∃ m, k = m + 1 := ⟨k - 1, by omega⟩
    obtain rfl : i = l.length := by omega
    simp only [spec_SurpriseOf.l0]
    rw [if_neg (by omega)]; rfl
  | succ d ih =>
    intro i k hi hk
    obtain ⟨m, rfl⟩ : ∃ m, k = m + 1 := ⟨k - 1, by omega⟩
    have hb : bit (a : Int) i = a.testBit i := by unfold bit; simp
    have ih1 := ih (i + 1) m (by omega) (by omega)
    simp only [leastN, hb] at ih1
    simp only [spec_SurpriseOf.l0]
    rw [if_pos (by omega), bit_nat a i (by omega), next64 i (by omega)]
    simp only [Option.bind_some]
    cases ht : a.testBit i with
    | true => rw [ht] at ih1; rw [if_pos rfl, if_pos rfl, if_pos (by omega)]; simpa using ih1
    | false => rw [ht] at ih1; rw [if_neg (by simp)] at ih1; rw [if_neg (by simp)]; exact ih1

theorem sSurpriseOf_eq (t : Int) (l : List Int) (s : Int) (k : Nat) (hl : l.length ≤ 2000000) (hk : l.length + 20 < k) : spec_SurpriseOf.f k t l s = some (surp t l s) := by
  unfold spec_SurpriseOf.f surp
  rw [sRankOk_eq t l k hl (by omega)]
  simp only [Option.bind_some]
  obtain ⟨q, rfl⟩ : ∃ q, k = q + 1 := ⟨k - 1, by omega⟩
  cases hr : okR t l with
  | false => simp [spec_SurpriseOf.j0]
  | true =>
    rw [if_pos rfl, sSetOk_eq]
    simp only [Option.bind_some]
    cases hs : okS t s with
    | false => simp [spec_SurpriseOf.j0]
    | true =>
      obtain ⟨h1, h2, h3, h4, h5, h6⟩ := okR_cases hr
      obtain ⟨g1, g2, g3, g4⟩ := okS_cases hs
      obtain ⟨a, rfl⟩ := Int.eq_ofNat_of_zero_le g2
      simp only [spec_SurpriseOf.j0]
      rw [if_neg (by simp), if_pos (by simp)]
      exact sSurp_l0 a l (by omega) l.length 0 q (by omega) (by omega)

theorem SurpriseOf_eq (t : Int) (l : List Int) (s : Int) (k : Nat) (hk : 30 ≤ k) : impl_SurpriseOf.f k t l s = some (surp t l s) := by
  unfold impl_SurpriseOf.f surp
  rw [isRank_eq t l k (by omega)]
  simp only [Option.bind_some]
  cases hr : okR t l with
  | false => simp
  | true =>
    rw [if_pos rfl, isSet_eq]
    simp only [Option.bind_some]
    cases hs : okS t s with
    | false => simp
    | true =>
      obtain ⟨h1, h2, h3, h4, h5, h6⟩ := okR_cases hr
      obtain ⟨g1, g2, g3, g4⟩ := okS_cases hs
      rw [if_pos rfl, surpriseOf_eq l s k g2 (by omega) (by omega) (by omega)]
      simp

theorem sMax_l0 (t c : Int) (ht : t ≤ 2) (hs : okS t c = true) (hc : ¬ c = 0) : ∀ (d i k : Nat), i + d = (allW t).toNat + 1 → 2 * d + 20 ≤ k →
    spec_MaxTable.l0 k t c ((List.range i).map (maxE c)) i = some (maxTab t c) := by
  obtain ⟨g1, g2, g3, g4⟩ := okS_cases hs
  have hW := allW_range g1
  have hin : (decide (1 ≤ t) && decide (t ≤ 2)) = true := by rcases okT_cases g1 with rfl | rfl | rfl <;> simp; omega
  intro d
  induction d with
  | zero =>
    intro i k hi hk
    obtain ⟨m, rfl⟩ : ∃ m, k = m + 2 := ⟨k - 2, by omega⟩
    simp only [spec_MaxTable.l0]
    rw [l1In_eq, hin]
    simp only [Option.bind_some, if_true]
    rw [sSetOk_eq, hs]
    simp only [Option.bind_some, if_true]
    rw [if_neg hc, l1All_eq t g1]
    simp only [Option.bind_some, spec_MaxTable.j1]
    rw [if_neg (by simp; omega), show i = (allW t).toNat + 1 by omega]; rfl
  | succ d ih =>
    intro i k hi hk
    obtain ⟨m, rfl⟩ : ∃ m, k = m + 2 := ⟨k - 2, by omega⟩
    simp only [spec_MaxTable.l0]
    rw [l1In_eq, hin]
    simp only [Option.bind_some, if_true]
    rw [sSetOk_eq, hs]
    simp only [Option.bind_some, if_true]
    rw [if_neg hc, l1All_eq t g1]
    simp only [Option.bind_some, spec_MaxTable.j1]
    rw [if_pos (by simp; omega), both_int (i : Int) c m (by omega) (by omega) g2 (by omega), Int.toNat_natCast]
    simp only [Option.bind_some]
    have hE : maxE c i = if i &&& c.toNat = 0 then (i : Int) else ((i &&& c.toNat : Nat) : Int) := rfl
    have hn : (List.range (i + 1)).map (maxE c) = (List.range i).map (maxE c) ++ [maxE c i] := range_snoc i (maxE c)
    have ih1 := ih (i + 1) m (by omega) (by omega)
    rw [hn, hE] at ih1
    by_cases hz : i &&& c.toNat = 0
    · rw [if_pos (by omega), if_pos (by simp; omega), next64 i (by omega)]
      rw [if_pos hz] at ih1
      exact ih1
    · rw [if_neg (by omega), if_pos (by simp; omega), next64 i (by omega)]
      rw [if_neg hz] at ih1
      exact ih1

theorem sMaxTable_eq (t c : Int) (k : Nat) (hk : 60 ≤ k) : spec_MaxTable.f k t c = some (if t ≤ 2 ∧ okS t c = true ∧ ¬ c = 0 then maxTab t c else []) := by
  unfold spec_MaxTable.f
  by_cases h : t ≤ 2 ∧ okS t c = true ∧ ¬ c = 0
  · rw [if_pos h]
    obtain ⟨g1, g2, g3, g4⟩ := okS_cases h.2.1
    have hW : allW t ≤ 15 := by rcases okT_cases g1 with rfl | rfl | rfl <;> first | decide | (exfalso; omega)
    exact sMax_l0 t c h.1 h.2.1 h.2.2 ((allW t).toNat + 1) 0 k (by omega) (by omega)
  · rw [if_neg h]
    obtain ⟨m, rfl⟩ : ∃ m, k = m + 2 := ⟨k - 2, by omega⟩
    simp only [spec_MaxTable.l0]
    rw [l1In_eq]
    simp only [Option.bind_some]
    cases hin : (decide (1 ≤ t) && decide (t ≤ 2)) with
    | false => simp [spec_MaxTable.j1]
    | true =>
      rw [if_pos rfl, sSetOk_eq]
      simp only [Option.bind_some]
      cases hs : okS t c with
      | false => simp [spec_MaxTable.j1]
      | true =>
        have hc : c = 0 := by
          simp at hin
          rcases Classical.em (c = 0) with h0 | h0
          · exact h0
          · exact absurd ⟨hin.2, hs, h0⟩ h
        rw [if_pos rfl, if_pos hc]
        simp [spec_MaxTable.j1]

theorem MaxTable_eq (t c : Int) : impl_MaxTable.f t c = some (if t ≤ 2 ∧ okS t c = true ∧ ¬ c = 0 then maxTab t c else []) := rfl
theorem maxTab_len (t c : Int) : (if t ≤ 2 ∧ okS t c = true ∧ ¬ c = 0 then maxTab t c else []).length ≤ 256 := by
  split
  · rename_i h
    obtain ⟨g1, g2, g3, g4⟩ := okS_cases h.2.1
    have := allW_range g1
    unfold maxTab
    simp; omega
  · simp

end Go.Proofs.Ytgmnbegemgankaa.L
