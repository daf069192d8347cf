/- Plain laws of the functions of ranks: isRank, RankOk of the program and of the reference tell just the same, at lists of at most 2000000 numbers. -/
import Derived.Test.YtgmnbegemgankaaLemU
import Derived.Test.YtgmnbegemgankaaLemA
import Derived.Test.YtgmnbegemgankaaPx3
import Derived.Test.YtgmnbegemgankaaPx4
import Derived.Test.YtgmnbegemgankaaPx5
namespace Go.Proofs.Ytgmnbegemgankaa.L
open Go.RowKit Go.Proofs.Ytgmnbegemgankaa.B Go.Proofs.Ytgmnbegemgankaa.P Go.Proofs.Ytgmnbegemgankaa.Hand Go.Proofs.YtgmnbegemgankaaW.PrintWords Go.Proofs.YtgmnbegemgankaaW.PrintLast Go.Proofs.YtgmnbegemgankaaW.PrintMore
set_option linter.unusedVariables false
set_option linter.unusedSimpArgs false

def mnL (m : Int) : List Int → Int
  | [] => m
  | x :: xs => mnL (mn m x) xs
def mxL (m : Int) : List Int → Int
  | [] => m
  | x :: xs => mxL (mx m x) xs

theorem drop_cons (l : List Int) (i : Nat) (h : i < l.length) : l.drop i = rd l (i : Int) :: l.drop (i + 1) := by
  rw [List.drop_eq_getElem_cons h]
  unfold rd
  rw [Int.toNat_natCast, List.getD_eq_getElem?_getD, List.getElem?_eq_getElem h]; rfl

theorem mnL_le : ∀ (l : List Int) (m : Int), mnL m l ≤ m ∧ ∀ x ∈ l, mnL m l ≤ x
  | [], m => ⟨Int.le_refl _, fun x hx => by cases hx⟩
  | y :: ys, m => by
    have ih := mnL_le ys (mn m y)
    have h1 : mn m y ≤ m ∧ mn m y ≤ y := by unfold mn; split <;> omega
    refine ⟨Int.le_trans ih.1 h1.1, fun x hx => ?_⟩
    rcases List.mem_cons.1 hx with rfl | hx
    · exact Int.le_trans ih.1 h1.2
    · exact ih.2 x hx
theorem mnL_mem : ∀ (l : List Int) (m : Int), mnL m l = m ∨ mnL m l ∈ l
  | [], m => .inl rfl
  | y :: ys, m => by
    rcases mnL_mem ys (mn m y) with h | h
    · have h1 : mn m y = m ∨ mn m y = y := by unfold mn; split <;> simp
      rcases h1 with h1 | h1
      · left; show mnL (mn m y) ys = m; rw [h, h1]
      · right; show mnL (mn m y) ys ∈ y :: ys; rw [h, h1]; exact List.mem_cons_self
    · right; exact List.mem_cons_of_mem _ h
theorem mxL_ge : ∀ (l : List Int) (m : Int), m ≤ mxL m l ∧ ∀ x ∈ l, x ≤ mxL m l
  | [], m => ⟨Int.le_refl _, fun x hx => by cases hx⟩
  | y :: ys, m => by
    have ih := mxL_ge ys (mx m y)
    have h1 : m ≤ mx m y ∧ y ≤ mx m y := by unfold mx; split <;> omega
    refine ⟨Int.le_trans h1.1 ih.1, fun x hx => ?_⟩
    rcases List.mem_cons.1 hx with rfl | hx
    · exact Int.le_trans h1.2 ih.1
    · exact ih.2 x hx
theorem mxL_mem : ∀ (l : List Int) (m : Int), mxL m l = m ∨ mxL m l ∈ l
  | [], m => .inl rfl
  | y :: ys, m => by
    rcases mxL_mem ys (mx m y) with h | h
    · have h1 : mx m y = m ∨ mx m y = y := by unfold mx; split <;> simp
      rcases h1 with h1 | h1
      · left; show mxL (mx m y) ys = m; rw [h, h1]
      · right; show mxL (mx m y) ys ∈ y :: ys; rw [h, h1]; exact List.mem_cons_self
    · right; exact List.mem_cons_of_mem _ h

theorem Min_l0 (l : List Int) (hl : l.length ≤ 2000000) : ∀ (d i k : Nat) (m : Int), i + d = l.length → d < k → slices_Min_int_int.l0 k l m i = some (mnL m (l.drop i)) := by
  intro d
  induction d with
  | zero =>
    intro i k m hi hk
    obtain ⟨q, rfl⟩ : ∃ q, k = q + 1 := ⟨k - 1, by omega⟩
    simp only [slices_Min_int_int.l0]
    rw [if_neg (by omega), List.drop_eq_nil_of_le (by omega)]; rfl
  | succ d ih =>
    intro i k m hi hk
    obtain ⟨q, rfl⟩ : ∃ q, k = q + 1 := ⟨k - 1, by omega⟩
    simp only [slices_Min_int_int.l0]
    rw [if_pos (by omega), if_pos (by omega), next64 i (by omega), ih (i + 1) q _ (by omega) (by omega), drop_cons l i (by omega)]; rfl
theorem Max_l0 (l : List Int) (hl : l.length ≤ 2000000) : ∀ (d i k : Nat) (m : Int), i + d = l.length → d < k → slices_Max_int_int.l0 k l m i = some (mxL m (l.drop i)) := by
  intro d
  induction d with
  | zero =>
    intro i k m hi hk
    obtain ⟨q, rfl⟩ : ∃ q, k = q + 1 := ⟨k - 1, by omega⟩
    simp only [slices_Max_int_int.l0]
    rw [if_neg (by omega), List.drop_eq_nil_of_le (by omega)]; rfl
  | succ d ih =>
    intro i k m hi hk
    obtain ⟨q, rfl⟩ : ∃ q, k = q + 1 := ⟨k - 1, by omega⟩
    simp only [slices_Max_int_int.l0]
    rw [if_pos (by omega), if_pos (by omega), next64 i (by omega), ih (i + 1) q _ (by omega) (by omega), drop_cons l i (by omega)]; rfl

/-- Is l a row of ranks. -/
def okR (t : Int) (l : List Int) : Bool := okT t && (decide ((l.length : Int) = nW t) && (l.all (fun x => decide (0 ≤ x) && decide (x ≤ 9)) && l.any (fun x => x == 0)))

theorem nW_pos {t : Int} (h : okT t = true) : 2 ≤ nW t ∧ nW t ≤ 8 ∧ shl .i64 1 t = nW t := by
  rcases okT_cases h with rfl | rfl | rfl <;> decide +kernel

theorem isRank_eq (t : Int) (l : List Int) (k : Nat) (hk : 20 ≤ k) : impl_isRank.f k t l = some (okR t l) := by
  unfold impl_isRank.f
  rw [areThings_eq]
  simp only [Option.bind_some]
  obtain ⟨q, rfl⟩ : ∃ q, k = q + 1 := ⟨k - 1, by omega⟩
  cases ht : okT t with
  | false =>
    rw [if_neg (by simp)]
    simp only [impl_isRank.j0, if_true]
    unfold okR; rw [ht]; rfl
  | true =>
    obtain ⟨n1, n2, n3⟩ := nW_pos ht
    have hpos : 0 ≤ t := by rcases okT_cases ht with rfl | rfl | rfl <;> omega
    rw [if_pos rfl, if_pos hpos, n3]
    simp only [impl_isRank.j0]
    by_cases hl : (l.length : Int) = nW t
    · rw [if_neg (by simp [hl])]
      have hlen : 2 ≤ l.length ∧ l.length ≤ 8 := by omega
      unfold slices_Min_int_int.f slices_Max_int_int.f
      rw [if_neg (by omega), if_pos (by omega), if_neg (by omega), if_pos (by omega)]
      have e1 := Min_l0 l (by omega) (l.length - 1) 1 q (rd l 0) (by omega) (by omega)
      have e2 := Max_l0 l (by omega) (l.length - 1) 1 q (rd l 0) (by omega) (by omega)
      rw [show ((1 : Nat) : Int) = 1 from rfl] at e1 e2
      rw [e1]
      simp only [Option.bind_some]
      have hc : l = rd l 0 :: l.drop 1 := by have := drop_cons l 0 (by omega); simpa using this
      have a1 := mnL_le (l.drop 1) (rd l 0)
      have a2 := mnL_mem (l.drop 1) (rd l 0)
      have a3 := mxL_ge (l.drop 1) (rd l 0)
      have a4 := mxL_mem (l.drop 1) (rd l 0)
      have b1 : ∀ x ∈ l, mnL (rd l 0) (l.drop 1) ≤ x ∧ x ≤ mxL (rd l 0) (l.drop 1) := by
        intro x hx
        rw [hc] at hx
        rcases List.mem_cons.1 hx with rfl | hx
        · exact ⟨a1.1, a3.1⟩
        · exact ⟨a1.2 x hx, a3.2 x hx⟩
      have b2 : mnL (rd l 0) (l.drop 1) ∈ l := by
        rw [hc]
        rcases a2 with h | h
        · have : mnL (rd (rd l 0 :: l.drop 1) 0) ((rd l 0 :: l.drop 1).drop 1) = mnL (rd l 0) (l.drop 1) := rfl
          rw [this, h]; exact List.mem_cons_self
        · exact List.mem_cons_of_mem _ h
      have b3 : mxL (rd l 0) (l.drop 1) ∈ l := by
        rw [hc]
        rcases a4 with h | h
        · have : mxL (rd (rd l 0 :: l.drop 1) 0) ((rd l 0 :: l.drop 1).drop 1) = mxL (rd l 0) (l.drop 1) := rfl
          rw [this, h]; exact List.mem_cons_self
        · exact List.mem_cons_of_mem _ h
      generalize mnL (rd l 0) (l.drop 1) = mi at b1 b2
      generalize hma : mxL (rd l 0) (l.drop 1) = ma at b1 b3 e2
      have hR : okR t l = (decide (mi = 0) && decide (ma ≤ 9)) := by
        unfold okR
        rw [ht, decide_eq_true hl, Bool.true_and, Bool.true_and, Bool.eq_iff_iff]
        simp only [Bool.and_eq_true, List.all_eq_true, List.any_eq_true, decide_eq_true_eq, beq_iff_eq]
        constructor
        · rintro ⟨h1, x, hx, rfl⟩
          have := b1 0 hx
          have := h1 mi b2
          have := h1 ma b3
          exact ⟨by omega, by omega⟩
        · rintro ⟨h1, h2⟩
          refine ⟨fun x hx => ?_, mi, b2, h1⟩
          have := b1 x hx
          omega
      rw [hR]
      by_cases h0 : mi = 0
      · rw [if_pos h0, e2]
        simp [h0]
      · rw [if_neg h0]
        simp [h0]
    · rw [if_pos (by simp [hl])]
      unfold okR; rw [ht, decide_eq_false hl]; rfl

theorem RankOk_eq (t : Int) (l : List Int) (k : Nat) (hk : 20 ≤ k) : impl_RankOk.f k t l = some (okR t l) := by
  unfold impl_RankOk.f
  rw [isRank_eq t l k hk]; rfl

theorem sRankOk_l0 (t : Int) (l : List Int) (hl : l.length ≤ 2000000) : ∀ (d i k : Nat) (m : Int), i + d = l.length → d < k →
    spec_RankOk.l0 k t l m i = some ((l.drop i).all (fun x => decide (0 ≤ x) && decide (x ≤ 9)) && (okT t && (decide ((l.length : Int) = nW t) && (mnL m (l.drop i) == 0)))) := by
  intro d
  induction d with
  | zero =>
    intro i k m hi hk
    obtain ⟨q, rfl⟩ : ∃ q, k = q + 1 := ⟨k - 1, by omega⟩
    simp only [spec_RankOk.l0]
    rw [if_neg (by omega), List.drop_eq_nil_of_le (by omega), l1In_13]
    simp only [Option.bind_some]
    cases ht : okT t with
    | false => simp
    | true =>
      have hpos : 0 ≤ t := by rcases okT_cases ht with rfl | rfl | rfl <;> omega
      rw [if_pos rfl, if_pos hpos, (nW_pos ht).2.2]
      by_cases h : (l.length : Int) = nW t
      · rw [if_pos h]; simp [h, mnL]
      · rw [if_neg h]; simp [h]
  | succ d ih =>
    intro i k m hi hk
    obtain ⟨q, rfl⟩ : ∃ q, k = q + 1 := ⟨k - 1, by omega⟩
    simp only [spec_RankOk.l0]
    rw [if_pos (by omega), if_pos (by omega), l1In_eq, drop_cons l i (by omega)]
    simp only [Option.bind_some, List.all_cons]
    cases hx : (decide (0 ≤ rd l (i : Int)) && decide (rd l (i : Int) ≤ 9)) with
    | false => simp
    | true =>
      rw [if_pos rfl, next64 i (by omega), ih (i + 1) q _ (by omega) (by omega)]
      simp [mnL]

theorem sRankOk_eq (t : Int) (l : List Int) (k : Nat) (hl : l.length ≤ 2000000) (hk : l.length < k) : spec_RankOk.f k t l = some (okR t l) := by
  have h := sRankOk_l0 t l hl l.length 0 k 9 (by omega) hk
  unfold spec_RankOk.f
  rw [show ((0 : Nat) : Int) = 0 from rfl] at h
  rw [h]
  congr 1
  rw [List.drop_zero]
  unfold okR
  have a1 := mnL_le l 9
  have a2 := mnL_mem l 9
  rw [Bool.eq_iff_iff]
  simp only [Bool.and_eq_true, List.all_eq_true, List.any_eq_true, decide_eq_true_eq, beq_iff_eq]
  constructor
  · rintro ⟨h1, h2, h3, h4⟩
    rcases a2 with h | h
    · omega
    · exact ⟨h2, h3, h1, _, h, h4⟩
  · rintro ⟨h2, h3, h1, x, hx, rfl⟩
    refine ⟨h1, h2, h3, ?_⟩
    have := a1.2 0 hx
    rcases a2 with h | h
    · have := h1 _ hx; omega
    · have := h1 _ h; omega

end Go.Proofs.Ytgmnbegemgankaa.L
