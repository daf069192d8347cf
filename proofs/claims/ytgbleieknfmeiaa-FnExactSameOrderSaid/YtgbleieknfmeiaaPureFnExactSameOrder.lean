/- The law FnExactSameOrder, for all arguments. -/
import Derived.Test.YtgbleieknfmeiaaHm
import Derived.Test.YtgbleieknfmeiaaHandF
import Derived.Test.YtgbleieknfmeiaaFx1
import Derived.Test.YtgbleieknfmeiaaFx2
import Derived.Test.YtgbleieknfmeiaaFx3
namespace Go.Proofs.Ytgbleieknfmeiaa.L
open Go.RowKit Go.Proofs.Ytgbleieknfmeiaa.B Go.Proofs.Ytgbleieknfmeiaa.F Go.Proofs.Ytgbleieknfmeiaa.Hand Go.Proofs.YtgbleieknfmeiaaW.PrintWords Go.Proofs.YtgbleieknfmeiaaW.PrintLast Go.Proofs.YtgbleieknfmeiaaW.PrintMore
set_option linter.unusedVariables false
set_option linter.unusedSimpArgs false
theorem toIntS_l0 (x0 : List Int) (hl : x0.length ≤ 2000000) : ∀ (d i k : Nat) (x3 : List Int), i + d = x0.length → d < k → x3.length = x0.length → (∀ j, j < i → x3[j]? = x0[j]?) → laws_toIntS.l0 k x0 x3 i = some x0 := by
  intro d
  induction d with
  | zero =>
    intro i k x3 hi hk h3 hj
    obtain ⟨m, rfl⟩ : ∃ m, k = m + 1 := ⟨k - 1, by omega⟩
    simp only [laws_toIntS.l0]
    rw [if_neg (by omega)]
    congr 1
    apply List.ext_getElem?
    intro j
    by_cases h : j < i
    · exact hj j h
    · rw [List.getElem?_eq_none (by omega), List.getElem?_eq_none (by omega)]
  | succ d ih =>
    intro i k x3 hi hk h3 hj
    obtain ⟨m, rfl⟩ : ∃ m, k = m + 1 := ⟨k - 1, by omega⟩
    simp only [laws_toIntS.l0]
    rw [if_pos (by omega), if_pos (by omega), if_pos (by omega), next64 i (by omega), Int.toNat_natCast]
    refine ih (i + 1) m _ (by omega) (by omega) (by simp [h3]) (fun j hj2 => ?_)
    rw [List.getElem?_set]
    by_cases e : i = j
    · subst e
      rw [if_pos rfl, if_pos (by omega), rd_get x0 i (by omega)]
    · rw [if_neg e]
      exact hj j (by omega)
theorem toIntS_eq (l : List Int) (k : Nat) (hl : l.length ≤ 2000000) (hk : l.length < k) : laws_toIntS.f k l = some l := by
  unfold laws_toIntS.f
  rw [if_pos (by omega), if_pos (by omega)]
  exact toIntS_l0 l hl l.length 0 k _ (by omega) hk (by simp) (fun j hj => absurd hj (by omega))
theorem eqIntS_l0 (x : List Int) (hl : x.length ≤ 2000000) : ∀ (d i k : Nat), i + d = x.length → d < k → laws_eqIntS.l0 k x x i = some true := by
  intro d
  induction d with
  | zero =>
    intro i k hi hk
    obtain ⟨m, rfl⟩ : ∃ m, k = m + 1 := ⟨k - 1, by omega⟩
    simp only [laws_eqIntS.l0]
    rw [if_neg (by omega)]
  | succ d ih =>
    intro i k hi hk
    obtain ⟨m, rfl⟩ : ∃ m, k = m + 1 := ⟨k - 1, by omega⟩
    simp only [laws_eqIntS.l0]
    rw [if_pos (by omega), if_pos (by omega), if_pos (by omega), if_pos trivial, next64 i (by omega)]
    exact ih (i + 1) m (by omega) (by omega)
theorem eqIntS_refl (l : List Int) (k : Nat) (hl : l.length ≤ 2000000) (hk : l.length < k) : laws_eqIntS.f k l l = some true := by
  unfold laws_eqIntS.f
  rw [if_pos rfl]
  exact eqIntS_l0 l hl l.length 0 k (by omega) hk
end Go.Proofs.Ytgbleieknfmeiaa.L
namespace Go.Proofs.Ytgbleieknfmeiaa.L
open Go.RowKit Go.Proofs.Ytgbleieknfmeiaa.B Go.Proofs.Ytgbleieknfmeiaa.F Go.Proofs.Ytgbleieknfmeiaa.Hand Go.Proofs.YtgbleieknfmeiaaW.PrintWords Go.Proofs.YtgbleieknfmeiaaW.PrintLast Go.Proofs.YtgbleieknfmeiaaW.PrintMore
set_option linter.unusedVariables false
set_option linter.unusedSimpArgs false
theorem l1In_eq (a b c : Int) : spec_l1In.f a b c = some (decide (b ≤ a) && decide (a ≤ c)) := by
  unfold spec_l1In.f
  by_cases h : a ≥ b
  · rw [if_pos h]; simp [show b ≤ a from h]
  · rw [if_neg h]; simp [show ¬ b ≤ a from h]
theorem l1In_13 (a : Int) : spec_l1In.f a 1 3 = some (okT a) := l1In_eq a 1 3
end Go.Proofs.Ytgbleieknfmeiaa.L
namespace Go.Proofs.Ytgbleieknfmeiaa.L
open Go.RowKit Go.Proofs.Ytgbleieknfmeiaa.B Go.Proofs.Ytgbleieknfmeiaa.F Go.Proofs.Ytgbleieknfmeiaa.Hand Go.Proofs.YtgbleieknfmeiaaW.PrintWords Go.Proofs.YtgbleieknfmeiaaW.PrintLast Go.Proofs.YtgbleieknfmeiaaW.PrintMore
set_option linter.unusedVariables false
set_option linter.unusedSimpArgs false
theorem sRankOk_l0 (t : Int) (l : List Int) (hl : l.length ≤ 2000000) : ∀ (d i k : Nat) (m : Int), i + d = l.length → d < k →
    spec_RankOk.l0 k t l m i = some ((l.drop i).all (fun x => decide (0 ≤ x) && decide (x ≤ 9)) && (okT t && (decide ((l.length : Int) = nW t) && (mnL m (l.drop i) == 0)))) := by
  intro d
  induction d with
  | zero =>
    intro i k m hi hk
    obtain ⟨q, rfl⟩ : ∃ q, k = q + 1 := ⟨k - 1, by omega⟩
    simp only [spec_RankOk.l0]
    rw [if_neg (by omega), List.drop_eq_nil_of_le (by omega), l1In_13]
    simp only [Option.bind_some]
    cases ht : okT t with
    | false => simp
    | true =>
      have hpos : 0 ≤ t := by rcases okT_cases ht with rfl | rfl | rfl <;> omega
      rw [if_pos rfl, if_pos hpos, (nW_pos ht).2.2]
      by_cases h : (l.length : Int) = nW t
      · rw [if_pos h]; simp [h, mnL]
      · rw [if_neg h]; simp [h]
  | succ d ih =>
    intro i k m hi hk
    obtain ⟨q, rfl⟩ : ∃ q, k = q + 1 := ⟨k - 1, by omega⟩
    simp only [spec_RankOk.l0]
    rw [if_pos (by omega), if_pos (by omega), l1In_eq, drop_cons l i (by omega)]
    simp only [Option.bind_some, List.all_cons]
    cases hx : (decide (0 ≤ rd l (i : Int)) && decide (rd l (i : Int) ≤ 9)) with
    | false => simp
    | true =>
      rw [if_pos rfl, next64 i (by omega), ih (i + 1) q _ (by omega) (by omega)]
      simp [mnL]
theorem sRankOk_eq (t : Int) (l : List Int) (k : Nat) (hl : l.length ≤ 2000000) (hk : l.length < k) : spec_RankOk.f k t l = some (okR t l) := by
  have h := sRankOk_l0 t l hl l.length 0 k 9 (by omega) hk
  unfold spec_RankOk.f
  rw [show ((0 : Nat) : Int) = 0 from rfl] at h
  rw [h]
  congr 1
  rw [List.drop_zero]
  unfold okR
  have a1 := mnL_le l 9
  have a2 := mnL_mem l 9
  rw [Bool.eq_iff_iff]
  simp only [Bool.and_eq_true, List.all_eq_true, List.any_eq_true, decide_eq_true_eq, beq_iff_eq]
  constructor
  · rintro ⟨h1, h2, h3, h4⟩
    rcases a2 with h | h
    · omega
    · exact ⟨h2, h3, h1, _, h, h4⟩
  · rintro ⟨h2, h3, h1, x, hx, rfl⟩
    refine ⟨h1, h2, h3, ?_⟩
    have := a1.2 0 hx
    rcases a2 with h | h
    · have := h1 _ hx; omega
    · have := h1 _ h; omega
end Go.Proofs.Ytgbleieknfmeiaa.L
namespace Go.Proofs.Ytgbleieknfmeiaa.L
open Go.RowKit Go.Proofs.Ytgbleieknfmeiaa.Hand Go.Proofs.YtgbleieknfmeiaaW.PrintWords
set_option linter.unusedVariables false
set_option linter.unusedSimpArgs false
/-- How many numbers below x are in the list. -/
def cnt (l : List Int) (x : Nat) : Nat := (List.range x).countP (fun q : Nat => l.any (fun y => y == (q : Int)))
/-- Tidy ranks. -/
def tidyL (l : List Int) : List Int := l.map (fun x => (cnt l x.toNat : Int))
theorem tidyL_length (l : List Int) : (tidyL l).length = l.length := by unfold tidyL; simp
theorem rd_map (l : List Int) (f : Int → Int) (i : Nat) (h : i < l.length) : rd (l.map f) (i : Int) = f (rd l (i : Int)) := by
  unfold rd
  rw [Int.toNat_natCast, List.getD_eq_getElem?_getD, List.getD_eq_getElem?_getD, List.getElem?_map, List.getElem?_eq_getElem h]; rfl
theorem tidyL_rd (l : List Int) (i : Nat) (h : i < l.length) : rd (tidyL l) (i : Int) = (cnt l (rd l (i : Int)).toNat : Int) := rd_map l _ i h
theorem rd_mem (l : List Int) (i : Nat) (h : i < l.length) : rd l (i : Int) ∈ l := by
  unfold rd
  rw [Int.toNat_natCast, List.getD_eq_getElem?_getD, List.getElem?_eq_getElem h]; exact List.getElem_mem h
theorem cnt_succ (l : List Int) (x : Nat) : cnt l (x + 1) = cnt l x + if l.any (fun y => y == (x : Int)) = true then 1 else 0 := by
  unfold cnt
  rw [List.range_succ, List.countP_append, List.countP_singleton]
theorem cnt_le (l : List Int) (x : Nat) : cnt l x ≤ x := by
  unfold cnt
  have := List.countP_le_length (p := fun q : Nat => l.any (fun y => y == (q : Int))) (l := List.range x)
  simpa using this
theorem take_snoc (l : List Int) (m : Nat) (h : m < l.length) : l.take (m + 1) = l.take m ++ [rd l (m : Int)] := by
  rw [List.take_succ_eq_append_getElem h]
  congr 1
  unfold rd
  rw [Int.toNat_natCast, List.getD_eq_getElem?_getD, List.getElem?_eq_getElem h]; rfl
/-- Two rows of ranks are in the same order. -/
def Same (a b : List Int) : Prop := a.length = b.length ∧ ∀ i j : Nat, i < a.length → j < a.length → (rd a (i : Int) ≤ rd a (j : Int) ↔ rd b (i : Int) ≤ rd b (j : Int))
theorem Same.symm {a b : List Int} (h : Same a b) : Same b a := ⟨h.1.symm, fun i j hi hj => (h.2 i j (by rw [h.1]; exact hi) (by rw [h.1]; exact hj)).symm⟩
end Go.Proofs.Ytgbleieknfmeiaa.L
namespace Go.Proofs.Ytgbleieknfmeiaa.L
open Go.RowKit Go.Proofs.Ytgbleieknfmeiaa.B Go.Proofs.Ytgbleieknfmeiaa.F Go.Proofs.Ytgbleieknfmeiaa.Hand Go.Proofs.YtgbleieknfmeiaaW.PrintWords Go.Proofs.YtgbleieknfmeiaaW.PrintLast Go.Proofs.YtgbleieknfmeiaaW.PrintMore
set_option linter.unusedVariables false
set_option linter.unusedSimpArgs false
theorem okR_cases' {t : Int} {l : List Int} (h : okR t l = true) : okT t = true ∧ (l.length : Int) = nW t ∧ (∀ y ∈ l, 0 ≤ y ∧ y ≤ 9) ∧ (0 : Int) ∈ l ∧ 2 ≤ l.length ∧ l.length ≤ 8 := by
  unfold okR at h
  simp only [Bool.and_eq_true, decide_eq_true_eq, List.all_eq_true, List.any_eq_true, beq_iff_eq] at h
  obtain ⟨h1, h2, h3, x, hx, rfl⟩ := h
  have := nW_pos h1
  exact ⟨h1, h2, h3, hx, by omega, by omega⟩
theorem tidy_take (l : List Int) (i : Nat) (h : i < l.length) : (tidyL l).take (i + 1) = (tidyL l).take i ++ [(cnt l (rd l (i : Int)).toNat : Int)] := by
  rw [take_snoc (tidyL l) i (by rw [tidyL_length]; exact h), tidyL_rd l i h]
theorem sT_l2 (t : Int) (l out : List Int) (i n r : Int) (hl : l.length ≤ 1000) (R : List Int) (K : Nat) : ∀ (d v k : Nat) (found : Bool), v + d = l.length →
    (∀ k', K ≤ k' → (if (found || (l.drop v).any (fun y => y == r)) = true then spec_TidyRank.l1 k' t l out i (wrap64 (n + 1)) (wrap64 (r + 1)) else spec_TidyRank.l1 k' t l out i n (wrap64 (r + 1))) = some R) →
    K + d + 1 ≤ k → spec_TidyRank.l2 k t l out i n r found v = some R := by
  intro d
  induction d with
  | zero =>
    intro v k found hv h hk
    obtain ⟨m, rfl⟩ : ∃ m, k = m + 1 := ⟨k - 1, by omega⟩
    have h1 := h m (by omega)
    rw [List.drop_eq_nil_of_le (by omega), List.any_nil, Bool.or_false] at h1
    simp only [spec_TidyRank.l2]
    rw [if_neg (by omega)]
    exact h1
  | succ d ih =>
    intro v k found hv h hk
    obtain ⟨m, rfl⟩ : ∃ m, k = m + 1 := ⟨k - 1, by omega⟩
    simp only [spec_TidyRank.l2]
    rw [if_pos (by omega), next64 v (by omega)]
    cases found with
    | true =>
      rw [if_pos rfl]
      exact ih (v + 1) m true (by omega) (fun k' hk' => by have := h k' hk'; simpa using this) (by omega)
    | false =>
      rw [if_neg (by simp), if_pos (by omega)]
      refine ih (v + 1) m _ (by omega) (fun k' hk' => ?_) (by omega)
      have := h k' hk'
      rw [drop_cons l v (by omega), List.any_cons, Bool.false_or] at this
      exact this
theorem sT_l1 (t : Int) (l out : List Int) (i x : Nat) (hl : l.length ≤ 1000) (hi : i < l.length) (hx : rd l (i : Int) = x) (hx9 : x ≤ 1000) (hout : out.length ≤ 1000) (R : List Int) (K : Nat)
    (h : ∀ k', K ≤ k' → spec_TidyRank.l0 k' t l (out ++ [(cnt l x : Int)]) ((i + 1 : Nat) : Int) = some R) : ∀ (d r k : Nat), r + d = x →
    K + d * (l.length + 3) + 1 ≤ k → spec_TidyRank.l1 k t l out i (cnt l r : Int) r = some R := by
  intro d
  induction d with
  | zero =>
    intro r k hr hk
    obtain ⟨m, rfl⟩ : ∃ m, k = m + 1 := ⟨k - 1, by omega⟩
    obtain rfl : r = x := by omega
    simp only [spec_TidyRank.l1]
    rw [if_pos (by omega), if_pos (by omega), hx, if_neg (by omega), if_pos (by omega), next64 i (by omega)]
    exact h m (by omega)
  | succ d ih =>
    intro r k hr hk
    obtain ⟨m, rfl⟩ : ∃ m, k = m + 1 := ⟨k - 1, by omega⟩
    have e : (d + 1) * (l.length + 3) = d * (l.length + 3) + (l.length + 3) := Nat.succ_mul _ _
    have hc := cnt_le l r
    simp only [spec_TidyRank.l1]
    rw [if_pos (by omega), if_pos (by omega), hx, if_pos (by omega)]
    refine sT_l2 t l out i _ r hl R (K + d * (l.length + 3) + 1) l.length 0 m false (by omega) (fun k' hk' => ?_) (by omega)
    have ih1 := ih (r + 1) k' (by omega) hk'
    rw [cnt_succ] at ih1
    rw [Bool.false_or, List.drop_zero, next64 r (by omega), next64 (cnt l r) (by omega)]
    cases hb : l.any (fun y => y == (r : Int)) with
    | true => rw [hb] at ih1; rw [if_pos rfl]; rw [if_pos rfl] at ih1; exact ih1
    | false => rw [hb] at ih1; rw [if_neg (by simp)]; rw [if_neg (by simp)] at ih1; exact ih1
theorem sT_l0 (t : Int) (l : List Int) (hr : okR t l = true) : ∀ (d i k : Nat), i + d = l.length → d * 200 + 30 ≤ k →
    spec_TidyRank.l0 k t l ((tidyL l).take i) i = some (tidyL l) := by
  obtain ⟨h1, h2, h3, h4, h5, h6⟩ := okR_cases' hr
  intro d
  induction d with
  | zero =>
    intro i k hi hk
    obtain ⟨m, rfl⟩ : ∃ m, k = m + 2 := ⟨k - 2, by omega⟩
    simp only [spec_TidyRank.l0]
    rw [if_neg (by omega)]
    simp only [spec_TidyRank.j1]
    rw [if_neg (by simp), List.take_of_length_le (by rw [tidyL_length]; omega)]
  | succ d ih =>
    intro i k hi hk
    obtain ⟨m, rfl⟩ : ∃ m, k = m + 2 := ⟨k - 2, by omega⟩
    simp only [spec_TidyRank.l0]
    rw [if_pos (by omega), sRankOk_eq t l (m + 1) (by omega) (by omega), hr]
    simp only [Option.bind_some, spec_TidyRank.j1, if_true]
    have hx := h3 _ (rd_mem l i (by omega))
    have hb : (rd l (i : Int)).toNat * (l.length + 3) ≤ 9 * 11 := Nat.mul_le_mul (by omega) (by omega)
    have h := sT_l1 t l ((tidyL l).take i) i (rd l (i : Int)).toNat (by omega) (by omega) (by omega) (by omega) (by have := List.length_take_le i (tidyL l); omega) (tidyL l) (d * 200 + 30)
      (fun k' hk' => by rw [← tidy_take l i (by omega)]; exact ih (i + 1) k' (by omega) hk') (rd l (i : Int)).toNat 0 m (by omega) (by omega)
    have e0 : cnt l 0 = 0 := rfl
    rw [e0] at h
    exact h
theorem sTidyRank_eq (t : Int) (l : List Int) (k : Nat) (hl : l.length ≤ 2000000) (hk : l.length + 2000 ≤ k) : spec_TidyRank.f k t l = some (if okR t l = true then tidyL l else []) := by
  unfold spec_TidyRank.f
  cases hr : okR t l with
  | true =>
    obtain ⟨h1, h2, h3, h4, h5, h6⟩ := okR_cases' hr
    rw [if_pos rfl]
    exact sT_l0 t l hr l.length 0 k (by omega) (by omega)
  | false =>
    rw [if_neg (by simp)]
    obtain ⟨m, rfl⟩ : ∃ m, k = m + 2 := ⟨k - 2, by omega⟩
    simp only [spec_TidyRank.l0]
    by_cases h : (0 : Int) < (l.length : Int)
    · rw [if_pos h, sRankOk_eq t l (m + 1) hl (by omega), hr]
      simp [spec_TidyRank.j1]
    · rw [if_neg h]
      simp [spec_TidyRank.j1]
def idxI (x : Int) : List Int → Nat → Int
  | [], _ => -1
  | y :: ys, i => if x = y then (i : Int) else idxI x ys (i + 1)
theorem Index_l0 (l : List Int) (x : Int) (hl : l.length ≤ 2000000) : ∀ (d i k : Nat), i + d = l.length → d < k → slices_Index_int_int.l0 k l x (l.length : Int) i = some (idxI x (l.drop i) i) := by
  intro d
  induction d with
  | zero =>
    intro i k hi hk
    obtain ⟨m, rfl⟩ : ∃ m, k = m + 1 := ⟨k - 1, by omega⟩
    simp only [slices_Index_int_int.l0]
    rw [if_neg (by omega), List.drop_eq_nil_of_le (by omega)]; rfl
  | succ d ih =>
    intro i k hi hk
    obtain ⟨m, rfl⟩ : ∃ m, k = m + 1 := ⟨k - 1, by omega⟩
    simp only [slices_Index_int_int.l0]
    rw [if_pos (by omega), if_pos (by omega), if_pos (by omega), next64 i (by omega), drop_cons l i (by omega)]
    simp only [idxI]
    by_cases h : x = rd l (i : Int)
    · rw [if_pos h, if_pos h]
    · rw [if_neg h, if_neg h]
      exact ih (i + 1) m (by omega) (by omega)
theorem idxI_asc (x : Int) : ∀ (l : List Int) (i : Nat), l.Pairwise (· < ·) → x ∈ l → idxI x l i = ((i + l.countP (fun y => decide (y < x)) : Nat) : Int)
  | [], i, _, hx => by cases hx
  | y :: ys, i, hp, hx => by
    obtain ⟨h1, h2⟩ := List.pairwise_cons.1 hp
    simp only [idxI]
    by_cases e : x = y
    · subst e
      rw [if_pos rfl, List.countP_cons_of_neg (by simp), List.countP_eq_zero.2 (fun z hz => by have := h1 z hz; simp; omega)]
      simp
    · rw [if_neg e]
      have hx2 : x ∈ ys := by
        rcases List.mem_cons.1 hx with h | h
        · exact absurd h e
        · exact h
      rw [idxI_asc x ys (i + 1) h2 hx2, List.countP_cons_of_pos (by simpa using h1 x hx2)]
      omega
theorem below_succ (x : Int) : ∀ (l : List Int), l.Pairwise (· < ·) → l.countP (fun y => decide (y < x + 1)) = l.countP (fun y => decide (y < x)) + if l.any (fun y => y == x) = true then 1 else 0
  | [], _ => by simp
  | y :: ys, hp => by
    obtain ⟨h1, h2⟩ := List.pairwise_cons.1 hp
    rcases Int.lt_trichotomy y x with h | h | h
    · rw [List.countP_cons_of_pos (by simp; omega), List.countP_cons_of_pos (by simpa using h), below_succ x ys h2, List.any_cons]
      have : (y == x) = false := by simp; omega
      rw [this, Bool.false_or]
      omega
    · subst h
      rw [List.countP_cons_of_pos (by simp; omega), List.countP_cons_of_neg (by simp), List.countP_eq_zero.2 (fun z hz => by have := h1 z hz; simp; omega), List.countP_eq_zero.2 (fun z hz => by have := h1 z hz; simp; omega)]
      simp
    · rw [List.countP_cons_of_neg (by simp; omega), List.countP_cons_of_neg (by simp; omega), List.countP_eq_zero.2 (fun z hz => by have := h1 z hz; simp; omega), List.countP_eq_zero.2 (fun z hz => by have := h1 z hz; simp; omega)]
      have : ((y :: ys).any fun z => z == x) = false := by
        rw [List.any_eq_false]
        intro z hz
        rcases List.mem_cons.1 hz with rfl | hz
        · simp; omega
        · have := h1 z hz; simp; omega
      rw [this]; simp
theorem below_cnt (lv l : List Int) (hp : lv.Pairwise (· < ·)) (h0 : ∀ y ∈ lv, 0 ≤ y) (hm : ∀ y, y ∈ lv ↔ y ∈ l) : ∀ x : Nat, lv.countP (fun y => decide (y < (x : Int))) = cnt l x
  | 0 => by
    rw [List.countP_eq_zero.2 (fun z hz => by have := h0 z hz; simp; omega)]; rfl
  | x + 1 => by
    have e : ((x + 1 : Nat) : Int) = (x : Int) + 1 := by simp
    rw [e, below_succ _ lv hp, below_cnt lv l hp h0 hm x, cnt_succ]
    have ha : lv.any (fun y => y == (x : Int)) = l.any (fun y => y == (x : Int)) := by
      rw [Bool.eq_iff_iff, List.any_eq_true, List.any_eq_true]
      exact ⟨fun ⟨z, hz, e⟩ => ⟨z, (hm z).1 hz, e⟩, fun ⟨z, hz, e⟩ => ⟨z, (hm z).2 hz, e⟩⟩
    rw [ha]
theorem comp_spec (d : Array Int) (hs : ∀ i j, i ≤ j → j < d.size → d[i]! ≤ d[j]!) : ∀ m, m ≤ d.size →
    (Lib.compactUpTo d m).Pairwise (· < ·) ∧ ∀ x, x ∈ Lib.compactUpTo d m ↔ ∃ j, j < m ∧ d[j]! = x
  | 0, _ => by
    refine ⟨by simp [Lib.compactUpTo], fun x => ?_⟩
    simp [Lib.compactUpTo]
  | m + 1, hm => by
    obtain ⟨h1, h2⟩ := comp_spec d hs m (by omega)
    rw [Lib.compactUpTo_succ]
    by_cases hk : Lib.keeps d m = true
    · rw [if_pos hk]
      refine ⟨?_, fun x => ?_⟩
      · rw [List.pairwise_append]
        refine ⟨h1, List.pairwise_singleton _ _, fun x hx y hy => ?_⟩
        rw [List.mem_singleton] at hy
        subst hy
        obtain ⟨j, hj, rfl⟩ := (h2 x).1 hx
        unfold Lib.keeps at hk
        have hk := of_decide_eq_true hk
        have hne : d[m]! ≠ d[m - 1]! := by
          rcases hk with h | h
          · omega
          · exact h
        have a := hs j (m - 1) (by omega) (by omega)
        have b := hs (m - 1) m (by omega) (by omega)
        omega
      · rw [List.mem_append, h2, List.mem_singleton]
        constructor
        · rintro (⟨j, hj, e⟩ | e)
          · exact ⟨j, by omega, e⟩
          · exact ⟨m, by omega, e.symm⟩
        · rintro ⟨j, hj, e⟩
          rcases Nat.lt_or_ge j m with h | h
          · exact .inl ⟨j, h, e⟩
          · obtain rfl : j = m := by omega
            exact .inr e.symm
    · rw [if_neg hk, List.append_nil]
      refine ⟨h1, fun x => ?_⟩
      have hk2 : ¬ (m = 0 ∨ d[m]! ≠ d[m - 1]!) := fun h => hk (by unfold Lib.keeps; exact decide_eq_true h)
      have hm0 : m ≠ 0 := fun h => hk2 (.inl h)
      have he : d[m]! = d[m - 1]! := Classical.byContradiction fun h => hk2 (.inr h)
      rw [h2]
      constructor
      · rintro ⟨j, hj, e⟩; exact ⟨j, by omega, e⟩
      · rintro ⟨j, hj, e⟩
        rcases Nat.lt_or_ge j m with h | h
        · exact ⟨j, h, e⟩
        · obtain rfl : j = m := by omega
          exact ⟨j - 1, by omega, by rw [← he]; exact e⟩
theorem levels_spec (l : List Int) : (Lib.compact (l.mergeSort fun x y => decide (x ≤ y))).Pairwise (· < ·) ∧ ∀ x, x ∈ Lib.compact (l.mergeSort fun x y => decide (x ≤ y)) ↔ x ∈ l := by
  have hp : (l.mergeSort fun x y => decide (x ≤ y)).Pairwise (fun a b => (decide (a ≤ b)) = true) :=
    List.pairwise_mergeSort (fun a b c h1 h2 => by simp only [decide_eq_true_eq] at *; omega) (fun a b => by simp only [Bool.or_eq_true, decide_eq_true_eq]; omega) l
  generalize hz : (l.mergeSort fun x y => decide (x ≤ y)) = zs at hp
  have hmem : ∀ x, x ∈ zs ↔ x ∈ l := fun x => by rw [← hz]; exact List.mem_mergeSort
  have hs : ∀ i j, i ≤ j → j < zs.toArray.size → zs.toArray[i]! ≤ zs.toArray[j]! := by
    intro i j hij hj
    have hj' : j < zs.length := by simpa using hj
    rcases Nat.lt_or_ge i j with h | h
    · have := List.pairwise_iff_getElem.1 hp i j (by omega) hj' h
      simp only [decide_eq_true_eq] at this
      rw [getElem!_pos zs.toArray i (by simp; omega), getElem!_pos zs.toArray j hj]
      simpa using this
    · obtain rfl : i = j := by omega
      exact Int.le_refl _
  obtain ⟨h1, h2⟩ := comp_spec zs.toArray hs zs.length (by simp)
  refine ⟨h1, fun x => ?_⟩
  rw [← hmem x]
  show x ∈ Lib.compactUpTo zs.toArray zs.length ↔ _
  rw [h2]
  constructor
  · rintro ⟨j, hj, rfl⟩
    rw [getElem!_pos zs.toArray j (by simpa using hj)]
    simp
  · intro hx
    obtain ⟨j, hj, e⟩ := List.mem_iff_getElem.1 hx
    exact ⟨j, hj, by rw [getElem!_pos zs.toArray j (by simpa using hj)]; simpa using e⟩
theorem Index_eq (l lv : List Int) (x : Int) (k : Nat) (hp : lv.Pairwise (· < ·)) (hm : ∀ y, y ∈ lv ↔ y ∈ l) (h0 : ∀ y ∈ l, 0 ≤ y) (hx : x ∈ l) (hl : lv.length ≤ 2000000) (hk : lv.length < k) :
    slices_Index_int_int.f k lv x = some (cnt l x.toNat : Int) := by
  have h := Index_l0 lv x hl lv.length 0 k (by omega) hk
  rw [List.drop_zero, idxI_asc x lv 0 hp ((hm x).2 hx)] at h
  have hc := below_cnt lv l hp (fun y hy => h0 y ((hm y).1 hy)) hm x.toNat
  have hx0 := h0 x hx
  rw [Int.toNat_of_nonneg hx0] at hc
  rw [hc, Nat.zero_add] at h
  exact h
theorem tidy_l0 (l lv : List Int) (hp : lv.Pairwise (· < ·)) (hm : ∀ y, y ∈ lv ↔ y ∈ l) (h0 : ∀ y ∈ l, 0 ≤ y) (hl : l.length ≤ 1000) (hv : lv.length ≤ 1000) : ∀ (d i k : Nat), i + d = l.length → d + lv.length + 2 ≤ k →
    impl_tidy.l0 k lv ((tidyL l).take i) l (l.length : Int) i = some (tidyL l) := by
  intro d
  induction d with
  | zero =>
    intro i k hi hk
    obtain ⟨m, rfl⟩ : ∃ m, k = m + 1 := ⟨k - 1, by omega⟩
    simp only [impl_tidy.l0]
    rw [if_neg (by omega), List.take_of_length_le (by rw [tidyL_length]; omega)]
  | succ d ih =>
    intro i k hi hk
    obtain ⟨m, rfl⟩ : ∃ m, k = m + 1 := ⟨k - 1, by omega⟩
    simp only [impl_tidy.l0]
    rw [if_pos (by omega), if_pos (by omega), if_pos (by omega), Index_eq l lv _ m hp hm h0 (rd_mem l i (by omega)) (by omega) (by omega)]
    simp only [Option.bind_some]
    have := List.length_take_le i (tidyL l)
    rw [if_pos (by omega), next64 i (by omega), ← tidy_take l i (by omega)]
    exact ih (i + 1) m (by omega) (by omega)
theorem tidy_eq (l : List Int) (k : Nat) (h0 : ∀ y ∈ l, 0 ≤ y) (hl : l.length ≤ 500) (hk : 2 * l.length + 10 ≤ k) : impl_tidy.f k l = some (tidyL l) := by
  obtain ⟨hp, hm⟩ := levels_spec l
  have hsl : (l.mergeSort fun x y => decide (x ≤ y)).length = l.length := by simp
  have hcl := compact_len (l.mergeSort fun x y => decide (x ≤ y))
  unfold impl_tidy.f
  simp only [Option.bind_some, List.nil_append]
  rw [if_pos (by simp; omega)]
  unfold slices_Sort_int_int.f
  rw [if_pos (by omega)]
  simp only [Option.bind_some]
  unfold slices_Compact_int_int.f
  rw [if_pos (by omega)]
  simp only [Option.bind_some]
  exact tidy_l0 l _ hp hm h0 (by omega) (by omega) l.length 0 k (by omega) (by omega)
end Go.Proofs.Ytgbleieknfmeiaa.L
namespace Go.Proofs.Ytgbleieknfmeiaa.L
open Go.RowKit Go.Proofs.Ytgbleieknfmeiaa.B Go.Proofs.Ytgbleieknfmeiaa.F Go.Proofs.Ytgbleieknfmeiaa.Hand Go.Proofs.YtgbleieknfmeiaaW.PrintWords Go.Proofs.YtgbleieknfmeiaaW.PrintLast Go.Proofs.YtgbleieknfmeiaaW.PrintMore
set_option linter.unusedVariables false
set_option linter.unusedSimpArgs false
theorem Equal_l0 (x y : List Int) (hxy : x.length = y.length) (hl : x.length ≤ 2000000) : ∀ (d i k : Nat), i + d = x.length → d < k → slices_Equal_int_int.l0 k x y (x.length : Int) i = some (decide (x.drop i = y.drop i)) := by
  intro d
  induction d with
  | zero =>
    intro i k hi hk
    obtain ⟨m, rfl⟩ : ∃ m, k = m + 1 := ⟨k - 1, by omega⟩
    simp only [slices_Equal_int_int.l0]
    rw [if_neg (by omega), List.drop_eq_nil_of_le (by omega), List.drop_eq_nil_of_le (by omega)]; simp
  | succ d ih =>
    intro i k hi hk
    obtain ⟨m, rfl⟩ : ∃ m, k = m + 1 := ⟨k - 1, by omega⟩
    simp only [slices_Equal_int_int.l0]
    rw [if_pos (by omega), if_pos (by omega), if_pos (by omega), if_pos (by omega), next64 i (by omega), drop_cons x i (by omega), drop_cons y i (by omega), ih (i + 1) m (by omega) (by omega)]
    by_cases h : rd x (i : Int) = rd y (i : Int)
    · rw [if_pos h, h]; simp
    · rw [if_neg h]; simp [h]
theorem Equal_eq (x y : List Int) (k : Nat) (hl : x.length ≤ 2000000) (hk : x.length < k) : slices_Equal_int_int.f k x y = some (decide (x = y)) := by
  unfold slices_Equal_int_int.f
  by_cases h : x.length = y.length
  · rw [if_pos (by omega)]
    have := Equal_l0 x y h hl x.length 0 k (by omega) hk
    simpa using this
  · rw [if_neg (by omega)]
    congr 1
    symm
    rw [decide_eq_false_iff_not]
    intro e; exact h (by rw [e])
/-- SameOrder. -/
def sameE (t : Int) (a b : List Int) : Bool := okR t a && (okR t b && decide (tidyL a = tidyL b))
theorem SameOrder_eq (t : Int) (a b : List Int) (k : Nat) (hk : 100 ≤ k) : impl_SameOrder.f k t a b = some (sameE t a b) := by
  unfold impl_SameOrder.f sameE
  rw [isRank_eq t a k (by omega)]
  simp only [Option.bind_some]
  cases ha : okR t a with
  | false => simp
  | true =>
    rw [if_pos rfl, isRank_eq t b k (by omega)]
    simp only [Option.bind_some]
    cases hb : okR t b with
    | false => simp
    | true =>
      obtain ⟨h1, h2, h3, h4, h5, h6⟩ := okR_cases' ha
      obtain ⟨g1, g2, g3, g4, g5, g6⟩ := okR_cases' hb
      rw [if_pos rfl, tidy_eq a k (fun y hy => (h3 y hy).1) (by omega) (by omega)]
      simp only [Option.bind_some]
      rw [tidy_eq b k (fun y hy => (g3 y hy).1) (by omega) (by omega)]
      simp only [Option.bind_some]
      have := tidyL_length a
      rw [Equal_eq _ _ k (by omega) (by omega)]
      simp
theorem sSame_l0 (x y : List Int) (hxy : x.length = y.length) (hl : x.length ≤ 2000000) : ∀ (d i k : Nat), i + d = x.length → d < k → spec_SameOrder.l0 k x y i = some (decide (x.drop i = y.drop i)) := by
  intro d
  induction d with
  | zero =>
    intro i k hi hk
    obtain ⟨m, rfl⟩ : ∃ m, k = m + 1 := ⟨k - 1, by omega⟩
    simp only [spec_SameOrder.l0]
    rw [if_neg (by omega), List.drop_eq_nil_of_le (by omega), List.drop_eq_nil_of_le (by omega)]; simp
  | succ d ih =>
    intro i k hi hk
    obtain ⟨m, rfl⟩ : ∃ m, k = m + 1 := ⟨k - 1, by omega⟩
    simp only [spec_SameOrder.l0]
    rw [if_pos (by omega), if_pos (by omega), if_pos (by omega), next64 i (by omega), drop_cons x i (by omega), drop_cons y i (by omega), ih (i + 1) m (by omega) (by omega)]
    by_cases h : rd x (i : Int) = rd y (i : Int)
    · rw [if_pos h, h]; simp
    · rw [if_neg h]; simp [h]
theorem sSameOrder_eq (t : Int) (a b : List Int) (k : Nat) (ha2 : a.length ≤ 2000000) (hb2 : b.length ≤ 2000000) (hk : a.length + b.length + 3000 ≤ k) : spec_SameOrder.f k t a b = some (sameE t a b) := by
  obtain ⟨k, rfl⟩ : ∃ m, k = m + 1 := ⟨k - 1, by omega⟩
  unfold spec_SameOrder.f sameE
  rw [sRankOk_eq t a _ (by omega) (by omega)]
  simp only [Option.bind_some]
  cases ha : okR t a with
  | false => simp [spec_SameOrder.j0]
  | true =>
    rw [if_pos rfl, sRankOk_eq t b _ (by omega) (by omega)]
    simp only [Option.bind_some, spec_SameOrder.j0]
    cases hb : okR t b with
    | false => simp
    | true =>
      obtain ⟨h1, h2, h3, h4, h5, h6⟩ := okR_cases' ha
      obtain ⟨g1, g2, g3, g4, g5, g6⟩ := okR_cases' hb
      rw [if_neg (by simp), sTidyRank_eq t a k (by omega) (by omega), if_pos ha]
      simp only [Option.bind_some]
      rw [sTidyRank_eq t b k (by omega) (by omega), if_pos hb]
      simp only [Option.bind_some]
      have q1 := tidyL_length a
      have q2 := tidyL_length b
      have := sSame_l0 (tidyL a) (tidyL b) (by omega) (by omega) (tidyL a).length 0 k (by omega) (by omega)
      rw [show (0 : Int) = ((0 : Nat) : Int) from rfl, this]
      simp
end Go.Proofs.Ytgbleieknfmeiaa.L
namespace Go.Proofs.Ytgbleieknfmeiaa.Pure
open Go.RowKit Go.Proofs.Ytgbleieknfmeiaa.B Go.Proofs.Ytgbleieknfmeiaa.F Go.Proofs.Ytgbleieknfmeiaa.Hand Go.Proofs.Ytgbleieknfmeiaa.L Go.Proofs.YtgbleieknfmeiaaW.PrintWords Go.Proofs.YtgbleieknfmeiaaW.PrintLast Go.Proofs.YtgbleieknfmeiaaW.PrintMore
set_option linter.unusedVariables false
set_option linter.unusedSimpArgs false
theorem FnExactSameOrder : laws_FnExactSameOrder.Pure := by
  intro t a b _ _ _ _ _ _ _
  obtain ⟨k, hk⟩ : ∃ k : Nat, a.length + b.length + 100000 ≤ k := ⟨_, Nat.le_refl _⟩
  refine ⟨k, ?_⟩
  unfold laws_FnExactSameOrder.f
  by_cases hl : (a.length : Int) > 1048576
  · rw [if_pos hl]
  rw [if_neg hl]
  by_cases hl2 : (b.length : Int) > 1048576
  · rw [if_pos hl2]
  rw [if_neg hl2, toIntS_eq a _ (by omega) (by omega), toIntS_eq b _ (by omega) (by omega)]
  simp only [Option.bind_some]
  rw [sSameOrder_eq t a b _ (by omega) (by omega) (by omega)]
  simp only [Option.bind_some]
  rw [SameOrder_eq t a b _ (by omega)]
  simp only [Option.bind_some]
  rw [if_neg (by simp), eqIntS_refl a _ (by omega) (by omega), eqIntS_refl b _ (by omega) (by omega)]
  simp only [Option.bind_some, if_true]
end Go.Proofs.Ytgbleieknfmeiaa.Pure
