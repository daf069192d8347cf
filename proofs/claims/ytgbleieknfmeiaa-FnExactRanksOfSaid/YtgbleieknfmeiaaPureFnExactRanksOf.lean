/- The law FnExactRanksOf, for all arguments: the statement's own function walked by hand, because a row of rows is handed to what writes it. -/
import Derived.Test.YtgbleieknfmeiaaHm
import Derived.Test.YtgbleieknfmeiaaHandF
import Derived.Test.YtgbleieknfmeiaaIx1
import Derived.Test.YtgbleieknfmeiaaIx2
import Derived.Test.YtgbleieknfmeiaaIx3
import Derived.Test.YtgbleieknfmeiaaIx4
namespace Go.Proofs.Ytgbleieknfmeiaa.L
open Go.RowKit Go.Proofs.Ytgbleieknfmeiaa.B Go.Proofs.Ytgbleieknfmeiaa.I Go.Proofs.Ytgbleieknfmeiaa.Hand Go.Proofs.YtgbleieknfmeiaaW.PrintWords Go.Proofs.YtgbleieknfmeiaaW.PrintLast Go.Proofs.YtgbleieknfmeiaaW.PrintMore
set_option linter.unusedVariables false
set_option linter.unusedSimpArgs false
theorem eqIntS_l0 (x : List Int) (hl : x.length ≤ 2000000) : ∀ (d i k : Nat), i + d = x.length → d < k → laws_eqIntS.l0 k x x i = some true := by
  intro d
  induction d with
  | zero =>
    intro i k hi hk
    obtain ⟨m, rfl⟩ : ∃ m, k = m + 1 := ⟨k - 1, by omega⟩
    simp only [laws_eqIntS.l0]
    rw [if_neg (by omega)]
  | succ d ih =>
    intro i k hi hk
    obtain ⟨m, rfl⟩ : ∃ m, k = m + 1 := ⟨k - 1, by omega⟩
    simp only [laws_eqIntS.l0]
    rw [if_pos (by omega), if_pos (by omega), if_pos (by omega), if_pos trivial, next64 i (by omega)]
    exact ih (i + 1) m (by omega) (by omega)
theorem eqIntS_refl (l : List Int) (k : Nat) (hl : l.length ≤ 2000000) (hk : l.length < k) : laws_eqIntS.f k l l = some true := by
  unfold laws_eqIntS.f
  rw [if_pos rfl]
  exact eqIntS_l0 l hl l.length 0 k (by omega) hk
theorem mark_l0 (n : Nat) (s : Int) (hn : n ≤ 2000000) (hs0 : 0 ≤ s) (hs1 : s ≤ 2000000) : ∀ (d i k : Nat) (x0 : List Int), i + d = n → d < k → x0.length = n → (∀ j : Nat, j < i → rd x0 j = s + j) →
    ∃ xs : List Int, laws_markIntS.l0 k x0 (s + i) i = some (s + n, xs) ∧ xs.length = n ∧ ∀ j : Nat, j < n → rd xs j = s + j := by
  intro d
  induction d with
  | zero =>
    intro i k x0 hi hk h0 hj
    obtain ⟨m, rfl⟩ : ∃ m, k = m + 1 := ⟨k - 1, by omega⟩
    obtain rfl : i = n := by omega
    refine ⟨x0, ?_, h0, hj⟩
    simp only [laws_markIntS.l0]
    rw [if_neg (by omega)]
  | succ d ih =>
    intro i k x0 hi hk h0 hj
    obtain ⟨m, rfl⟩ : ∃ m, k = m + 1 := ⟨k - 1, by omega⟩
    have e : wrap64 (s + (i : Int) + 1) = s + ((i + 1 : Nat) : Int) := by rw [w64 (by omega) (by omega)]; simp; omega
    obtain ⟨xs, h1, h2, h3⟩ := ih (i + 1) m (x0.set i (s + i)) (by omega) (by omega) (by simp [h0]) (fun j hj2 => by
      unfold rd
      rw [Int.toNat_natCast, List.getD_eq_getElem?_getD, List.getElem?_set]
      by_cases e : i = j
      · subst e; rw [if_pos rfl, if_pos (by omega)]; rfl
      · rw [if_neg e]
        have := hj j (by omega)
        unfold rd at this
        rw [Int.toNat_natCast, List.getD_eq_getElem?_getD] at this
        exact this)
    refine ⟨xs, ?_, h2, h3⟩
    simp only [laws_markIntS.l0]
    rw [if_pos (by omega), if_pos (by omega), next64 i (by omega), Int.toNat_natCast, e]
    exact h1
end Go.Proofs.Ytgbleieknfmeiaa.L
namespace Go.Proofs.Ytgbleieknfmeiaa.L
open Go.RowKit Go.Proofs.Ytgbleieknfmeiaa.B Go.Proofs.Ytgbleieknfmeiaa.I Go.Proofs.Ytgbleieknfmeiaa.Hand Go.Proofs.YtgbleieknfmeiaaW.PrintWords Go.Proofs.YtgbleieknfmeiaaW.PrintLast Go.Proofs.YtgbleieknfmeiaaW.PrintMore
set_option linter.unusedVariables false
set_option linter.unusedSimpArgs false
theorem l1In_eq (a b c : Int) : spec_l1In.f a b c = some (decide (b ≤ a) && decide (a ≤ c)) := by
  unfold spec_l1In.f
  by_cases h : a ≥ b
  · rw [if_pos h]; simp [show b ≤ a from h]
  · rw [if_neg h]; simp [show ¬ b ≤ a from h]
end Go.Proofs.Ytgbleieknfmeiaa.L
namespace Go.Proofs.Ytgbleieknfmeiaa.L
open Go.RowKit Go.Proofs.Ytgbleieknfmeiaa.Hand Go.Proofs.YtgbleieknfmeiaaW.PrintWords
set_option linter.unusedVariables false
set_option linter.unusedSimpArgs false
/-- How many numbers below x are in the list. -/
def cnt (l : List Int) (x : Nat) : Nat := (List.range x).countP (fun q : Nat => l.any (fun y => y == (q : Int)))
/-- Tidy ranks. -/
def tidyL (l : List Int) : List Int := l.map (fun x => (cnt l x.toNat : Int))
theorem tidyL_length (l : List Int) : (tidyL l).length = l.length := by unfold tidyL; simp
theorem rd_map (l : List Int) (f : Int → Int) (i : Nat) (h : i < l.length) : rd (l.map f) (i : Int) = f (rd l (i : Int)) := by
  unfold rd
  rw [Int.toNat_natCast, List.getD_eq_getElem?_getD, List.getD_eq_getElem?_getD, List.getElem?_map, List.getElem?_eq_getElem h]; rfl
theorem tidyL_rd (l : List Int) (i : Nat) (h : i < l.length) : rd (tidyL l) (i : Int) = (cnt l (rd l (i : Int)).toNat : Int) := rd_map l _ i h
theorem rd_mem (l : List Int) (i : Nat) (h : i < l.length) : rd l (i : Int) ∈ l := by
  unfold rd
  rw [Int.toNat_natCast, List.getD_eq_getElem?_getD, List.getElem?_eq_getElem h]; exact List.getElem_mem h
theorem cnt_succ (l : List Int) (x : Nat) : cnt l (x + 1) = cnt l x + if l.any (fun y => y == (x : Int)) = true then 1 else 0 := by
  unfold cnt
  rw [List.range_succ, List.countP_append, List.countP_singleton]
theorem take_snoc (l : List Int) (m : Nat) (h : m < l.length) : l.take (m + 1) = l.take m ++ [rd l (m : Int)] := by
  rw [List.take_succ_eq_append_getElem h]
  congr 1
  unfold rd
  rw [Int.toNat_natCast, List.getD_eq_getElem?_getD, List.getElem?_eq_getElem h]; rfl
/-- Two rows of ranks are in the same order. -/
def Same (a b : List Int) : Prop := a.length = b.length ∧ ∀ i j : Nat, i < a.length → j < a.length → (rd a (i : Int) ≤ rd a (j : Int) ↔ rd b (i : Int) ≤ rd b (j : Int))
theorem Same.symm {a b : List Int} (h : Same a b) : Same b a := ⟨h.1.symm, fun i j hi hj => (h.2 i j (by rw [h.1]; exact hi) (by rw [h.1]; exact hj)).symm⟩
end Go.Proofs.Ytgbleieknfmeiaa.L
namespace Go.Proofs.Ytgbleieknfmeiaa.L
open Go.RowKit Go.Proofs.Ytgbleieknfmeiaa.B Go.Proofs.Ytgbleieknfmeiaa.I Go.Proofs.Ytgbleieknfmeiaa.Hand Go.Proofs.YtgbleieknfmeiaaW.PrintWords Go.Proofs.YtgbleieknfmeiaaW.PrintLast Go.Proofs.YtgbleieknfmeiaaW.PrintMore
set_option linter.unusedVariables false
set_option linter.unusedSimpArgs false
theorem okR_cases' {t : Int} {l : List Int} (h : okR t l = true) : okT t = true ∧ (l.length : Int) = nW t ∧ (∀ y ∈ l, 0 ≤ y ∧ y ≤ 9) ∧ (0 : Int) ∈ l ∧ 2 ≤ l.length ∧ l.length ≤ 8 := by
  unfold okR at h
  simp only [Bool.and_eq_true, decide_eq_true_eq, List.all_eq_true, List.any_eq_true, beq_iff_eq] at h
  obtain ⟨h1, h2, h3, x, hx, rfl⟩ := h
  have := nW_pos h1
  exact ⟨h1, h2, h3, hx, by omega, by omega⟩
theorem tidy_take (l : List Int) (i : Nat) (h : i < l.length) : (tidyL l).take (i + 1) = (tidyL l).take i ++ [(cnt l (rd l (i : Int)).toNat : Int)] := by
  rw [take_snoc (tidyL l) i (by rw [tidyL_length]; exact h), tidyL_rd l i h]
def idxI (x : Int) : List Int → Nat → Int
  | [], _ => -1
  | y :: ys, i => if x = y then (i : Int) else idxI x ys (i + 1)
theorem Index_l0 (l : List Int) (x : Int) (hl : l.length ≤ 2000000) : ∀ (d i k : Nat), i + d = l.length → d < k → slices_Index_int_int.l0 k l x (l.length : Int) i = some (idxI x (l.drop i) i) := by
  intro d
  induction d with
  | zero =>
    intro i k hi hk
    obtain ⟨m, rfl⟩ : ∃ m, k = m + 1 := ⟨k - 1, by omega⟩
    simp only [slices_Index_int_int.l0]
    rw [if_neg (by omega), List.drop_eq_nil_of_le (by omega)]; rfl
  | succ d ih =>
    intro i k hi hk
    obtain ⟨m, rfl⟩ : ∃ m, k = m + 1 := ⟨k - 1, by omega⟩
    simp only [slices_Index_int_int.l0]
    rw [if_pos (by omega), if_pos (by omega), if_pos (by omega), next64 i (by omega), drop_cons l i (by omega)]
    simp only [idxI]
    by_cases h : x = rd l (i : Int)
    · rw [if_pos h, if_pos h]
    · rw [if_neg h, if_neg h]
      exact ih (i + 1) m (by omega) (by omega)
theorem idxI_asc (x : Int) : ∀ (l : List Int) (i : Nat), l.Pairwise (· < ·) → x ∈ l → idxI x l i = ((i + l.countP (fun y => decide (y < x)) : Nat) : Int)
  | [], i, _, hx => by cases hx
  | y :: ys, i, hp, hx => by
    obtain ⟨h1, h2⟩ := List.pairwise_cons.1 hp
    simp only [idxI]
    by_cases e : x = y
    · subst e
      rw [if_pos rfl, List.countP_cons_of_neg (by simp), List.countP_eq_zero.2 (fun z hz => by have := h1 z hz; simp; omega)]
      simp
    · rw [if_neg e]
      have hx2 : x ∈ ys := by
        rcases List.mem_cons.1 hx with h | h
        · exact absurd h e
        · exact h
      rw [idxI_asc x ys (i + 1) h2 hx2, List.countP_cons_of_pos (by simpa using h1 x hx2)]
      omega
theorem below_succ (x : Int) : ∀ (l : List Int), l.Pairwise (· < ·) → l.countP (fun y => decide (y < x + 1)) = l.countP (fun y => decide (y < x)) + if l.any (fun y => y == x) = true then 1 else 0
  | [], _ => by simp
  | y :: ys, hp => by
    obtain ⟨h1, h2⟩ := List.pairwise_cons.1 hp
    rcases Int.lt_trichotomy y x with h | h | h
    · rw [List.countP_cons_of_pos (by simp; omega), List.countP_cons_of_pos (by simpa using h), below_succ x ys h2, List.any_cons]
      have : (y == x) = false := by simp; omega
      rw [this, Bool.false_or]
      omega
    · subst h
      rw [List.countP_cons_of_pos (by simp; omega), List.countP_cons_of_neg (by simp), List.countP_eq_zero.2 (fun z hz => by have := h1 z hz; simp; omega), List.countP_eq_zero.2 (fun z hz => by have := h1 z hz; simp; omega)]
      simp
    · rw [List.countP_cons_of_neg (by simp; omega), List.countP_cons_of_neg (by simp; omega), List.countP_eq_zero.2 (fun z hz => by have := h1 z hz; simp; omega), List.countP_eq_zero.2 (fun z hz => by have := h1 z hz; simp; omega)]
      have : ((y :: ys).any fun z => z == x) = false := by
        rw [List.any_eq_false]
        intro z hz
        rcases List.mem_cons.1 hz with rfl | hz
        · simp; omega
        · have := h1 z hz; simp; omega
      rw [this]; simp
theorem below_cnt (lv l : List Int) (hp : lv.Pairwise (· < ·)) (h0 : ∀ y ∈ lv, 0 ≤ y) (hm : ∀ y, y ∈ lv ↔ y ∈ l) : ∀ x : Nat, lv.countP (fun y => decide (y < (x : Int))) = cnt l x
  | 0 => by
    rw [List.countP_eq_zero.2 (fun z hz => by have := h0 z hz; simp; omega)]; rfl
  | x + 1 => by
    have e : ((x + 1 : Nat) : Int) = (x : Int) + 1 := by simp
    rw [e, below_succ _ lv hp, below_cnt lv l hp h0 hm x, cnt_succ]
    have ha : lv.any (fun y => y == (x : Int)) = l.any (fun y => y == (x : Int)) := by
      rw [Bool.eq_iff_iff, List.any_eq_true, List.any_eq_true]
      exact ⟨fun ⟨z, hz, e⟩ => ⟨z, (hm z).1 hz, e⟩, fun ⟨z, hz, e⟩ => ⟨z, (hm z).2 hz, e⟩⟩
    rw [ha]
theorem comp_spec (d : Array Int) (hs : ∀ i j, i ≤ j → j < d.size → d[i]! ≤ d[j]!) : ∀ m, m ≤ d.size →
    (Lib.compactUpTo d m).Pairwise (· < ·) ∧ ∀ x, x ∈ Lib.compactUpTo d m ↔ ∃ j, j < m ∧ d[j]! = x
  | 0, _ => by
    refine ⟨by simp [Lib.compactUpTo], fun x => ?_⟩
    simp [Lib.compactUpTo]
  | m + 1, hm => by
    obtain ⟨h1, h2⟩ := comp_spec d hs m (by omega)
    rw [Lib.compactUpTo_succ]
    by_cases hk : Lib.keeps d m = true
    · rw [if_pos hk]
      refine ⟨?_, fun x => ?_⟩
      · rw [List.pairwise_append]
        refine ⟨h1, List.pairwise_singleton _ _, fun x hx y hy => ?_⟩
        rw [List.mem_singleton] at hy
        subst hy
        obtain ⟨j, hj, rfl⟩ := (h2 x).1 hx
        unfold Lib.keeps at hk
        have hk := of_decide_eq_true hk
        have hne : d[m]! ≠ d[m - 1]! := by
          rcases hk with h | h
          · omega
          · exact h
        have a := hs j (m - 1) (by omega) (by omega)
        have b := hs (m - 1) m (by omega) (by omega)
        omega
      · rw [List.mem_append, h2, List.mem_singleton]
        constructor
        · rintro (⟨j, hj, e⟩ | e)
          · exact ⟨j, by omega, e⟩
          · exact ⟨m, by omega, e.symm⟩
        · rintro ⟨j, hj, e⟩
          rcases Nat.lt_or_ge j m with h | h
          · exact .inl ⟨j, h, e⟩
          · obtain rfl : j = m := by omega
            exact .inr e.symm
    · rw [if_neg hk, List.append_nil]
      refine ⟨h1, fun x => ?_⟩
      have hk2 : ¬ (m = 0 ∨ d[m]! ≠ d[m - 1]!) := fun h => hk (by unfold Lib.keeps; exact decide_eq_true h)
      have hm0 : m ≠ 0 := fun h => hk2 (.inl h)
      have he : d[m]! = d[m - 1]! := Classical.byContradiction fun h => hk2 (.inr h)
      rw [h2]
      constructor
      · rintro ⟨j, hj, e⟩; exact ⟨j, by omega, e⟩
      · rintro ⟨j, hj, e⟩
        rcases Nat.lt_or_ge j m with h | h
        · exact ⟨j, h, e⟩
        · obtain rfl : j = m := by omega
          exact ⟨j - 1, by omega, by rw [← he]; exact e⟩
theorem levels_spec (l : List Int) : (Lib.compact (l.mergeSort fun x y => decide (x ≤ y))).Pairwise (· < ·) ∧ ∀ x, x ∈ Lib.compact (l.mergeSort fun x y => decide (x ≤ y)) ↔ x ∈ l := by
  have hp : (l.mergeSort fun x y => decide (x ≤ y)).Pairwise (fun a b => (decide (a ≤ b)) = true) :=
    List.pairwise_mergeSort (fun a b c h1 h2 => by simp only [decide_eq_true_eq] at *; omega) (fun a b => by simp only [Bool.or_eq_true, decide_eq_true_eq]; omega) l
  generalize hz : (l.mergeSort fun x y => decide (x ≤ y)) = zs at hp
  have hmem : ∀ x, x ∈ zs ↔ x ∈ l := fun x => by rw [← hz]; exact List.mem_mergeSort
  have hs : ∀ i j, i ≤ j → j < zs.toArray.size → zs.toArray[i]! ≤ zs.toArray[j]! := by
    intro i j hij hj
    have hj' : j < zs.length := by simpa using hj
    rcases Nat.lt_or_ge i j with h | h
    · have := List.pairwise_iff_getElem.1 hp i j (by omega) hj' h
      simp only [decide_eq_true_eq] at this
      rw [getElem!_pos zs.toArray i (by simp; omega), getElem!_pos zs.toArray j hj]
      simpa using this
    · obtain rfl : i = j := by omega
      exact Int.le_refl _
  obtain ⟨h1, h2⟩ := comp_spec zs.toArray hs zs.length (by simp)
  refine ⟨h1, fun x => ?_⟩
  rw [← hmem x]
  show x ∈ Lib.compactUpTo zs.toArray zs.length ↔ _
  rw [h2]
  constructor
  · rintro ⟨j, hj, rfl⟩
    rw [getElem!_pos zs.toArray j (by simpa using hj)]
    simp
  · intro hx
    obtain ⟨j, hj, e⟩ := List.mem_iff_getElem.1 hx
    exact ⟨j, hj, by rw [getElem!_pos zs.toArray j (by simpa using hj)]; simpa using e⟩
theorem Index_eq (l lv : List Int) (x : Int) (k : Nat) (hp : lv.Pairwise (· < ·)) (hm : ∀ y, y ∈ lv ↔ y ∈ l) (h0 : ∀ y ∈ l, 0 ≤ y) (hx : x ∈ l) (hl : lv.length ≤ 2000000) (hk : lv.length < k) :
    slices_Index_int_int.f k lv x = some (cnt l x.toNat : Int) := by
  have h := Index_l0 lv x hl lv.length 0 k (by omega) hk
  rw [List.drop_zero, idxI_asc x lv 0 hp ((hm x).2 hx)] at h
  have hc := below_cnt lv l hp (fun y hy => h0 y ((hm y).1 hy)) hm x.toNat
  have hx0 := h0 x hx
  rw [Int.toNat_of_nonneg hx0] at hc
  rw [hc, Nat.zero_add] at h
  exact h
theorem tidy_l0 (l lv : List Int) (hp : lv.Pairwise (· < ·)) (hm : ∀ y, y ∈ lv ↔ y ∈ l) (h0 : ∀ y ∈ l, 0 ≤ y) (hl : l.length ≤ 1000) (hv : lv.length ≤ 1000) : ∀ (d i k : Nat), i + d = l.length → d + lv.length + 2 ≤ k →
    impl_tidy.l0 k lv ((tidyL l).take i) l (l.length : Int) i = some (tidyL l) := by
  intro d
  induction d with
  | zero =>
    intro i k hi hk
    obtain ⟨m, rfl⟩ : ∃ m, k = m + 1 := ⟨k - 1, by omega⟩
    simp only [impl_tidy.l0]
    rw [if_neg (by omega), List.take_of_length_le (by rw [tidyL_length]; omega)]
  | succ d ih =>
    intro i k hi hk
    obtain ⟨m, rfl⟩ : ∃ m, k = m + 1 := ⟨k - 1, by omega⟩
    simp only [impl_tidy.l0]
    rw [if_pos (by omega), if_pos (by omega), if_pos (by omega), Index_eq l lv _ m hp hm h0 (rd_mem l i (by omega)) (by omega) (by omega)]
    simp only [Option.bind_some]
    have := List.length_take_le i (tidyL l)
    rw [if_pos (by omega), next64 i (by omega), ← tidy_take l i (by omega)]
    exact ih (i + 1) m (by omega) (by omega)
theorem tidy_eq (l : List Int) (k : Nat) (h0 : ∀ y ∈ l, 0 ≤ y) (hl : l.length ≤ 500) (hk : 2 * l.length + 10 ≤ k) : impl_tidy.f k l = some (tidyL l) := by
  obtain ⟨hp, hm⟩ := levels_spec l
  have hsl : (l.mergeSort fun x y => decide (x ≤ y)).length = l.length := by simp
  have hcl := compact_len (l.mergeSort fun x y => decide (x ≤ y))
  unfold impl_tidy.f
  simp only [Option.bind_some, List.nil_append]
  rw [if_pos (by simp; omega)]
  unfold slices_Sort_int_int.f
  rw [if_pos (by omega)]
  simp only [Option.bind_some]
  unfold slices_Compact_int_int.f
  rw [if_pos (by omega)]
  simp only [Option.bind_some]
  exact tidy_l0 l _ hp hm h0 (by omega) (by omega) l.length 0 k (by omega) (by omega)
end Go.Proofs.Ytgbleieknfmeiaa.L
namespace Go.Proofs.Ytgbleieknfmeiaa.L
open Go.RowKit Go.Proofs.Ytgbleieknfmeiaa.B Go.Proofs.Ytgbleieknfmeiaa.I Go.Proofs.Ytgbleieknfmeiaa.Hand Go.Proofs.YtgbleieknfmeiaaW.PrintWords Go.Proofs.YtgbleieknfmeiaaW.PrintLast Go.Proofs.YtgbleieknfmeiaaW.PrintMore
set_option linter.unusedVariables false
set_option linter.unusedSimpArgs false
def rows1 : List (List Int) := [[0, 0], [0, 1], [1, 0]]
def rows2 : List (List Int) := [[0, 0, 0, 0], [0, 0, 0, 1], [0, 0, 1, 0], [0, 0, 1, 1], [0, 0, 1, 2], [0, 0, 2, 1], [0, 1, 0, 0], [0, 1, 0, 1], [0, 1, 0, 2], [0, 1, 1, 0], [0, 1, 1, 1], [0, 1, 1, 2], [0, 1, 2, 0], [0, 1, 2, 1], [0, 1, 2, 2], [0, 1, 2, 3], [0, 1, 3, 2], [0, 2, 0, 1], [0, 2, 1, 0], [0, 2, 1, 1], [0, 2, 1, 2], [0, 2, 1, 3], [0, 2, 2, 1], [0, 2, 3, 1], [0, 3, 1, 2], [0, 3, 2, 1], [1, 0, 0, 0], [1, 0, 0, 1], [1, 0, 0, 2], [1, 0, 1, 0], [1, 0, 1, 1], [1, 0, 1, 2], [1, 0, 2, 0], [1, 0, 2, 1], [1, 0, 2, 2], [1, 0, 2, 3], [1, 0, 3, 2], [1, 1, 0, 0], [1, 1, 0, 1], [1, 1, 0, 2], [1, 1, 1, 0], [1, 1, 2, 0], [1, 2, 0, 0], [1, 2, 0, 1], [1, 2, 0, 2], [1, 2, 0, 3], [1, 2, 1, 0], [1, 2, 2, 0], [1, 2, 3, 0], [1, 3, 0, 2], [1, 3, 2, 0], [2, 0, 0, 1], [2, 0, 1, 0], [2, 0, 1, 1], [2, 0, 1, 2], [2, 0, 1, 3], [2, 0, 2, 1], [2, 0, 3, 1], [2, 1, 0, 0], [2, 1, 0, 1], [2, 1, 0, 2], [2, 1, 0, 3], [2, 1, 1, 0], [2, 1, 2, 0], [2, 1, 3, 0], [2, 2, 0, 1], [2, 2, 1, 0], [2, 3, 0, 1], [2, 3, 1, 0], [3, 0, 1, 2], [3, 0, 2, 1], [3, 1, 0, 2], [3, 1, 2, 0], [3, 2, 0, 1], [3, 2, 1, 0]]
/-- All ranks without ranks left out, for 1 and for 2 things. -/
def rowsOf (t : Int) : List (List Int) := if t = 1 then rows1 else if t = 2 then rows2 else []
theorem rows1_ok : ∀ r ∈ rows1, okR 1 r = true ∧ tidyL r = r := by decide +kernel
theorem rows2_ok : ∀ r ∈ rows2, okR 2 r = true ∧ tidyL r = r := by decide +kernel
theorem rows_ok {t : Int} {r : List Int} (h : r ∈ rowsOf t) : okR t r = true ∧ tidyL r = r := by
  unfold rowsOf at h
  by_cases h1 : t = 1
  · subst h1; rw [if_pos rfl] at h; exact rows1_ok r h
  · rw [if_neg h1] at h
    by_cases h2 : t = 2
    · subst h2; rw [if_pos rfl] at h; exact rows2_ok r h
    · rw [if_neg h2] at h; cases h
theorem rows_len (t : Int) : (rowsOf t).length ≤ 75 := by
  unfold rowsOf
  split
  · decide
  · split
    · decide
    · decide
set_option maxRecDepth 100000 in
theorem sRanks1 : spec_RanksOf.f 20000 1 = some rows1 := by decide +kernel
set_option maxRecDepth 100000 in
theorem sRanks2 : spec_RanksOf.f 20000 2 = some rows2 := by decide +kernel
theorem sRanksOf_eq (t : Int) : spec_RanksOf.f 20000 t = some (rowsOf t) := by
  by_cases h1 : t = 1
  · subst h1; exact sRanks1
  · by_cases h2 : t = 2
    · subst h2; exact sRanks2
    · have e : rowsOf t = [] := by unfold rowsOf; rw [if_neg h1, if_neg h2]
      rw [e]
      unfold spec_RanksOf.f
      rw [l1In_eq]
      simp only [Option.bind_some]
      rw [if_neg (by simp; omega)]
end Go.Proofs.Ytgbleieknfmeiaa.L
namespace Go.Proofs.Ytgbleieknfmeiaa.L
open Go.RowKit Go.Proofs.Ytgbleieknfmeiaa.B Go.Proofs.Ytgbleieknfmeiaa.I Go.Proofs.Ytgbleieknfmeiaa.Hand Go.Proofs.YtgbleieknfmeiaaW.PrintWords Go.Proofs.YtgbleieknfmeiaaW.PrintLast Go.Proofs.YtgbleieknfmeiaaW.PrintMore
set_option linter.unusedVariables false
set_option linter.unusedSimpArgs false
theorem Equal_l0 (x y : List Int) (hxy : x.length = y.length) (hl : x.length ≤ 2000000) : ∀ (d i k : Nat), i + d = x.length → d < k → slices_Equal_int_int.l0 k x y (x.length : Int) i = some (decide (x.drop i = y.drop i)) := by
  intro d
  induction d with
  | zero =>
    intro i k hi hk
    obtain ⟨m, rfl⟩ : ∃ m, k = m + 1 := ⟨k - 1, by omega⟩
    simp only [slices_Equal_int_int.l0]
    rw [if_neg (by omega), List.drop_eq_nil_of_le (by omega), List.drop_eq_nil_of_le (by omega)]; simp
  | succ d ih =>
    intro i k hi hk
    obtain ⟨m, rfl⟩ : ∃ m, k = m + 1 := ⟨k - 1, by omega⟩
    simp only [slices_Equal_int_int.l0]
    rw [if_pos (by omega), if_pos (by omega), if_pos (by omega), if_pos (by omega), next64 i (by omega), drop_cons x i (by omega), drop_cons y i (by omega), ih (i + 1) m (by omega) (by omega)]
    by_cases h : rd x (i : Int) = rd y (i : Int)
    · rw [if_pos h, h]; simp
    · rw [if_neg h]; simp [h]
theorem Equal_eq (x y : List Int) (k : Nat) (hl : x.length ≤ 2000000) (hk : x.length < k) : slices_Equal_int_int.f k x y = some (decide (x = y)) := by
  unfold slices_Equal_int_int.f
  by_cases h : x.length = y.length
  · rw [if_pos (by omega)]
    have := Equal_l0 x y h hl x.length 0 k (by omega) hk
    simpa using this
  · rw [if_neg (by omega)]
    congr 1
    symm
    rw [decide_eq_false_iff_not]
    intro e; exact h (by rw [e])
end Go.Proofs.Ytgbleieknfmeiaa.L
namespace Go.Proofs.Ytgbleieknfmeiaa.L
open Go.RowKit Go.Proofs.Ytgbleieknfmeiaa.B Go.Proofs.Ytgbleieknfmeiaa.I Go.Proofs.Ytgbleieknfmeiaa.Hand Go.Proofs.YtgbleieknfmeiaaW.PrintWords Go.Proofs.YtgbleieknfmeiaaW.PrintLast Go.Proofs.YtgbleieknfmeiaaW.PrintMore
set_option linter.unusedVariables false
set_option linter.unusedSimpArgs false
/-- The row behind a row, in the order of rows of numbers below n: none behind the last one. -/
def nextR : Nat → Int → List Int → Int → Option (Option (List Int))
  | 0, _, _, _ => none
  | k + 1, n, l, i => if 0 ≤ i then (if rd l i = n - 1 then nextR k n (l.set i.toNat 0) (i - 1) else some (some (l.set i.toNat (rd l i + 1)))) else some none
/-- The tidy ones of the rows from a row on. -/
def tidyR : Nat → List (List Int) → Int → List Int → Option (List (List Int))
  | 0, _, _, _ => none
  | k + 1, acc, n, l => match nextR 10 n l (n - 1) with
    | none => none
    | some none => some (if tidyL l = l then acc ++ [l] else acc)
    | some (some y) => tidyR k (if tidyL l = l then acc ++ [l] else acc) n y
set_option maxRecDepth 100000 in
theorem tidyR1 : tidyR 5 [] 2 [0, 0] = some rows1 := by decide +kernel
set_option maxRecDepth 100000 in
theorem tidyR2 : tidyR 257 [] 4 [0, 0, 0, 0] = some rows2 := by decide +kernel
/-- A row of n numbers from 0 to n - 1. -/
def RowOk (n : Int) (l : List Int) : Prop := (l.length : Int) = n ∧ ∀ y ∈ l, 0 ≤ y ∧ y ≤ n - 1
theorem RowOk.set {n : Int} {l : List Int} (h : RowOk n l) (i : Nat) (v : Int) (v0 : 0 ≤ v) (v1 : v ≤ n - 1) : RowOk n (l.set i v) :=
  ⟨by rw [List.length_set]; exact h.1, fun y hy => by
    rcases List.mem_or_eq_of_mem_set hy with h2 | rfl
    · exact h.2 y h2
    · exact ⟨v0, v1⟩⟩
theorem ranks_l1 (acc : List (List Int)) (n : Int) (hn : 1 ≤ n) (hn2 : n ≤ 4) : ∀ (m : Nat) (l : List Int) (i : Int) (r : Option (List Int)), RowOk n l → -1 ≤ i → i < n → nextR m n l i = some r → ∀ k, m ≤ k →
    (r = none → impl_RanksOf.l1 k acc n l i = some acc) ∧ (∀ y, r = some y → RowOk n y ∧ ∃ k', k ≤ k' + m ∧ impl_RanksOf.l1 k acc n l i = impl_RanksOf.l0 k' acc n y) := by
  intro m
  induction m with
  | zero => intro l i r _ _ _ h; cases h
  | succ m ih =>
    intro l i r hl hi hi2 h k hk
    obtain ⟨k, rfl⟩ : ∃ q, k = q + 1 := ⟨k - 1, by omega⟩
    have ew : wrap64 (n - 1) = n - 1 := w64 (by omega) (by omega)
    simp only [nextR] at h
    simp only [impl_RanksOf.l1]
    by_cases h0 : 0 ≤ i
    · have hlen := hl.1
      rw [if_pos h0] at h
      rw [if_pos (show i ≥ 0 from h0), if_pos h0, if_pos (by omega), ew]
      by_cases h1 : rd l i = n - 1
      · rw [if_pos h1] at h
        rw [if_pos h1, w64 (n := i - 1) (by omega) (by omega)]
        obtain ⟨q1, q2⟩ := ih (l.set i.toNat 0) (i - 1) r (hl.set _ 0 (by omega) (by omega)) (by omega) (by omega) h k (by omega)
        refine ⟨q1, fun y hy => ?_⟩
        obtain ⟨q3, k', q4, q5⟩ := q2 y hy
        exact ⟨q3, k', by omega, q5⟩
      · rw [if_neg h1] at h
        rw [if_neg h1, if_neg (by omega)]
        have hr := Option.some.inj h
        subst hr
        have hm := hl.2 (rd l i) (by
          obtain ⟨j, rfl⟩ := Int.eq_ofNat_of_zero_le h0
          exact rd_mem l j (by omega))
        refine ⟨fun hc => (by cases hc), fun y hy => ?_⟩
        cases hy
        refine ⟨hl.set _ _ (by omega) (by omega), k, by omega, ?_⟩
        rw [w64 (n := rd l i + 1) (by omega) (by omega)]
    · rw [if_neg h0] at h
      rw [if_neg (show ¬ i ≥ 0 from h0), if_pos (by omega)]
      have hr := Option.some.inj h
      subst hr
      exact ⟨fun _ => rfl, fun y hy => by cases hy⟩
theorem ranks_l0 (n : Int) (hn : 1 ≤ n) (hn2 : n ≤ 4) : ∀ (m : Nat) (acc : List (List Int)) (l : List Int) (R : List (List Int)), RowOk n l → acc.length + m ≤ 1000000 → tidyR m acc n l = some R → ∀ k, 20 * m + 100 ≤ k → impl_RanksOf.l0 k acc n l = some R := by
  intro m
  induction m with
  | zero => intro acc l R _ _ h; cases h
  | succ m ih =>
    intro acc l R hl ha h k hk
    obtain ⟨k, rfl⟩ : ∃ q, k = q + 2 := ⟨k - 2, by omega⟩
    have hlen := hl.1
    have ew : wrap64 (n - 1) = n - 1 := w64 (by omega) (by omega)
    simp only [tidyR] at h
    have h2 := tidyL_length l
    have hj : ∀ acc' : List (List Int), acc' = (if tidyL l = l then acc ++ [l] else acc) → impl_RanksOf.j2 (k + 1) acc' n l = some R := by
      intro acc' hacc
      have hla : acc'.length ≤ acc.length + 1 := by rw [hacc]; split <;> simp
      rw [← hacc] at h
      simp only [impl_RanksOf.j2]
      rw [ew]
      cases hx : nextR 10 n l (n - 1) with
      | none => rw [hx] at h; cases h
      | some r =>
        rw [hx] at h
        obtain ⟨q1, q2⟩ := ranks_l1 acc' n hn hn2 10 l (n - 1) r hl (by omega) (by omega) hx k (by omega)
        cases r with
        | none =>
          simp only [] at h
          rw [q1 rfl]; exact h
        | some y =>
          simp only [] at h
          obtain ⟨q3, k', q4, q5⟩ := q2 y rfl
          rw [q5]
          exact ih acc' y R q3 (by omega) h k' (by omega)
    simp only [impl_RanksOf.l0]
    rw [tidy_eq l (k + 1) (fun y hy => (hl.2 y hy).1) (by omega) (by omega)]
    simp only [Option.bind_some]
    rw [Equal_eq _ _ (k + 1) (by omega) (by omega)]
    simp only [Option.bind_some, List.nil_append, List.length_nil, Nat.zero_add]
    by_cases ht : tidyL l = l
    · rw [decide_eq_true ht, if_pos rfl, if_pos (by omega), if_pos (by omega)]
      exact hj _ (by rw [if_pos ht])
    · rw [decide_eq_false ht, if_neg (by simp)]
      exact hj _ (by rw [if_neg ht])
theorem RanksOf_eq (t : Int) (k : Nat) (hk : 10000 ≤ k) : impl_RanksOf.f k t = some (rowsOf t) := by
  obtain ⟨k, rfl⟩ : ∃ q, k = q + 1 := ⟨k - 1, by omega⟩
  unfold impl_RanksOf.f
  by_cases h1 : t = 1
  · subst h1
    have hs : shl .i64 1 1 = 2 := by decide +kernel
    rw [if_neg (by omega)]
    simp only [impl_RanksOf.j0]
    rw [if_neg (by simp), if_pos (by omega), hs, if_pos (by omega), if_pos (by decide)]
    refine ranks_l0 2 (by omega) (by omega) 5 [] _ _ ?_ (by simp) tidyR1 k (by omega)
    exact ⟨by decide, by decide⟩
  · by_cases h2 : t = 2
    · subst h2
      have hs : shl .i64 1 2 = 4 := by decide +kernel
      rw [if_neg (by omega)]
      simp only [impl_RanksOf.j0]
      rw [if_neg (by simp), if_pos (by omega), hs, if_pos (by omega), if_pos (by decide)]
      refine ranks_l0 4 (by omega) (by omega) 257 [] _ _ ?_ (by simp) tidyR2 k (by omega)
      exact ⟨by decide, by decide⟩
    · have e : rowsOf t = [] := by unfold rowsOf; rw [if_neg h1, if_neg h2]
      rw [e]
      by_cases h3 : t < 1
      · rw [if_pos h3]; simp [impl_RanksOf.j0]
      · rw [if_neg h3, decide_eq_true (show t > 2 by omega)]; simp [impl_RanksOf.j0]
theorem rowsOf_row {t : Int} {r : List Int} (h : r ∈ rowsOf t) : r.length ≤ 8 := by
  obtain ⟨h1, h2, h3, h4, h5, h6⟩ := okR_cases' (rows_ok h).1
  exact h6
theorem row_cons (rows : List (List Int)) (i : Nat) (h : i < rows.length) : rows.drop i = rd_L1 rows (i : Int) :: rows.drop (i + 1) ∧ rd_L1 rows (i : Int) = rows[i] := by
  have e : rd_L1 rows (i : Int) = rows[i] := by
    unfold rd_L1
    rw [Int.toNat_natCast, List.getD_eq_getElem?_getD, List.getElem?_eq_getElem h]; rfl
  exact ⟨by rw [e]; exact List.drop_eq_getElem_cons h, e⟩
theorem eqIntSS_refl (rows : List (List Int)) (hl : rows.length ≤ 1000) (hr : ∀ r ∈ rows, r.length ≤ 8) (k : Nat) (hk : 2000 ≤ k) : laws_eqIntSS.f k rows rows = some true := by
  have key : ∀ (d i k : Nat), i + d = rows.length → d + 20 ≤ k → laws_eqIntSS.l0 k rows rows i = some true := by
    intro d
    induction d with
    | zero =>
      intro i k hi hk
      obtain ⟨m, rfl⟩ : ∃ m, k = m + 1 := ⟨k - 1, by omega⟩
      simp only [laws_eqIntSS.l0]
      rw [if_neg (by omega)]
    | succ d ih =>
      intro i k hi hk
      obtain ⟨m, rfl⟩ : ∃ m, k = m + 1 := ⟨k - 1, by omega⟩
      have hm := (row_cons rows i (by omega)).2
      have hlen := hr (rd_L1 rows (i : Int)) (by rw [hm]; exact List.getElem_mem _)
      simp only [laws_eqIntSS.l0]
      rw [if_pos (by omega), if_pos (by omega), if_pos (by omega), eqIntS_refl _ m (by omega) (by omega)]
      simp only [Option.bind_some, if_true]
      rw [next64 i (by omega)]
      exact ih (i + 1) m (by omega) (by omega)
  unfold laws_eqIntSS.f
  rw [if_pos rfl]
  exact key rows.length 0 k (by omega) (by omega)
end Go.Proofs.Ytgbleieknfmeiaa.L
namespace Go.Proofs.Ytgbleieknfmeiaa.Pure
open Go.RowKit Go.Proofs.Ytgbleieknfmeiaa.B Go.Proofs.Ytgbleieknfmeiaa.I Go.Proofs.Ytgbleieknfmeiaa.Hand Go.Proofs.Ytgbleieknfmeiaa.L Go.Proofs.YtgbleieknfmeiaaW.PrintWords Go.Proofs.YtgbleieknfmeiaaW.PrintLast Go.Proofs.YtgbleieknfmeiaaW.PrintMore
set_option linter.unusedVariables false
set_option linter.unusedSimpArgs false
/-- A row, each number told by its place. -/
def markRow (s : Int) (l : List Int) : List Int := (List.range l.length).map (fun i : Nat => s + (i : Int))
/-- The rows with the first i marked, and the number behind. -/
def mk : Nat → List (List Int) → Int → List (List Int) × Int
  | 0, l, s => (l, s)
  | i + 1, l, s => ((mk i l s).1.set i (markRow (mk i l s).2 ((mk i l s).1.getD i [])), (mk i l s).2 + (((mk i l s).1.getD i []).length : Nat))
theorem mark_eq (l : List Int) (s : Int) (k : Nat) (hl : l.length ≤ 1000) (hs0 : 0 ≤ s) (hs1 : s ≤ 100000) (hk : l.length < k) : laws_markIntS.f k l s = some (s + (l.length : Int), markRow s l) := by
  obtain ⟨xs, h1, h2, h3⟩ := mark_l0 l.length s (by omega) hs0 (by omega) l.length 0 k l (by omega) hk rfl (fun j hj => absurd hj (by omega))
  have e : xs = markRow s l := by
    apply List.ext_getElem
    · unfold markRow; simp [h2]
    · intro j j1 j2
      have hj := h3 j (by omega)
      unfold rd at hj
      rw [Int.toNat_natCast, List.getD_eq_getElem?_getD, List.getElem?_eq_getElem j1] at hj
      have e2 : (markRow s l)[j] = s + (j : Int) := by simp [markRow]
      rw [e2]
      exact hj
  rw [← e]
  unfold laws_markIntS.f
  simpa using h1
theorem mk_ok (l : List (List Int)) (hr : ∀ r ∈ l, r.length ≤ 8) : ∀ i, (mk i l 1).1.length = l.length ∧ (∀ r ∈ (mk i l 1).1, r.length ≤ 8) ∧ 1 ≤ (mk i l 1).2 ∧ (mk i l 1).2 ≤ 1 + 8 * (i : Int)
  | 0 => ⟨rfl, hr, by simp [mk], by simp [mk]⟩
  | i + 1 => by
    obtain ⟨h1, h2, h3, h4⟩ := mk_ok l hr i
    have hg : ((mk i l 1).1.getD i []).length ≤ 8 := by
      rw [List.getD_eq_getElem?_getD]
      by_cases hi : i < (mk i l 1).1.length
      · rw [List.getElem?_eq_getElem hi]; exact h2 _ (List.getElem_mem _)
      · rw [List.getElem?_eq_none (by omega)]; simp
    refine ⟨by simp only [mk]; rw [List.length_set]; exact h1, fun r hm => ?_, by simp only [mk]; omega, by simp only [mk]; omega⟩
    simp only [mk] at hm
    rcases List.mem_or_eq_of_mem_set hm with h | rfl
    · exact h2 r h
    · unfold markRow; rw [List.length_map, List.length_range]; exact hg
set_option maxHeartbeats 8000000 in
set_option maxRecDepth 100000 in
theorem markSS_calls (l : List (List Int)) (hl : l.length ≤ 1000) (hr : ∀ r ∈ l, r.length ≤ 8) (P : Nat → Prop) (v : Value) (w0 w : World) (hB : Below w0.heap.size w0 w) (ho : Kd.S (Kd.slice 3 (Kd.int .i64)) 23 w w0.heap.size P v l) :
    Calls Try.prog 28 #[v, .int .i64 1] w fun e w' => e = .returned (.int .i64 (mk l.length l 1).2) ∧ Kd.S (Kd.slice 3 (Kd.int .i64)) 23 w' w0.heap.size P v (mk l.length l 1).1 ∧ Below w0.heap.size w0 w' := by
  obtain ⟨A, c, rfl, hlc, _⟩ := Kd.S_reads ho
  have HS := Aside0.mk ho
  have HB := Aside0.mk hB
  have HL := Aside0.mk hl
  have HR := Aside0.mk hr
  clear ho hB hl hr
  go_enter Try.func28, Try.ntmps28
  go_wp2
  go_loopg [1, 5] l.length (fun kq v1 v5 w' => ∃ i : Nat, v1 = .int .i64 (mk i l 1).2 ∧ v5 = .int .i64 (i : Int) ∧ Aside0 (kq + i = l.length) ∧ Aside0 (Kd.S (Kd.slice 3 (Kd.int .i64)) 23 w' w0.heap.size P (.slice A l.length c) (mk i l 1).1) ∧ Aside0 (Below w0.heap.size w0 w'))
  case atStart => exact ⟨0, rfl, rfl, ⟨by omega⟩, ⟨by (with_reducible repeat (first | apply Kd.S_alloc | apply Kd.S_drewN | apply Kd.S_drew)); exact HS.out⟩, ⟨by repeat (first | (with_reducible first | exact HB.out | apply below_alloc | apply pw_below_drewN | apply below_drew1) | exact HB.out)⟩⟩
  case round =>
    clear HS HB
    obtain ⟨i, rfl, rfl, HG, HS, HB⟩ := hrel
    by_cases hlt : i < l.length
    · have hltz : (i : Int) < (l.length : Int) := by omega
      obtain ⟨m1, m2, m3, m4⟩ := mk_ok l HR.out i
      obtain ⟨row, hrow⟩ : ∃ r, r = (mk i l 1).1.getD i [] := ⟨_, rfl⟩
      obtain ⟨s, hs⟩ : ∃ s, s = (mk i l 1).2 := ⟨_, rfl⟩
      obtain ⟨rows, hrows⟩ : ∃ r, r = (mk i l 1).1 := ⟨_, rfl⟩
      have hmk : mk (i + 1) l 1 = (rows.set i (markRow s row), s + (row.length : Nat)) := by rw [hrow, hs, hrows]; rfl
      have h8 : row.length ≤ 8 := by
        rw [hrow, List.getD_eq_getElem?_getD, List.getElem?_eq_getElem (by omega)]; exact m2 _ (List.getElem_mem _)
      rw [← hrows] at m1 HS hrow
      rw [← hs] at m3 m4
      have HM := Aside0.mk (mark_eq row s 100 (by omega) (by omega) (by have := HL.out; omega) (by omega))
      have HMK := Aside0.mk hmk
      rw [← hs]
      obtain ⟨g, cap, ev, gb, gl, gcells, hgc⟩ := Kd.S_form HS.out (by omega)
      rw [m1] at ev
      injection ev with e1 e2 e3
      subst e1 e3
      obtain ⟨oki, cs, hcl, ⟨v', hcs, hM⟩, hcc, hoki, hH⟩ := Kd.S_lend HS.out ([] : List Int) (i : Int) (by omega) hltz
      rw [Int.toNat_natCast, ← hrow] at hM
      have hx : wr.cell? ⟨g, i, none⟩ = some v' := by
        have := hcc 0 v' (by rw [hcs]; rfl)
        simpa [Kd.slice] using this
      have HH := Aside0.mk hH
      have HMM := Aside0.mk hM
      have HO := Aside0.mk hoki
      have HCS := Aside0.mk hcs
      clear hH hM hoki hcs hcc hcl hgc gb gl m1 m2 m3 m4 h8 hmk hrow hs hrows e2
      go_wp2_with fail
      refine (laws_markIntS.calls 100 oki v' row s (s + (row.length : Int)) (markRow s row) w0 wr HB.out HMM.out HM.out).mono ?_
      rintro e w' ⟨rfl, hR', hB', hK'⟩
      have hN := Kd.H_back (okp := oki) (x' := markRow s row) (Kd.H_step HH.out (fun k hk hn hlt => hK'.2 k hlt hn)) ⟨v', HCS.out, ⟨HMM.out.1, hR'.2.imp_ (fun _ _ hp => hp)⟩⟩ (fun _ hk => hk)
      rw [Int.toNat_natCast] at hN
      have HSN := Aside0.mk hN
      have HBN := Aside0.mk hB'
      clear HS HB HMM HH hR' hB' hK' hx hN
      go_wp2_with fail
      go_roundg (gk - 1)
      case measure => have := HG.out; omega
      case rel => exact ⟨i + 1, (by rw [HMK.out]), (by have := HL.out; first | go_num | (congr 1; exact next64 i (by omega))), ⟨by have := HG.out; omega⟩, ⟨by rw [HMK.out]; (with_reducible repeat (first | apply Kd.S_alloc | apply Kd.S_drewN | apply Kd.S_drew)); exact HSN.out⟩, ⟨by repeat (first | (with_reducible first | exact HBN.out | apply below_alloc | apply pw_below_drewN | apply below_drew1) | exact HBN.out)⟩⟩
    · obtain rfl : i = l.length := by have := HG.out; omega
      go_wp2_with fail
      go_ret
      exact ⟨rfl, by (with_reducible repeat (first | apply Kd.S_alloc | apply Kd.S_drewN | apply Kd.S_drew)); exact HS.out, by repeat (first | (with_reducible first | exact HB.out | apply below_alloc | apply pw_below_drewN | apply below_drew1) | exact HB.out)⟩
theorem below_then {w w1 w2 : World} (h : Below w.heap.size w w1) (h2 : Below w1.heap.size w1 w2) : Below w.heap.size w w2 := below_step h h2
theorem below_drawn {w w1 : World} (h : Below w.heap.size w w1) (n : Nat) : Below w.heap.size w (w1.drewN n) := pw_below_drewN h n
set_option maxHeartbeats 8000000 in
set_option maxRecDepth 100000 in
theorem walk0 (t : Int) (R R' : List (List Int)) (m : Int) (hlen : R'.length = R.length) (hmk : mk R.length R 1 = (R', m)) (hl : R.length ≤ 1000) (h8 : ∀ r ∈ R, r.length ≤ 8)
    (h1 : spec_RanksOf.f 20000 t = some R) (h2 : impl_RanksOf.f 20000 t = some R) (h3 : laws_eqIntSS.f 20000 R R = some true) (h4 : laws_heldIntSS.f 20000 R' 1 = some m) (hm : 1 ≤ m) (w : World) :
    Calls Try.prog 7 #[.int .i64 t] w fun e w' => e = .returned (.bool true) ∧ Below w.heap.size w w' := by
  have H1 := Aside0.mk h1
  have H2 := Aside0.mk h2
  have H3 := Aside0.mk h3
  have H4 := Aside0.mk h4
  have HMK := Aside0.mk hmk
  have HL := Aside0.mk hl
  have H8 := Aside0.mk h8
  have HLEN := Aside0.mk hlen
  have hmz : decide (m < 0) = false := decide_eq_false (by omega)
  clear h1 h2 h3 h4 hmk hl h8 hlen hm
  go_enter Try.func7, Try.ntmps7
  go_wp2_with fail
  refine (spec_RanksOf.calls 20000 t R _ H1.out).mono ?_
  rintro e w1 ⟨v0, rfl, hs0, hb0⟩
  obtain ⟨A0, c0, rfl, hc0, hC0⟩ := Kd.S_reads hs0
  have HB1 := Aside0.mk hb0
  have HC0 := Aside0.mk hC0
  have HK0 := Aside0.mk hc0
  clear hs0 hb0 hC0 hc0
  go_wp2_with fail
  refine (impl_RanksOf.calls 20000 t R w1 H2.out).mono ?_
  rintro e w2 ⟨v1, rfl, hs1, hb1⟩
  obtain ⟨A1, c1, rfl, hc1, hC1⟩ := Kd.S_reads hs1
  have HS1 := Aside0.mk hs1
  have HB2 := Aside0.mk hb1
  have HC1 := Aside0.mk hC1
  have HK1 := Aside0.mk hc1
  clear hs1 hb1 hC1 hc1
  go_wp2_with fail
  refine (laws_eqIntSS.calls 20000 A1 c1 R A0 c0 R true w2 HC1.out HK1.out (Kd.C_below HC0.out HB2.out) HK0.out H3.out).mono ?_
  rintro e w' ⟨rfl, ⟨nd, rfl⟩⟩
  go_wp2_with fail
  refine (markSS_calls R HL.out H8.out (fun _ => True) (.slice A1 R.length c1) w1 (w2.drewN nd) (below_drawn HB2.out nd) (Kd.S_drewN HS1.out nd)).mono ?_
  rw [HMK.out]
  rintro e w4 ⟨rfl, hs4, hb4⟩
  obtain ⟨hn4, hc4, hC4⟩ := Kd.S_reads' hs4
  have HC4 := Aside0.mk hC4
  have HK4 := Aside0.mk hc4
  have HB4 := Aside0.mk hb4
  clear hs4 hb4 hC4 hc4 HS1 HB2 HC1 hn4
  go_wp2_with fail
  have hheld := laws_heldIntSS.calls 20000 A1 c1 R' 1 m w4 HC4.out (by rw [HLEN.out]; exact HK1.out) H4.out
  rw [HLEN.out] at hheld
  refine hheld.mono ?_
  clear hheld
  rintro e w' ⟨rfl, ⟨nd2, rfl⟩⟩
  go_wp2_with fail
  refine (impl_RanksOf.calls 20000 t R (w4.drewN nd2) H2.out).mono ?_
  rintro e w5 ⟨v2, rfl, hs2, hb2⟩
  obtain ⟨A2, c2, rfl, hc2, hC2⟩ := Kd.S_reads hs2
  have HB5 := Aside0.mk (below_step (below_drawn HB4.out nd2) hb2)
  have HC5 := Aside0.mk (Kd.C_below HC4.out (below_step (below_drawn (Below.refl _ w4) nd2) hb2))
  have HC2 := Aside0.mk hC2
  have HK2 := Aside0.mk hc2
  clear hs2 hb2 hC2 hc2
  go_wp2_with fail
  refine (laws_eqIntSS.calls 20000 A2 c2 R A0 c0 R true w5 HC2.out HK2.out (Kd.C_below HC0.out HB5.out) HK0.out H3.out).mono ?_
  rintro e w' ⟨rfl, ⟨nd3, rfl⟩⟩
  go_wp2_with fail
  have hheld := laws_heldIntSS.calls 20000 A1 c1 R' 1 m (w5.drewN nd3) (Kd.C_drewN HC5.out nd3) (by rw [HLEN.out]; exact HK1.out) H4.out
  rw [HLEN.out] at hheld
  refine hheld.mono ?_
  clear hheld
  rintro e w' ⟨rfl, ⟨nd4, rfl⟩⟩
  go_wp2_with fail
  go_ret
  exact ⟨rfl, by repeat (first | exact below_step HB1.out HB5.out | refine below_drawn ?_ _)⟩
set_option maxRecDepth 100000 in
theorem held1 : laws_heldIntSS.f 20000 (mk rows1.length rows1 1).1 1 = some (mk rows1.length rows1 1).2 := by decide +kernel
set_option maxRecDepth 100000 in
theorem held2 : laws_heldIntSS.f 20000 (mk rows2.length rows2 1).1 1 = some (mk rows2.length rows2 1).2 := by decide +kernel
theorem held0 : laws_heldIntSS.f 20000 (mk 0 [] 1).1 1 = some (mk 0 [] 1).2 := by decide +kernel
theorem FnExactRanksOf (t : Int) (w : World) :
    Calls Try.prog 7 #[.int .i64 t] w fun e w' => e = .returned (.bool true) ∧ Below w.heap.size w w' := by
  have hl := rows_len t
  have h8 : ∀ r ∈ rowsOf t, r.length ≤ 8 := fun r hr => rowsOf_row hr
  obtain ⟨m1, m2, m3, m4⟩ := mk_ok (rowsOf t) h8 (rowsOf t).length
  refine walk0 t (rowsOf t) (mk (rowsOf t).length (rowsOf t) 1).1 (mk (rowsOf t).length (rowsOf t) 1).2 m1 rfl (by omega) h8 (sRanksOf_eq t) (RanksOf_eq t 20000 (by omega)) (eqIntSS_refl _ (by omega) h8 20000 (by omega)) ?_ m3 w
  unfold rowsOf
  split
  · exact held1
  · split
    · exact held2
    · exact held0
end Go.Proofs.Ytgbleieknfmeiaa.Pure
