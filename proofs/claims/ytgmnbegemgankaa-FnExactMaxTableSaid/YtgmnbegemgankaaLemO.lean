/- Plain laws of lists of ranks, without the program: how many ranks are below one, tidy ranks, and the least ranks of a set; ranks from 0 on. -/
import Derived.Test.YtgmnbegemgankaaHandF
namespace Go.Proofs.Ytgmnbegemgankaa.L
open Go.RowKit Go.Proofs.Ytgmnbegemgankaa.Hand Go.Proofs.YtgmnbegemgankaaW.PrintWords
set_option linter.unusedVariables false
set_option linter.unusedSimpArgs false

/-- How many numbers below x are in the list. -/
def cnt (l : List Int) (x : Nat) : Nat := (List.range x).countP (fun q : Nat => l.any (fun y => y == (q : Int)))
/-- Tidy ranks. -/
def tidyL (l : List Int) : List Int := l.map (fun x => (cnt l x.toNat : Int))

theorem tidyL_length (l : List Int) : (tidyL l).length = l.length := by unfold tidyL; simp
theorem rd_map (l : List Int) (f : Int → Int) (i : Nat) (h : i < l.length) : rd (l.map f) (i : Int) = f (rd l (i : Int)) := by
  unfold rd
  rw [Int.toNat_natCast, List.getD_eq_getElem?_getD, List.getD_eq_getElem?_getD, List.getElem?_map, List.getElem?_eq_getElem h]; rfl
theorem tidyL_rd (l : List Int) (i : Nat) (h : i < l.length) : rd (tidyL l) (i : Int) = (cnt l (rd l (i : Int)).toNat : Int) := rd_map l _ i h
theorem rd_mem (l : List Int) (i : Nat) (h : i < l.length) : rd l (i : Int) ∈ l := by
  unfold rd
  rw [Int.toNat_natCast, List.getD_eq_getElem?_getD, List.getElem?_eq_getElem h]; exact List.getElem_mem h
theorem mem_rd {l : List Int} {x : Int} (h : x ∈ l) : ∃ i : Nat, i < l.length ∧ rd l (i : Int) = x := by
  obtain ⟨i, hi, e⟩ := List.mem_iff_getElem.1 h
  refine ⟨i, hi, ?_⟩
  unfold rd
  rw [Int.toNat_natCast, List.getD_eq_getElem?_getD, List.getElem?_eq_getElem hi]; exact e

theorem cnt_succ (l : List Int) (x : Nat) : cnt l (x + 1) = cnt l x + if l.any (fun y => y == (x : Int)) = true then 1 else 0 := by
  unfold cnt
  rw [List.range_succ, List.countP_append, List.countP_singleton]
theorem cnt_mono (l : List Int) {x y : Nat} (h : x ≤ y) : cnt l x ≤ cnt l y := by
  induction y with
  | zero => obtain rfl : x = 0 := by omega
            exact Nat.le_refl _
  | succ y ih =>
    rcases Nat.lt_or_ge x (y + 1) with h1 | h1
    · rw [cnt_succ]; have := ih (by omega); omega
    · obtain rfl : x = y + 1 := by omega
      exact Nat.le_refl _
theorem cnt_lt {l : List Int} {x y : Nat} (h : x < y) (hx : (x : Int) ∈ l) : cnt l x < cnt l y := by
  have h1 := cnt_mono l (show x + 1 ≤ y from h)
  rw [cnt_succ, if_pos (List.any_eq_true.2 ⟨_, hx, by simp⟩)] at h1
  omega
theorem cnt_le (l : List Int) (x : Nat) : cnt l x ≤ x := by
  unfold cnt
  have := List.countP_le_length (p := fun q : Nat => l.any (fun y => y == (q : Int))) (l := List.range x)
  simpa using this

/-- Is place v the first of its rank, and is its rank below x. -/
def firstB (l : List Int) (x : Int) (v : Nat) : Bool := decide (rd l (v : Int) < x) && (List.range v).all (fun u => decide (rd l (u : Int) ≠ rd l (v : Int)))

theorem count_or (p : Nat → Bool) (y : Int) (x : Nat) :
    (List.range x).countP (fun q : Nat => p q || ((q : Int) == y)) = (List.range x).countP p + if 0 ≤ y ∧ y < x ∧ p y.toNat = false then 1 else 0 := by
  induction x with
  | zero => simp; omega
  | succ x ih =>
    rw [List.range_succ, List.countP_append, List.countP_append, ih, List.countP_singleton, List.countP_singleton]
    by_cases e : (x : Int) = y
    · subst e
      have n1 : ¬ (0 ≤ (x : Int) ∧ (x : Int) < (x : Int) ∧ p (x : Int).toNat = false) := fun h => absurd h.2.1 (by omega)
      rw [if_neg n1, Int.toNat_natCast]
      cases hp : p x with
      | true =>
        have n2 : ¬ (0 ≤ (x : Int) ∧ (x : Int) < ((x + 1 : Nat) : Int) ∧ true = false) := fun h => absurd h.2.2 (by simp)
        rw [if_neg n2]; simp
      | false =>
        have n2 : 0 ≤ (x : Int) ∧ (x : Int) < ((x + 1 : Nat) : Int) ∧ false = false := ⟨by omega, by omega, rfl⟩
        rw [if_pos n2]; simp
    · have e2 : ((x : Int) == y) = false := by simpa using e
      rw [e2, Bool.or_false]
      by_cases h : 0 ≤ y ∧ y < x ∧ p y.toNat = false
      · have h' : 0 ≤ y ∧ y < ((x + 1 : Nat) : Int) ∧ p y.toNat = false := ⟨h.1, by omega, h.2.2⟩
        rw [if_pos h, if_pos h']; omega
      · have h' : ¬ (0 ≤ y ∧ y < ((x + 1 : Nat) : Int) ∧ p y.toNat = false) := fun k => h ⟨k.1, by omega, k.2.2⟩
        rw [if_neg h, if_neg h']; omega

theorem take_snoc (l : List Int) (m : Nat) (h : m < l.length) : l.take (m + 1) = l.take m ++ [rd l (m : Int)] := by
  rw [List.take_succ_eq_append_getElem h]
  congr 1
  unfold rd
  rw [Int.toNat_natCast, List.getD_eq_getElem?_getD, List.getElem?_eq_getElem h]; rfl

theorem any_take (l : List Int) (y : Int) : ∀ m, m ≤ l.length → ((l.take m).any (fun z => z == y) = false ↔ (List.range m).all (fun u => decide (rd l (u : Int) ≠ y)) = true) := by
  intro m
  induction m with
  | zero => simp
  | succ m ih =>
    intro hm
    rw [take_snoc l m (by omega), List.any_append, List.range_succ, List.all_append, Bool.or_eq_false_iff, Bool.and_eq_true, ih (by omega)]
    simp

theorem lots_take (l : List Int) (x : Nat) (h0 : ∀ y ∈ l, 0 ≤ y) : ∀ m, m ≤ l.length → (List.range x).countP (fun q : Nat => (l.take m).any (fun y => y == (q : Int))) = (List.range m).countP (firstB l x) := by
  intro m
  induction m with
  | zero => simp
  | succ m ih =>
    intro hm
    have e : (fun q : Nat => (l.take (m + 1)).any (fun y => y == (q : Int))) = fun q : Nat => (l.take m).any (fun y => y == (q : Int)) || ((q : Int) == rd l (m : Int)) := by
      funext q
      rw [take_snoc l m (by omega), List.any_append]
      congr 1
      simp only [List.any_cons, List.any_nil, Bool.or_false]
      rw [Bool.eq_iff_iff, beq_iff_eq, beq_iff_eq]
      exact eq_comm
    rw [e, count_or, ih (by omega), List.range_succ, List.countP_append, List.countP_singleton]
    congr 1
    have hy := h0 _ (rd_mem l m (by omega))
    have h1 := any_take l (rd l (m : Int)) m (by omega)
    have h2 : (((rd l (m : Int)).toNat : Nat) : Int) = rd l (m : Int) := by omega
    unfold firstB
    by_cases hc : rd l (m : Int) < (x : Int)
    · rw [decide_eq_true hc, Bool.true_and]
      cases hb : (List.range m).all (fun u => decide (rd l (u : Int) ≠ rd l (m : Int))) with
      | true => rw [if_pos ⟨hy, hc, by rw [h2]; exact h1.2 hb⟩]; rfl
      | false => rw [if_neg (by rintro ⟨_, _, c⟩; rw [h2] at c; rw [h1.1 c] at hb; cases hb)]; rfl
    · rw [decide_eq_false hc, if_neg (by rintro ⟨_, b, _⟩; exact hc b)]; rfl

/-- Tidy ranks go by the order of the ranks alone. -/
theorem cnt_lots (l : List Int) (x : Nat) (h0 : ∀ y ∈ l, 0 ≤ y) : cnt l x = (List.range l.length).countP (firstB l x) := by
  have := lots_take l x h0 l.length (Nat.le_refl _)
  rw [List.take_length] at this
  exact this

/-- Two rows of ranks are in the same order. -/
def Same (a b : List Int) : Prop := a.length = b.length ∧ ∀ i j : Nat, i < a.length → j < a.length → (rd a (i : Int) ≤ rd a (j : Int) ↔ rd b (i : Int) ≤ rd b (j : Int))

theorem Same.symm {a b : List Int} (h : Same a b) : Same b a := ⟨h.1.symm, fun i j hi hj => (h.2 i j (by rw [h.1]; exact hi) (by rw [h.1]; exact hj)).symm⟩
theorem Same.trans {a b c : List Int} (h : Same a b) (k : Same b c) : Same a c := ⟨h.1.trans k.1, fun i j hi hj => (h.2 i j hi hj).trans (k.2 i j (by rw [← h.1]; exact hi) (by rw [← h.1]; exact hj))⟩

theorem Same.tidy {a b : List Int} (h : Same a b) (ha : ∀ y ∈ a, 0 ≤ y) (hb : ∀ y ∈ b, 0 ≤ y) : tidyL a = tidyL b := by
  apply List.ext_getElem?
  intro i
  by_cases hi : i < a.length
  · have hi2 : i < b.length := by rw [← h.1]; exact hi
    have e : ∀ (l : List Int) (j : Nat), j < l.length → l[j]? = some (rd l (j : Int)) := fun l j hj => by
      unfold rd
      rw [Int.toNat_natCast, List.getD_eq_getElem?_getD, List.getElem?_eq_getElem hj]; rfl
    rw [e _ _ (by rw [tidyL_length]; exact hi), e _ _ (by rw [tidyL_length]; exact hi2), tidyL_rd a i hi, tidyL_rd b i hi2]
    have pa := ha _ (rd_mem a i hi)
    have pb := hb _ (rd_mem b i hi2)
    rw [cnt_lots a _ ha, cnt_lots b _ hb, ← h.1]
    congr 2
    apply List.countP_congr
    intro v hv
    have hv : v < a.length := List.mem_range.1 hv
    have c1 : (rd a (v : Int) < (((rd a (i : Int)).toNat : Nat) : Int)) ↔ (rd b (v : Int) < (((rd b (i : Int)).toNat : Nat) : Int)) := by
      have := h.2 i v hi hv
      omega
    have c2 : ∀ u, u < v → (rd a (u : Int) ≠ rd a (v : Int) ↔ rd b (u : Int) ≠ rd b (v : Int)) := fun u hu => by
      have h1 := h.2 u v (by omega) hv
      have h2 := h.2 v u hv (by omega)
      omega
    unfold firstB
    rw [Bool.and_eq_true, Bool.and_eq_true, decide_eq_true_eq, decide_eq_true_eq, List.all_eq_true, List.all_eq_true]
    constructor
    · rintro ⟨h1, h2⟩
      exact ⟨c1.1 h1, fun u hu => decide_eq_true ((c2 u (List.mem_range.1 hu)).1 (of_decide_eq_true (h2 u hu)))⟩
    · rintro ⟨h1, h2⟩
      exact ⟨c1.2 h1, fun u hu => decide_eq_true ((c2 u (List.mem_range.1 hu)).2 (of_decide_eq_true (h2 u hu)))⟩
  · rw [List.getElem?_eq_none (by rw [tidyL_length]; omega), List.getElem?_eq_none (by rw [tidyL_length, ← h.1]; omega)]

theorem same_tidy (l : List Int) (h0 : ∀ y ∈ l, 0 ≤ y) : Same l (tidyL l) := by
  refine ⟨(tidyL_length l).symm, fun i j hi hj => ?_⟩
  rw [tidyL_rd l i hi, tidyL_rd l j hj]
  have pi := h0 _ (rd_mem l i hi)
  have pj := h0 _ (rd_mem l j hj)
  constructor
  · intro h
    have := cnt_mono l (show (rd l (i : Int)).toNat ≤ (rd l (j : Int)).toNat by omega)
    omega
  · intro h
    rcases Int.lt_or_le (rd l (j : Int)) (rd l (i : Int)) with h1 | h1
    · have := cnt_lt (l := l) (show (rd l (j : Int)).toNat < (rd l (i : Int)).toNat by omega) (by rw [Int.toNat_of_nonneg pj]; exact rd_mem l j hj)
      omega
    · exact h1

theorem tidyL_nonneg (l : List Int) : ∀ y ∈ tidyL l, 0 ≤ y := by
  intro y hy
  unfold tidyL at hy
  obtain ⟨x, _, rfl⟩ := List.mem_map.1 hy
  omega

theorem tidy_tidy (l : List Int) (h0 : ∀ y ∈ l, 0 ≤ y) : tidyL (tidyL l) = tidyL l := ((same_tidy l h0).tidy h0 (tidyL_nonneg l)).symm

theorem tidy_le (l : List Int) (m : Int) (h0 : ∀ y ∈ l, 0 ≤ y ∧ y ≤ m) : ∀ y ∈ tidyL l, 0 ≤ y ∧ y ≤ m := by
  intro y hy
  unfold tidyL at hy
  obtain ⟨x, hx, rfl⟩ := List.mem_map.1 hy
  have h1 := cnt_le l x.toNat
  have := h0 x hx
  omega

theorem tidy_zero (l : List Int) (h : (0 : Int) ∈ l) : (0 : Int) ∈ tidyL l := by
  unfold tidyL
  exact List.mem_map.2 ⟨0, h, by simp [cnt]⟩

/-! The least ranks of a set. -/
theorem leastN_le (l : List Int) (s : Int) : ∀ n, leastN l s n ≤ 10 ∧ ∀ v : Nat, v < n → bit s v = true → leastN l s n ≤ rd l (v : Int)
  | 0 => ⟨Int.le_refl _, fun v hv => absurd hv (by omega)⟩
  | n + 1 => by
    obtain ⟨h1, h2⟩ := leastN_le l s n
    simp only [leastN]
    cases hb : bit s n with
    | true =>
      rw [if_pos rfl]
      have hm : mn (leastN l s n) (rd l (n : Int)) ≤ leastN l s n ∧ mn (leastN l s n) (rd l (n : Int)) ≤ rd l (n : Int) := by unfold mn; split <;> omega
      refine ⟨Int.le_trans hm.1 h1, fun v hv hbv => ?_⟩
      rcases Nat.lt_or_ge v n with h3 | h3
      · exact Int.le_trans hm.1 (h2 v h3 hbv)
      · obtain rfl : v = n := by omega
        exact hm.2
    | false =>
      rw [if_neg (by simp)]
      refine ⟨h1, fun v hv hbv => ?_⟩
      rcases Nat.lt_or_ge v n with h3 | h3
      · exact h2 v h3 hbv
      · obtain rfl : v = n := by omega
        rw [hb] at hbv; cases hbv
theorem leastN_mem (l : List Int) (s : Int) : ∀ n, leastN l s n = 10 ∨ ∃ v : Nat, v < n ∧ bit s v = true ∧ rd l (v : Int) = leastN l s n
  | 0 => .inl rfl
  | n + 1 => by
    simp only [leastN]
    cases hb : bit s n with
    | true =>
      rw [if_pos rfl]
      have hm : mn (leastN l s n) (rd l (n : Int)) = leastN l s n ∨ mn (leastN l s n) (rd l (n : Int)) = rd l (n : Int) := by unfold mn; split <;> simp
      rcases hm with hm | hm
      · rcases leastN_mem l s n with h | ⟨v, h1, h2, h3⟩
        · left; rw [hm, h]
        · right; exact ⟨v, by omega, h2, by rw [hm, h3]⟩
      · right; exact ⟨n, by omega, hb, hm.symm⟩
    | false =>
      rw [if_neg (by simp)]
      rcases leastN_mem l s n with h | ⟨v, h1, h2, h3⟩
      · exact .inl h
      · exact .inr ⟨v, by omega, h2, h3⟩

/-- A world has the least rank of a set just if no world of the set has a lesser one. -/
theorem least_iff (l : List Int) (s : Int) (h9 : ∀ y ∈ l, y ≤ 9) (w : Nat) (hw : w < l.length) (hb : bit s w = true) :
    (rd l (w : Int) == least l s) = true ↔ ∀ v : Nat, v < l.length → bit s v = true → rd l (w : Int) ≤ rd l (v : Int) := by
  have h1 := leastN_le l s l.length
  have h2 := leastN_mem l s l.length
  rw [beq_iff_eq]
  constructor
  · intro h v hv hbv
    rw [h]
    exact h1.2 v hv hbv
  · intro h
    have h3 := h1.2 w hw hb
    have h4 := h9 _ (rd_mem l w hw)
    unfold least
    rcases h2 with h2 | ⟨v, hv, hbv, e⟩
    · omega
    · have := h v hv hbv
      omega

theorem rev_bit (l : List Int) (s : Int) (w : Nat) : bit (rev l s) w = (decide (w < l.length) && (bit s w && (rd l (w : Int) == least l s))) := by
  unfold rev bit
  rw [Int.toNat_natCast, sumN_testBit]

theorem Same.rev {a b : List Int} (h : Same a b) (ha : ∀ y ∈ a, y ≤ 9) (hb : ∀ y ∈ b, y ≤ 9) (s : Int) : rev a s = rev b s := by
  unfold Hand.rev
  rw [← h.1]
  congr 1
  apply sumN_congr
  intro w hw
  have hw2 : w < b.length := by rw [← h.1]; exact hw
  cases hbw : bit s w with
  | false => rfl
  | true =>
    rw [Bool.true_and, Bool.true_and, Bool.eq_iff_iff, least_iff a s ha w hw hbw, least_iff b s hb w hw2 hbw]
    constructor
    · intro h3 v hv hbv
      exact (h.2 w v hw (by rw [h.1]; exact hv)).1 (h3 v (by rw [h.1]; exact hv) hbv)
    · intro h3 v hv hbv
      exact (h.2 w v hw hv).2 (h3 v (by rw [← h.1]; exact hv) hbv)

/-- The worlds i and j, as a set. -/
def pair (i j : Nat) : Int := ((2 ^ i ||| 2 ^ j : Nat) : Int)
theorem pair_bit (i j v : Nat) : bit (pair i j) v = (decide (i = v) || decide (j = v)) := by
  unfold pair bit
  rw [Int.toNat_natCast, Nat.testBit_or, Nat.testBit_two_pow, Nat.testBit_two_pow]

theorem rev_pair (l : List Int) (i j : Nat) (hi : i < l.length) (hj : j < l.length) (h9 : ∀ y ∈ l, y ≤ 9) : bit (rev l (pair i j)) i = true ↔ rd l (i : Int) ≤ rd l (j : Int) := by
  have hb : bit (pair i j) i = true := by rw [pair_bit]; simp
  rw [rev_bit, decide_eq_true hi, Bool.true_and, hb, Bool.true_and, least_iff l _ h9 i hi hb]
  constructor
  · intro h
    exact h j hj (by rw [pair_bit]; simp)
  · intro h v hv hbv
    rw [pair_bit, Bool.or_eq_true, decide_eq_true_eq, decide_eq_true_eq] at hbv
    rcases hbv with rfl | rfl
    · exact Int.le_refl _
    · exact h

theorem pair_lt (i j n : Nat) (hi : i < n) (hj : j < n) : 2 ^ i ||| 2 ^ j < 2 ^ n :=
  Nat.or_lt_two_pow (Nat.pow_lt_pow_right (by decide) hi) (Nat.pow_lt_pow_right (by decide) hj)

/-- Where all revisions are the same, so is the order. -/
theorem same_of_rev {a b : List Int} (hl : a.length = b.length) (ha : ∀ y ∈ a, y ≤ 9) (hb : ∀ y ∈ b, y ≤ 9) (h : ∀ s : Nat, s < 2 ^ a.length → rev a (s : Int) = rev b (s : Int)) : Same a b := by
  refine ⟨hl, fun i j hi hj => ?_⟩
  have e := h (2 ^ i ||| 2 ^ j) (pair_lt i j _ hi hj)
  rw [← rev_pair a i j hi hj ha, ← rev_pair b i j (by rw [← hl]; exact hi) (by rw [← hl]; exact hj) hb]
  unfold pair
  rw [e]

end Go.Proofs.Ytgmnbegemgankaa.L
