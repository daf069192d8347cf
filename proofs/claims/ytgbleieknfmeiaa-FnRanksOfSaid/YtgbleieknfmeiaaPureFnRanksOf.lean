/- The law FnRanksOf, for all arguments. -/
import Derived.Test.YtgbleieknfmeiaaHm
import Derived.Test.YtgbleieknfmeiaaHandF
import Derived.Test.YtgbleieknfmeiaaGx1
import Derived.Test.YtgbleieknfmeiaaGx2
import Derived.Test.YtgbleieknfmeiaaGx3
import Derived.Test.YtgbleieknfmeiaaGx4
import Derived.Test.YtgbleieknfmeiaaGx5
namespace Go.Proofs.Ytgbleieknfmeiaa.L
open Go.RowKit Go.Proofs.Ytgbleieknfmeiaa.B Go.Proofs.Ytgbleieknfmeiaa.G Go.Proofs.Ytgbleieknfmeiaa.Hand Go.Proofs.YtgbleieknfmeiaaW.PrintWords Go.Proofs.YtgbleieknfmeiaaW.PrintLast Go.Proofs.YtgbleieknfmeiaaW.PrintMore
set_option linter.unusedVariables false
set_option linter.unusedSimpArgs false
theorem sameInts_l0 (x : List Int) (hl : x.length ≤ 2000000) : ∀ (d i k : Nat), i + d = x.length → d < k → laws_sameInts.l0 k x x i = some true := by
  intro d
  induction d with
  | zero =>
    intro i k hi hk
    obtain ⟨m, rfl⟩ : ∃ m, k = m + 1 := ⟨k - 1, by omega⟩
    simp only [laws_sameInts.l0]
    rw [if_neg (by omega)]
  | succ d ih =>
    intro i k hi hk
    obtain ⟨m, rfl⟩ : ∃ m, k = m + 1 := ⟨k - 1, by omega⟩
    simp only [laws_sameInts.l0]
    rw [if_pos (by omega), if_pos (by omega), if_pos (by omega), if_pos trivial, next64 i (by omega)]
    exact ih (i + 1) m (by omega) (by omega)
theorem sameInts_refl (l : List Int) (k : Nat) (hl : l.length ≤ 2000000) (hk : l.length < k) : laws_sameInts.f k l l = some true := by
  unfold laws_sameInts.f
  rw [if_pos rfl]
  exact sameInts_l0 l hl l.length 0 k (by omega) hk
end Go.Proofs.Ytgbleieknfmeiaa.L
namespace Go.Proofs.Ytgbleieknfmeiaa.L
open Go.RowKit Go.Proofs.Ytgbleieknfmeiaa.B Go.Proofs.Ytgbleieknfmeiaa.G Go.Proofs.Ytgbleieknfmeiaa.Hand Go.Proofs.YtgbleieknfmeiaaW.PrintWords Go.Proofs.YtgbleieknfmeiaaW.PrintLast Go.Proofs.YtgbleieknfmeiaaW.PrintMore
set_option linter.unusedVariables false
set_option linter.unusedSimpArgs false
theorem l1In_eq (a b c : Int) : spec_l1In.f a b c = some (decide (b ≤ a) && decide (a ≤ c)) := by
  unfold spec_l1In.f
  by_cases h : a ≥ b
  · rw [if_pos h]; simp [show b ≤ a from h]
  · rw [if_neg h]; simp [show ¬ b ≤ a from h]
theorem WorldsOf_eq (t : Int) : impl_WorldsOf.f t = some (nW t) := by
  unfold impl_WorldsOf.f nW
  rw [areThings_eq]
  simp only [Option.bind_some]
  cases h : okT t with
  | false => simp
  | true => rcases okT_cases h with rfl | rfl | rfl <;> decide +kernel
theorem alive_eq : laws_alive.f = some true := by
  unfold laws_alive.f
  rw [WorldsOf_eq, WorldsOf_eq]
  decide +kernel
end Go.Proofs.Ytgbleieknfmeiaa.L
namespace Go.Proofs.Ytgbleieknfmeiaa.L
open Go.RowKit Go.Proofs.Ytgbleieknfmeiaa.Hand Go.Proofs.YtgbleieknfmeiaaW.PrintWords
set_option linter.unusedVariables false
set_option linter.unusedSimpArgs false
/-- How many numbers below x are in the list. -/
def cnt (l : List Int) (x : Nat) : Nat := (List.range x).countP (fun q : Nat => l.any (fun y => y == (q : Int)))
/-- Tidy ranks. -/
def tidyL (l : List Int) : List Int := l.map (fun x => (cnt l x.toNat : Int))
theorem tidyL_length (l : List Int) : (tidyL l).length = l.length := by unfold tidyL; simp
theorem rd_map (l : List Int) (f : Int → Int) (i : Nat) (h : i < l.length) : rd (l.map f) (i : Int) = f (rd l (i : Int)) := by
  unfold rd
  rw [Int.toNat_natCast, List.getD_eq_getElem?_getD, List.getD_eq_getElem?_getD, List.getElem?_map, List.getElem?_eq_getElem h]; rfl
theorem tidyL_rd (l : List Int) (i : Nat) (h : i < l.length) : rd (tidyL l) (i : Int) = (cnt l (rd l (i : Int)).toNat : Int) := rd_map l _ i h
theorem rd_mem (l : List Int) (i : Nat) (h : i < l.length) : rd l (i : Int) ∈ l := by
  unfold rd
  rw [Int.toNat_natCast, List.getD_eq_getElem?_getD, List.getElem?_eq_getElem h]; exact List.getElem_mem h
theorem cnt_succ (l : List Int) (x : Nat) : cnt l (x + 1) = cnt l x + if l.any (fun y => y == (x : Int)) = true then 1 else 0 := by
  unfold cnt
  rw [List.range_succ, List.countP_append, List.countP_singleton]
theorem cnt_mono (l : List Int) {x y : Nat} (h : x ≤ y) : cnt l x ≤ cnt l y := by
  induction y with
  | zero => obtain rfl : x = 0 := by omega
            exact Nat.le_refl _
  | succ y ih =>
    rcases Nat.lt_or_ge x (y + 1) with h1 | h1
    · rw [cnt_succ]; have := ih (by omega); omega
    · obtain rfl : x = y + 1 := by omega
      exact Nat.le_refl _
theorem cnt_lt {l : List Int} {x y : Nat} (h : x < y) (hx : (x : Int) ∈ l) : cnt l x < cnt l y := by
  have h1 := cnt_mono l (show x + 1 ≤ y from h)
  rw [cnt_succ, if_pos (List.any_eq_true.2 ⟨_, hx, by simp⟩)] at h1
  omega
/-- Is place v the first of its rank, and is its rank below x. -/
def firstB (l : List Int) (x : Int) (v : Nat) : Bool := decide (rd l (v : Int) < x) && (List.range v).all (fun u => decide (rd l (u : Int) ≠ rd l (v : Int)))
theorem count_or (p : Nat → Bool) (y : Int) (x : Nat) :
    (List.range x).countP (fun q : Nat => p q || ((q : Int) == y)) = (List.range x).countP p + if 0 ≤ y ∧ y < x ∧ p y.toNat = false then 1 else 0 := by
  induction x with
  | zero => simp; omega
  | succ x ih =>
    rw [List.range_succ, List.countP_append, List.countP_append, ih, List.countP_singleton, List.countP_singleton]
    by_cases e : (x : Int) = y
    · subst e
      have n1 : ¬ (0 ≤ (x : Int) ∧ (x : Int) < (x : Int) ∧ p (x : Int).toNat = false) := fun h => absurd h.2.1 (by omega)
      rw [if_neg n1, Int.toNat_natCast]
      cases hp : p x with
      | true =>
        have n2 : ¬ (0 ≤ (x : Int) ∧ (x : Int) < ((x + 1 : Nat) : Int) ∧ true = false) := fun h => absurd h.2.2 (by simp)
        rw [if_neg n2]; simp
      | false =>
        have n2 : 0 ≤ (x : Int) ∧ (x : Int) < ((x + 1 : Nat) : Int) ∧ false = false := ⟨by omega, by omega, rfl⟩
        rw [if_pos n2]; simp
    · have e2 : ((x : Int) == y) = false := by simpa using e
      rw [e2, Bool.or_false]
      by_cases h : 0 ≤ y ∧ y < x ∧ p y.toNat = false
      · have h' : 0 ≤ y ∧ y < ((x + 1 : Nat) : Int) ∧ p y.toNat = false := ⟨h.1, by omega, h.2.2⟩
        rw [if_pos h, if_pos h']; omega
      · have h' : ¬ (0 ≤ y ∧ y < ((x + 1 : Nat) : Int) ∧ p y.toNat = false) := fun k => h ⟨k.1, by omega, k.2.2⟩
        rw [if_neg h, if_neg h']; omega
theorem take_snoc (l : List Int) (m : Nat) (h : m < l.length) : l.take (m + 1) = l.take m ++ [rd l (m : Int)] := by
  rw [List.take_succ_eq_append_getElem h]
  congr 1
  unfold rd
  rw [Int.toNat_natCast, List.getD_eq_getElem?_getD, List.getElem?_eq_getElem h]; rfl
theorem any_take (l : List Int) (y : Int) : ∀ m, m ≤ l.length → ((l.take m).any (fun z => z == y) = false ↔ (List.range m).all (fun u => decide (rd l (u : Int) ≠ y)) = true) := by
  intro m
  induction m with
  | zero => simp
  | succ m ih =>
    intro hm
    rw [take_snoc l m (by omega), List.any_append, List.range_succ, List.all_append, Bool.or_eq_false_iff, Bool.and_eq_true, ih (by omega)]
    simp
theorem lots_take (l : List Int) (x : Nat) (h0 : ∀ y ∈ l, 0 ≤ y) : ∀ m, m ≤ l.length → (List.range x).countP (fun q : Nat => (l.take m).any (fun y => y == (q : Int))) = (List.range m).countP (firstB l x) := by
  intro m
  induction m with
  | zero => simp
  | succ m ih =>
    intro hm
    have e : (fun q : Nat => (l.take (m + 1)).any (fun y => y == (q : Int))) = fun q : Nat => (l.take m).any (fun y => y == (q : Int)) || ((q : Int) == rd l (m : Int)) := by
      funext q
      rw [take_snoc l m (by omega), List.any_append]
      congr 1
      simp only [List.any_cons, List.any_nil, Bool.or_false]
      rw [Bool.eq_iff_iff, beq_iff_eq, beq_iff_eq]
      exact eq_comm
    rw [e, count_or, ih (by omega), List.range_succ, List.countP_append, List.countP_singleton]
    congr 1
    have hy := h0 _ (rd_mem l m (by omega))
    have h1 := any_take l (rd l (m : Int)) m (by omega)
    have h2 : (((rd l (m : Int)).toNat : Nat) : Int) = rd l (m : Int) := by omega
    unfold firstB
    by_cases hc : rd l (m : Int) < (x : Int)
    · rw [decide_eq_true hc, Bool.true_and]
      cases hb : (List.range m).all (fun u => decide (rd l (u : Int) ≠ rd l (m : Int))) with
      | true => rw [if_pos ⟨hy, hc, by rw [h2]; exact h1.2 hb⟩]; rfl
      | false => rw [if_neg (by rintro ⟨_, _, c⟩; rw [h2] at c; rw [h1.1 c] at hb; cases hb)]; rfl
    · rw [decide_eq_false hc, if_neg (by rintro ⟨_, b, _⟩; exact hc b)]; rfl
/-- Tidy ranks go by the order of the ranks alone. -/
theorem cnt_lots (l : List Int) (x : Nat) (h0 : ∀ y ∈ l, 0 ≤ y) : cnt l x = (List.range l.length).countP (firstB l x) := by
  have := lots_take l x h0 l.length (Nat.le_refl _)
  rw [List.take_length] at this
  exact this
/-- Two rows of ranks are in the same order. -/
def Same (a b : List Int) : Prop := a.length = b.length ∧ ∀ i j : Nat, i < a.length → j < a.length → (rd a (i : Int) ≤ rd a (j : Int) ↔ rd b (i : Int) ≤ rd b (j : Int))
theorem Same.symm {a b : List Int} (h : Same a b) : Same b a := ⟨h.1.symm, fun i j hi hj => (h.2 i j (by rw [h.1]; exact hi) (by rw [h.1]; exact hj)).symm⟩
theorem Same.trans {a b c : List Int} (h : Same a b) (k : Same b c) : Same a c := ⟨h.1.trans k.1, fun i j hi hj => (h.2 i j hi hj).trans (k.2 i j (by rw [← h.1]; exact hi) (by rw [← h.1]; exact hj))⟩
theorem Same.tidy {a b : List Int} (h : Same a b) (ha : ∀ y ∈ a, 0 ≤ y) (hb : ∀ y ∈ b, 0 ≤ y) : tidyL a = tidyL b := by
  apply List.ext_getElem?
  intro i
  by_cases hi : i < a.length
  · have hi2 : i < b.length := by rw [← h.1]; exact hi
    have e : ∀ (l : List Int) (j : Nat), j < l.length → l[j]? = some (rd l (j : Int)) := fun l j hj => by
      unfold rd
      rw [Int.toNat_natCast, List.getD_eq_getElem?_getD, List.getElem?_eq_getElem hj]; rfl
    rw [e _ _ (by rw [tidyL_length]; exact hi), e _ _ (by rw [tidyL_length]; exact hi2), tidyL_rd a i hi, tidyL_rd b i hi2]
    have pa := ha _ (rd_mem a i hi)
    have pb := hb _ (rd_mem b i hi2)
    rw [cnt_lots a _ ha, cnt_lots b _ hb, ← h.1]
    congr 2
    apply List.countP_congr
    intro v hv
    have hv : v < a.length := List.mem_range.1 hv
    have c1 : (rd a (v : Int) < (((rd a (i : Int)).toNat : Nat) : Int)) ↔ (rd b (v : Int) < (((rd b (i : Int)).toNat : Nat) : Int)) := by
      have := h.2 i v hi hv
      omega
    have c2 : ∀ u, u < v → (rd a (u : Int) ≠ rd a (v : Int) ↔ rd b (u : Int) ≠ rd b (v : Int)) := fun u hu => by
      have h1 := h.2 u v (by omega) hv
      have h2 := h.2 v u hv (by omega)
      omega
    unfold firstB
    rw [Bool.and_eq_true, Bool.and_eq_true, decide_eq_true_eq, decide_eq_true_eq, List.all_eq_true, List.all_eq_true]
    constructor
    · rintro ⟨h1, h2⟩
      exact ⟨c1.1 h1, fun u hu => decide_eq_true ((c2 u (List.mem_range.1 hu)).1 (of_decide_eq_true (h2 u hu)))⟩
    · rintro ⟨h1, h2⟩
      exact ⟨c1.2 h1, fun u hu => decide_eq_true ((c2 u (List.mem_range.1 hu)).2 (of_decide_eq_true (h2 u hu)))⟩
  · rw [List.getElem?_eq_none (by rw [tidyL_length]; omega), List.getElem?_eq_none (by rw [tidyL_length, ← h.1]; omega)]
theorem same_tidy (l : List Int) (h0 : ∀ y ∈ l, 0 ≤ y) : Same l (tidyL l) := by
  refine ⟨(tidyL_length l).symm, fun i j hi hj => ?_⟩
  rw [tidyL_rd l i hi, tidyL_rd l j hj]
  have pi := h0 _ (rd_mem l i hi)
  have pj := h0 _ (rd_mem l j hj)
  constructor
  · intro h
    have := cnt_mono l (show (rd l (i : Int)).toNat ≤ (rd l (j : Int)).toNat by omega)
    omega
  · intro h
    rcases Int.lt_or_le (rd l (j : Int)) (rd l (i : Int)) with h1 | h1
    · have := cnt_lt (l := l) (show (rd l (j : Int)).toNat < (rd l (i : Int)).toNat by omega) (by rw [Int.toNat_of_nonneg pj]; exact rd_mem l j hj)
      omega
    · exact h1
theorem leastN_le (l : List Int) (s : Int) : ∀ n, leastN l s n ≤ 10 ∧ ∀ v : Nat, v < n → bit s v = true → leastN l s n ≤ rd l (v : Int)
  | 0 => ⟨Int.le_refl _, fun v hv => absurd hv (by omega)⟩
  | n + 1 => by
    obtain ⟨h1, h2⟩ := leastN_le l s n
    simp only [leastN]
    cases hb : bit s n with
    | true =>
      rw [if_pos rfl]
      have hm : mn (leastN l s n) (rd l (n : Int)) ≤ leastN l s n ∧ mn (leastN l s n) (rd l (n : Int)) ≤ rd l (n : Int) := by unfold mn; split <;> omega
      refine ⟨Int.le_trans hm.1 h1, fun v hv hbv => ?_⟩
      rcases Nat.lt_or_ge v n with h3 | h3
      · exact Int.le_trans hm.1 (h2 v h3 hbv)
      · obtain rfl : v = n := by omega
        exact hm.2
    | false =>
      rw [if_neg (by simp)]
      refine ⟨h1, fun v hv hbv => ?_⟩
      rcases Nat.lt_or_ge v n with h3 | h3
      · exact h2 v h3 hbv
      · obtain rfl : v = n := by omega
        rw [hb] at hbv; cases hbv
theorem leastN_mem (l : List Int) (s : Int) : ∀ n, leastN l s n = 10 ∨ ∃ v : Nat, v < n ∧ bit s v = true ∧ rd l (v : Int) = leastN l s n
  | 0 => .inl rfl
  | n + 1 => by
    simp only [leastN]
    cases hb : bit s n with
    | true =>
      rw [if_pos rfl]
      have hm : mn (leastN l s n) (rd l (n : Int)) = leastN l s n ∨ mn (leastN l s n) (rd l (n : Int)) = rd l (n : Int) := by unfold mn; split <;> simp
      rcases hm with hm | hm
      · rcases leastN_mem l s n with h | ⟨v, h1, h2, h3⟩
        · left; rw [hm, h]
        · right; exact ⟨v, by omega, h2, by rw [hm, h3]⟩
      · right; exact ⟨n, by omega, hb, hm.symm⟩
    | false =>
      rw [if_neg (by simp)]
      rcases leastN_mem l s n with h | ⟨v, h1, h2, h3⟩
      · exact .inl h
      · exact .inr ⟨v, by omega, h2, h3⟩
/-- A world has the least rank of a set just if no world of the set has a lesser one. -/
theorem least_iff (l : List Int) (s : Int) (h9 : ∀ y ∈ l, y ≤ 9) (w : Nat) (hw : w < l.length) (hb : bit s w = true) :
    (rd l (w : Int) == least l s) = true ↔ ∀ v : Nat, v < l.length → bit s v = true → rd l (w : Int) ≤ rd l (v : Int) := by
  have h1 := leastN_le l s l.length
  have h2 := leastN_mem l s l.length
  rw [beq_iff_eq]
  constructor
  · intro h v hv hbv
    rw [h]
    exact h1.2 v hv hbv
  · intro h
    have h3 := h1.2 w hw hb
    have h4 := h9 _ (rd_mem l w hw)
    unfold least
    rcases h2 with h2 | ⟨v, hv, hbv, e⟩
    · omega
    · have := h v hv hbv
      omega
theorem rev_bit (l : List Int) (s : Int) (w : Nat) : bit (rev l s) w = (decide (w < l.length) && (bit s w && (rd l (w : Int) == least l s))) := by
  unfold rev bit
  rw [Int.toNat_natCast, sumN_testBit]
theorem Same.rev {a b : List Int} (h : Same a b) (ha : ∀ y ∈ a, y ≤ 9) (hb : ∀ y ∈ b, y ≤ 9) (s : Int) : rev a s = rev b s := by
  unfold Hand.rev
  rw [← h.1]
  congr 1
  apply sumN_congr
  intro w hw
  have hw2 : w < b.length := by rw [← h.1]; exact hw
  cases hbw : bit s w with
  | false => rfl
  | true =>
    rw [Bool.true_and, Bool.true_and, Bool.eq_iff_iff, least_iff a s ha w hw hbw, least_iff b s hb w hw2 hbw]
    constructor
    · intro h3 v hv hbv
      exact (h.2 w v hw (by rw [h.1]; exact hv)).1 (h3 v (by rw [h.1]; exact hv) hbv)
    · intro h3 v hv hbv
      exact (h.2 w v hw hv).2 (h3 v (by rw [← h.1]; exact hv) hbv)
/-- The worlds i and j, as a set. -/
def pair (i j : Nat) : Int := ((2 ^ i ||| 2 ^ j : Nat) : Int)
theorem pair_bit (i j v : Nat) : bit (pair i j) v = (decide (i = v) || decide (j = v)) := by
  unfold pair bit
  rw [Int.toNat_natCast, Nat.testBit_or, Nat.testBit_two_pow, Nat.testBit_two_pow]
theorem rev_pair (l : List Int) (i j : Nat) (hi : i < l.length) (hj : j < l.length) (h9 : ∀ y ∈ l, y ≤ 9) : bit (rev l (pair i j)) i = true ↔ rd l (i : Int) ≤ rd l (j : Int) := by
  have hb : bit (pair i j) i = true := by rw [pair_bit]; simp
  rw [rev_bit, decide_eq_true hi, Bool.true_and, hb, Bool.true_and, least_iff l _ h9 i hi hb]
  constructor
  · intro h
    exact h j hj (by rw [pair_bit]; simp)
  · intro h v hv hbv
    rw [pair_bit, Bool.or_eq_true, decide_eq_true_eq, decide_eq_true_eq] at hbv
    rcases hbv with rfl | rfl
    · exact Int.le_refl _
    · exact h
theorem pair_lt (i j n : Nat) (hi : i < n) (hj : j < n) : 2 ^ i ||| 2 ^ j < 2 ^ n :=
  Nat.or_lt_two_pow (Nat.pow_lt_pow_right (by decide) hi) (Nat.pow_lt_pow_right (by decide) hj)
/-- Where all revisions are the same, so is the order. -/
theorem same_of_rev {a b : List Int} (hl : a.length = b.length) (ha : ∀ y ∈ a, y ≤ 9) (hb : ∀ y ∈ b, y ≤ 9) (h : ∀ s : Nat, s < 2 ^ a.length → rev a (s : Int) = rev b (s : Int)) : Same a b := by
  refine ⟨hl, fun i j hi hj => ?_⟩
  have e := h (2 ^ i ||| 2 ^ j) (pair_lt i j _ hi hj)
  rw [← rev_pair a i j hi hj ha, ← rev_pair b i j (by rw [← hl]; exact hi) (by rw [← hl]; exact hj) hb]
  unfold pair
  rw [e]
end Go.Proofs.Ytgbleieknfmeiaa.L
namespace Go.Proofs.Ytgbleieknfmeiaa.L
open Go.RowKit Go.Proofs.Ytgbleieknfmeiaa.B Go.Proofs.Ytgbleieknfmeiaa.G Go.Proofs.Ytgbleieknfmeiaa.Hand Go.Proofs.YtgbleieknfmeiaaW.PrintWords Go.Proofs.YtgbleieknfmeiaaW.PrintLast Go.Proofs.YtgbleieknfmeiaaW.PrintMore
set_option linter.unusedVariables false
set_option linter.unusedSimpArgs false
theorem okR_cases' {t : Int} {l : List Int} (h : okR t l = true) : okT t = true ∧ (l.length : Int) = nW t ∧ (∀ y ∈ l, 0 ≤ y ∧ y ≤ 9) ∧ (0 : Int) ∈ l ∧ 2 ≤ l.length ∧ l.length ≤ 8 := by
  unfold okR at h
  simp only [Bool.and_eq_true, decide_eq_true_eq, List.all_eq_true, List.any_eq_true, beq_iff_eq] at h
  obtain ⟨h1, h2, h3, x, hx, rfl⟩ := h
  have := nW_pos h1
  exact ⟨h1, h2, h3, hx, by omega, by omega⟩
theorem tidy_take (l : List Int) (i : Nat) (h : i < l.length) : (tidyL l).take (i + 1) = (tidyL l).take i ++ [(cnt l (rd l (i : Int)).toNat : Int)] := by
  rw [take_snoc (tidyL l) i (by rw [tidyL_length]; exact h), tidyL_rd l i h]
def idxI (x : Int) : List Int → Nat → Int
  | [], _ => -1
  | y :: ys, i => if x = y then (i : Int) else idxI x ys (i + 1)
theorem Index_l0 (l : List Int) (x : Int) (hl : l.length ≤ 2000000) : ∀ (d i k : Nat), i + d = l.length → d < k → slices_Index_int_int.l0 k l x (l.length : Int) i = some (idxI x (l.drop i) i) := by
  intro d
  induction d with
  | zero =>
    intro i k hi hk
    obtain ⟨m, rfl⟩ : ∃ m, k = m + 1 := ⟨k - 1, by omega⟩
    simp only [slices_Index_int_int.l0]
    rw [if_neg (by omega), List.drop_eq_nil_of_le (by omega)]; rfl
  | succ d ih =>
    intro i k hi hk
    obtain ⟨m, rfl⟩ : ∃ m, k = m + 1 := ⟨k - 1, by omega⟩
    simp only [slices_Index_int_int.l0]
    rw [if_pos (by omega), if_pos (by omega), if_pos (by omega), next64 i (by omega), drop_cons l i (by omega)]
    simp only [idxI]
    by_cases h : x = rd l (i : Int)
    · rw [if_pos h, if_pos h]
    · rw [if_neg h, if_neg h]
      exact ih (i + 1) m (by omega) (by omega)
theorem idxI_asc (x : Int) : ∀ (l : List Int) (i : Nat), l.Pairwise (· < ·) → x ∈ l → idxI x l i = ((i + l.countP (fun y => decide (y < x)) : Nat) : Int)
  | [], i, _, hx => by cases hx
  | y :: ys, i, hp, hx => by
    obtain ⟨h1, h2⟩ := List.pairwise_cons.1 hp
    simp only [idxI]
    by_cases e : x = y
    · subst e
      rw [if_pos rfl, List.countP_cons_of_neg (by simp), List.countP_eq_zero.2 (fun z hz => by have := h1 z hz; simp; omega)]
      simp
    · rw [if_neg e]
      have hx2 : x ∈ ys := by
        rcases List.mem_cons.1 hx with h | h
        · exact absurd h e
        · exact h
      rw [idxI_asc x ys (i + 1) h2 hx2, List.countP_cons_of_pos (by simpa using h1 x hx2)]
      omega
theorem below_succ (x : Int) : ∀ (l : List Int), l.Pairwise (· < ·) → l.countP (fun y => decide (y < x + 1)) = l.countP (fun y => decide (y < x)) + if l.any (fun y => y == x) = true then 1 else 0
  | [], _ => by simp
  | y :: ys, hp => by
    obtain ⟨h1, h2⟩ := List.pairwise_cons.1 hp
    rcases Int.lt_trichotomy y x with h | h | h
    · rw [List.countP_cons_of_pos (by simp; omega), List.countP_cons_of_pos (by simpa using h), below_succ x ys h2, List.any_cons]
      have : (y == x) = false := by simp; omega
      rw [this, Bool.false_or]
      omega
    · subst h
      rw [List.countP_cons_of_pos (by simp; omega), List.countP_cons_of_neg (by simp), List.countP_eq_zero.2 (fun z hz => by have := h1 z hz; simp; omega), List.countP_eq_zero.2 (fun z hz => by have := h1 z hz; simp; omega)]
      simp
    · rw [List.countP_cons_of_neg (by simp; omega), List.countP_cons_of_neg (by simp; omega), List.countP_eq_zero.2 (fun z hz => by have := h1 z hz; simp; omega), List.countP_eq_zero.2 (fun z hz => by have := h1 z hz; simp; omega)]
      have : ((y :: ys).any fun z => z == x) = false := by
        rw [List.any_eq_false]
        intro z hz
        rcases List.mem_cons.1 hz with rfl | hz
        · simp; omega
        · have := h1 z hz; simp; omega
      rw [this]; simp
theorem below_cnt (lv l : List Int) (hp : lv.Pairwise (· < ·)) (h0 : ∀ y ∈ lv, 0 ≤ y) (hm : ∀ y, y ∈ lv ↔ y ∈ l) : ∀ x : Nat, lv.countP (fun y => decide (y < (x : Int))) = cnt l x
  | 0 => by
    rw [List.countP_eq_zero.2 (fun z hz => by have := h0 z hz; simp; omega)]; rfl
  | x + 1 => by
    have e : ((x + 1 : Nat) : Int) = (x : Int) + 1 := by simp
    rw [e, below_succ _ lv hp, below_cnt lv l hp h0 hm x, cnt_succ]
    have ha : lv.any (fun y => y == (x : Int)) = l.any (fun y => y == (x : Int)) := by
      rw [Bool.eq_iff_iff, List.any_eq_true, List.any_eq_true]
      exact ⟨fun ⟨z, hz, e⟩ => ⟨z, (hm z).1 hz, e⟩, fun ⟨z, hz, e⟩ => ⟨z, (hm z).2 hz, e⟩⟩
    rw [ha]
theorem comp_spec (d : Array Int) (hs : ∀ i j, i ≤ j → j < d.size → d[i]! ≤ d[j]!) : ∀ m, m ≤ d.size →
    (Lib.compactUpTo d m).Pairwise (· < ·) ∧ ∀ x, x ∈ Lib.compactUpTo d m ↔ ∃ j, j < m ∧ d[j]! = x
  | 0, _ => by
    refine ⟨by simp [Lib.compactUpTo], fun x => ?_⟩
    simp [Lib.compactUpTo]
  | m + 1, hm => by
    obtain ⟨h1, h2⟩ := comp_spec d hs m (by omega)
    rw [Lib.compactUpTo_succ]
    by_cases hk : Lib.keeps d m = true
    · rw [if_pos hk]
      refine ⟨?_, fun x => ?_⟩
      · rw [List.pairwise_append]
        refine ⟨h1, List.pairwise_singleton _ _, fun x hx y hy => ?_⟩
        rw [List.mem_singleton] at hy
        subst hy
        obtain ⟨j, hj, rfl⟩ := (h2 x).1 hx
        unfold Lib.keeps at hk
        have hk := of_decide_eq_true hk
        have hne : d[m]! ≠ d[m - 1]! := by
          rcases hk with h | h
          · omega
          · exact h
        have a := hs j (m - 1) (by omega) (by omega)
        have b := hs (m - 1) m (by omega) (by omega)
        omega
      · rw [List.mem_append, h2, List.mem_singleton]
        constructor
        · rintro (⟨j, hj, e⟩ | e)
          · exact ⟨j, by omega, e⟩
          · exact ⟨m, by omega, e.symm⟩
        · rintro ⟨j, hj, e⟩
          rcases Nat.lt_or_ge j m with h | h
          · exact .inl ⟨j, h, e⟩
          · obtain rfl : j = m := by omega
            exact .inr e.symm
    · rw [if_neg hk, List.append_nil]
      refine ⟨h1, fun x => ?_⟩
      have hk2 : ¬ (m = 0 ∨ d[m]! ≠ d[m - 1]!) := fun h => hk (by unfold Lib.keeps; exact decide_eq_true h)
      have hm0 : m ≠ 0 := fun h => hk2 (.inl h)
      have he : d[m]! = d[m - 1]! := Classical.byContradiction fun h => hk2 (.inr h)
      rw [h2]
      constructor
      · rintro ⟨j, hj, e⟩; exact ⟨j, by omega, e⟩
      · rintro ⟨j, hj, e⟩
        rcases Nat.lt_or_ge j m with h | h
        · exact ⟨j, h, e⟩
        · obtain rfl : j = m := by omega
          exact ⟨j - 1, by omega, by rw [← he]; exact e⟩
theorem levels_spec (l : List Int) : (Lib.compact (l.mergeSort fun x y => decide (x ≤ y))).Pairwise (· < ·) ∧ ∀ x, x ∈ Lib.compact (l.mergeSort fun x y => decide (x ≤ y)) ↔ x ∈ l := by
  have hp : (l.mergeSort fun x y => decide (x ≤ y)).Pairwise (fun a b => (decide (a ≤ b)) = true) :=
    List.pairwise_mergeSort (fun a b c h1 h2 => by simp only [decide_eq_true_eq] at *; omega) (fun a b => by simp only [Bool.or_eq_true, decide_eq_true_eq]; omega) l
  generalize hz : (l.mergeSort fun x y => decide (x ≤ y)) = zs at hp
  have hmem : ∀ x, x ∈ zs ↔ x ∈ l := fun x => by rw [← hz]; exact List.mem_mergeSort
  have hs : ∀ i j, i ≤ j → j < zs.toArray.size → zs.toArray[i]! ≤ zs.toArray[j]! := by
    intro i j hij hj
    have hj' : j < zs.length := by simpa using hj
    rcases Nat.lt_or_ge i j with h | h
    · have := List.pairwise_iff_getElem.1 hp i j (by omega) hj' h
      simp only [decide_eq_true_eq] at this
      rw [getElem!_pos zs.toArray i (by simp; omega), getElem!_pos zs.toArray j hj]
      simpa using this
    · obtain rfl : i = j := by omega
      exact Int.le_refl _
  obtain ⟨h1, h2⟩ := comp_spec zs.toArray hs zs.length (by simp)
  refine ⟨h1, fun x => ?_⟩
  rw [← hmem x]
  show x ∈ Lib.compactUpTo zs.toArray zs.length ↔ _
  rw [h2]
  constructor
  · rintro ⟨j, hj, rfl⟩
    rw [getElem!_pos zs.toArray j (by simpa using hj)]
    simp
  · intro hx
    obtain ⟨j, hj, e⟩ := List.mem_iff_getElem.1 hx
    exact ⟨j, hj, by rw [getElem!_pos zs.toArray j (by simpa using hj)]; simpa using e⟩
theorem Index_eq (l lv : List Int) (x : Int) (k : Nat) (hp : lv.Pairwise (· < ·)) (hm : ∀ y, y ∈ lv ↔ y ∈ l) (h0 : ∀ y ∈ l, 0 ≤ y) (hx : x ∈ l) (hl : lv.length ≤ 2000000) (hk : lv.length < k) :
    slices_Index_int_int.f k lv x = some (cnt l x.toNat : Int) := by
  have h := Index_l0 lv x hl lv.length 0 k (by omega) hk
  rw [List.drop_zero, idxI_asc x lv 0 hp ((hm x).2 hx)] at h
  have hc := below_cnt lv l hp (fun y hy => h0 y ((hm y).1 hy)) hm x.toNat
  have hx0 := h0 x hx
  rw [Int.toNat_of_nonneg hx0] at hc
  rw [hc, Nat.zero_add] at h
  exact h
theorem tidy_l0 (l lv : List Int) (hp : lv.Pairwise (· < ·)) (hm : ∀ y, y ∈ lv ↔ y ∈ l) (h0 : ∀ y ∈ l, 0 ≤ y) (hl : l.length ≤ 1000) (hv : lv.length ≤ 1000) : ∀ (d i k : Nat), i + d = l.length → d + lv.length + 2 ≤ k →
    impl_tidy.l0 k lv ((tidyL l).take i) l (l.length : Int) i = some (tidyL l) := by
  intro d
  induction d with
  | zero =>
    intro i k hi hk
    obtain ⟨m, rfl⟩ : ∃ m, k = m + 1 := ⟨k - 1, by omega⟩
    simp only [impl_tidy.l0]
    rw [if_neg (by omega), List.take_of_length_le (by rw [tidyL_length]; omega)]
  | succ d ih =>
    intro i k hi hk
    obtain ⟨m, rfl⟩ : ∃ m, k = m + 1 := ⟨k - 1, by omega⟩
    simp only [impl_tidy.l0]
    rw [if_pos (by omega), if_pos (by omega), if_pos (by omega), Index_eq l lv _ m hp hm h0 (rd_mem l i (by omega)) (by omega) (by omega)]
    simp only [Option.bind_some]
    have := List.length_take_le i (tidyL l)
    rw [if_pos (by omega), next64 i (by omega), ← tidy_take l i (by omega)]
    exact ih (i + 1) m (by omega) (by omega)
theorem tidy_eq (l : List Int) (k : Nat) (h0 : ∀ y ∈ l, 0 ≤ y) (hl : l.length ≤ 500) (hk : 2 * l.length + 10 ≤ k) : impl_tidy.f k l = some (tidyL l) := by
  obtain ⟨hp, hm⟩ := levels_spec l
  have hsl : (l.mergeSort fun x y => decide (x ≤ y)).length = l.length := by simp
  have hcl := compact_len (l.mergeSort fun x y => decide (x ≤ y))
  unfold impl_tidy.f
  simp only [Option.bind_some, List.nil_append]
  rw [if_pos (by simp; omega)]
  unfold slices_Sort_int_int.f
  rw [if_pos (by omega)]
  simp only [Option.bind_some]
  unfold slices_Compact_int_int.f
  rw [if_pos (by omega)]
  simp only [Option.bind_some]
  exact tidy_l0 l _ hp hm h0 (by omega) (by omega) l.length 0 k (by omega) (by omega)
end Go.Proofs.Ytgbleieknfmeiaa.L
namespace Go.Proofs.Ytgbleieknfmeiaa.L
open Go.RowKit Go.Proofs.Ytgbleieknfmeiaa.B Go.Proofs.Ytgbleieknfmeiaa.G Go.Proofs.Ytgbleieknfmeiaa.Hand Go.Proofs.YtgbleieknfmeiaaW.PrintWords Go.Proofs.YtgbleieknfmeiaaW.PrintLast Go.Proofs.YtgbleieknfmeiaaW.PrintMore
set_option linter.unusedVariables false
set_option linter.unusedSimpArgs false
def rows1 : List (List Int) := [[0, 0], [0, 1], [1, 0]]
def rows2 : List (List Int) := [[0, 0, 0, 0], [0, 0, 0, 1], [0, 0, 1, 0], [0, 0, 1, 1], [0, 0, 1, 2], [0, 0, 2, 1], [0, 1, 0, 0], [0, 1, 0, 1], [0, 1, 0, 2], [0, 1, 1, 0], [0, 1, 1, 1], [0, 1, 1, 2], [0, 1, 2, 0], [0, 1, 2, 1], [0, 1, 2, 2], [0, 1, 2, 3], [0, 1, 3, 2], [0, 2, 0, 1], [0, 2, 1, 0], [0, 2, 1, 1], [0, 2, 1, 2], [0, 2, 1, 3], [0, 2, 2, 1], [0, 2, 3, 1], [0, 3, 1, 2], [0, 3, 2, 1], [1, 0, 0, 0], [1, 0, 0, 1], [1, 0, 0, 2], [1, 0, 1, 0], [1, 0, 1, 1], [1, 0, 1, 2], [1, 0, 2, 0], [1, 0, 2, 1], [1, 0, 2, 2], [1, 0, 2, 3], [1, 0, 3, 2], [1, 1, 0, 0], [1, 1, 0, 1], [1, 1, 0, 2], [1, 1, 1, 0], [1, 1, 2, 0], [1, 2, 0, 0], [1, 2, 0, 1], [1, 2, 0, 2], [1, 2, 0, 3], [1, 2, 1, 0], [1, 2, 2, 0], [1, 2, 3, 0], [1, 3, 0, 2], [1, 3, 2, 0], [2, 0, 0, 1], [2, 0, 1, 0], [2, 0, 1, 1], [2, 0, 1, 2], [2, 0, 1, 3], [2, 0, 2, 1], [2, 0, 3, 1], [2, 1, 0, 0], [2, 1, 0, 1], [2, 1, 0, 2], [2, 1, 0, 3], [2, 1, 1, 0], [2, 1, 2, 0], [2, 1, 3, 0], [2, 2, 0, 1], [2, 2, 1, 0], [2, 3, 0, 1], [2, 3, 1, 0], [3, 0, 1, 2], [3, 0, 2, 1], [3, 1, 0, 2], [3, 1, 2, 0], [3, 2, 0, 1], [3, 2, 1, 0]]
/-- All ranks without ranks left out, for 1 and for 2 things. -/
def rowsOf (t : Int) : List (List Int) := if t = 1 then rows1 else if t = 2 then rows2 else []
theorem rows1_ok : ∀ r ∈ rows1, okR 1 r = true ∧ tidyL r = r := by decide +kernel
theorem rows2_ok : ∀ r ∈ rows2, okR 2 r = true ∧ tidyL r = r := by decide +kernel
theorem rows_ok {t : Int} {r : List Int} (h : r ∈ rowsOf t) : okR t r = true ∧ tidyL r = r := by
  unfold rowsOf at h
  by_cases h1 : t = 1
  · subst h1; rw [if_pos rfl] at h; exact rows1_ok r h
  · rw [if_neg h1] at h
    by_cases h2 : t = 2
    · subst h2; rw [if_pos rfl] at h; exact rows2_ok r h
    · rw [if_neg h2] at h; cases h
theorem rows_len (t : Int) : (rowsOf t).length ≤ 75 := by
  unfold rowsOf
  split
  · decide
  · split
    · decide
    · decide
set_option maxRecDepth 100000 in
theorem sRanks1 : spec_RanksOf.f 20000 1 = some rows1 := by decide +kernel
set_option maxRecDepth 100000 in
theorem sRanks2 : spec_RanksOf.f 20000 2 = some rows2 := by decide +kernel
theorem sRanksOf_eq (t : Int) : spec_RanksOf.f 20000 t = some (rowsOf t) := by
  by_cases h1 : t = 1
  · subst h1; exact sRanks1
  · by_cases h2 : t = 2
    · subst h2; exact sRanks2
    · have e : rowsOf t = [] := by unfold rowsOf; rw [if_neg h1, if_neg h2]
      rw [e]
      unfold spec_RanksOf.f
      rw [l1In_eq]
      simp only [Option.bind_some]
      rw [if_neg (by simp; omega)]
theorem sRanksOf_up (t : Int) (j : Nat) : spec_RanksOf.f (20000 + j) t = some (rowsOf t) := by
  induction j with
  | zero => exact sRanksOf_eq t
  | succ j ih => exact spec_RanksOf.mono t (20000 + j) _ ih
theorem from_len (t : Int) (l : List Int) : (fromTab t l).length = (allW t).toNat + 1 := by unfold fromTab; simp
theorem sameInts_l1 (x y : List Int) (hxy : x.length = y.length) (hl : x.length ≤ 2000000) : ∀ (d i k : Nat), i + d = x.length → d < k → laws_sameInts.l0 k x y i = some (decide (x.drop i = y.drop i)) := by
  intro d
  induction d with
  | zero =>
    intro i k hi hk
    obtain ⟨m, rfl⟩ : ∃ m, k = m + 1 := ⟨k - 1, by omega⟩
    simp only [laws_sameInts.l0]
    rw [if_neg (by omega), List.drop_eq_nil_of_le (by omega), List.drop_eq_nil_of_le (by omega)]; simp
  | succ d ih =>
    intro i k hi hk
    obtain ⟨m, rfl⟩ : ∃ m, k = m + 1 := ⟨k - 1, by omega⟩
    simp only [laws_sameInts.l0]
    rw [if_pos (by omega), if_pos (by omega), if_pos (by omega), next64 i (by omega), drop_cons x i (by omega), drop_cons y i (by omega), ih (i + 1) m (by omega) (by omega)]
    by_cases h : rd x (i : Int) = rd y (i : Int)
    · rw [if_pos h, h]; simp
    · rw [if_neg h]; simp [h]
theorem sameInts_eq (x y : List Int) (k : Nat) (hl : x.length ≤ 2000000) (hk : x.length < k) : laws_sameInts.f k x y = some (decide (x = y)) := by
  unfold laws_sameInts.f
  by_cases h : x.length = y.length
  · rw [if_pos (by omega)]
    have := sameInts_l1 x y h hl x.length 0 k (by omega) hk
    simpa using this
  · rw [if_neg (by omega)]
    congr 1
    symm
    rw [decide_eq_false_iff_not]
    intro e; exact h (by rw [e])
end Go.Proofs.Ytgbleieknfmeiaa.L
namespace Go.Proofs.Ytgbleieknfmeiaa.L
open Go.RowKit Go.Proofs.Ytgbleieknfmeiaa.B Go.Proofs.Ytgbleieknfmeiaa.G Go.Proofs.Ytgbleieknfmeiaa.Hand Go.Proofs.YtgbleieknfmeiaaW.PrintWords Go.Proofs.YtgbleieknfmeiaaW.PrintLast Go.Proofs.YtgbleieknfmeiaaW.PrintMore
set_option linter.unusedVariables false
set_option linter.unusedSimpArgs false
theorem Equal_l0 (x y : List Int) (hxy : x.length = y.length) (hl : x.length ≤ 2000000) : ∀ (d i k : Nat), i + d = x.length → d < k → slices_Equal_int_int.l0 k x y (x.length : Int) i = some (decide (x.drop i = y.drop i)) := by
  intro d
  induction d with
  | zero =>
    intro i k hi hk
    obtain ⟨m, rfl⟩ : ∃ m, k = m + 1 := ⟨k - 1, by omega⟩
    simp only [slices_Equal_int_int.l0]
    rw [if_neg (by omega), List.drop_eq_nil_of_le (by omega), List.drop_eq_nil_of_le (by omega)]; simp
  | succ d ih =>
    intro i k hi hk
    obtain ⟨m, rfl⟩ : ∃ m, k = m + 1 := ⟨k - 1, by omega⟩
    simp only [slices_Equal_int_int.l0]
    rw [if_pos (by omega), if_pos (by omega), if_pos (by omega), if_pos (by omega), next64 i (by omega), drop_cons x i (by omega), drop_cons y i (by omega), ih (i + 1) m (by omega) (by omega)]
    by_cases h : rd x (i : Int) = rd y (i : Int)
    · rw [if_pos h, h]; simp
    · rw [if_neg h]; simp [h]
theorem Equal_eq (x y : List Int) (k : Nat) (hl : x.length ≤ 2000000) (hk : x.length < k) : slices_Equal_int_int.f k x y = some (decide (x = y)) := by
  unfold slices_Equal_int_int.f
  by_cases h : x.length = y.length
  · rw [if_pos (by omega)]
    have := Equal_l0 x y h hl x.length 0 k (by omega) hk
    simpa using this
  · rw [if_neg (by omega)]
    congr 1
    symm
    rw [decide_eq_false_iff_not]
    intro e; exact h (by rw [e])
theorem tidy_iff {a b : List Int} (hl : a.length = b.length) (ha : ∀ y ∈ a, 0 ≤ y ∧ y ≤ 9) (hb : ∀ y ∈ b, 0 ≤ y ∧ y ≤ 9) : tidyL a = tidyL b ↔ ∀ s : Nat, s < 2 ^ a.length → rev a (s : Int) = rev b (s : Int) := by
  have a0 := fun y hy => (ha y hy).1
  have b0 := fun y hy => (hb y hy).1
  have a9 := fun y hy => (ha y hy).2
  have b9 := fun y hy => (hb y hy).2
  constructor
  · intro h s _
    have h1 := same_tidy a a0
    have h2 := same_tidy b b0
    rw [← h] at h2
    exact (h1.trans h2.symm).rev a9 b9 (s : Int)
  · intro h
    exact (same_of_rev hl a9 b9 h).tidy a0 b0
end Go.Proofs.Ytgbleieknfmeiaa.L
namespace Go.Proofs.Ytgbleieknfmeiaa.L
open Go.RowKit Go.Proofs.Ytgbleieknfmeiaa.B Go.Proofs.Ytgbleieknfmeiaa.G Go.Proofs.Ytgbleieknfmeiaa.Hand Go.Proofs.YtgbleieknfmeiaaW.PrintWords Go.Proofs.YtgbleieknfmeiaaW.PrintLast Go.Proofs.YtgbleieknfmeiaaW.PrintMore
set_option linter.unusedVariables false
set_option linter.unusedSimpArgs false
/-- The row behind a row, in the order of rows of numbers below n: none behind the last one. -/
def nextR : Nat → Int → List Int → Int → Option (Option (List Int))
  | 0, _, _, _ => none
  | k + 1, n, l, i => if 0 ≤ i then (if rd l i = n - 1 then nextR k n (l.set i.toNat 0) (i - 1) else some (some (l.set i.toNat (rd l i + 1)))) else some none
/-- The tidy ones of the rows from a row on. -/
def tidyR : Nat → List (List Int) → Int → List Int → Option (List (List Int))
  | 0, _, _, _ => none
  | k + 1, acc, n, l => match nextR 10 n l (n - 1) with
    | none => none
    | some none => some (if tidyL l = l then acc ++ [l] else acc)
    | some (some y) => tidyR k (if tidyL l = l then acc ++ [l] else acc) n y
set_option maxRecDepth 100000 in
theorem tidyR1 : tidyR 5 [] 2 [0, 0] = some rows1 := by decide +kernel
set_option maxRecDepth 100000 in
theorem tidyR2 : tidyR 257 [] 4 [0, 0, 0, 0] = some rows2 := by decide +kernel
/-- A row of n numbers from 0 to n - 1. -/
def RowOk (n : Int) (l : List Int) : Prop := (l.length : Int) = n ∧ ∀ y ∈ l, 0 ≤ y ∧ y ≤ n - 1
theorem RowOk.set {n : Int} {l : List Int} (h : RowOk n l) (i : Nat) (v : Int) (v0 : 0 ≤ v) (v1 : v ≤ n - 1) : RowOk n (l.set i v) :=
  ⟨by rw [List.length_set]; exact h.1, fun y hy => by
    rcases List.mem_or_eq_of_mem_set hy with h2 | rfl
    · exact h.2 y h2
    · exact ⟨v0, v1⟩⟩
theorem ranks_l1 (acc : List (List Int)) (n : Int) (hn : 1 ≤ n) (hn2 : n ≤ 4) : ∀ (m : Nat) (l : List Int) (i : Int) (r : Option (List Int)), RowOk n l → -1 ≤ i → i < n → nextR m n l i = some r → ∀ k, m ≤ k →
    (r = none → impl_RanksOf.l1 k acc n l i = some acc) ∧ (∀ y, r = some y → RowOk n y ∧ ∃ k', k ≤ k' + m ∧ impl_RanksOf.l1 k acc n l i = impl_RanksOf.l0 k' acc n y) := by
  intro m
  induction m with
  | zero => intro l i r _ _ _ h; cases h
  | succ m ih =>
    intro l i r hl hi hi2 h k hk
    obtain ⟨k, rfl⟩ : ∃ q, k = q + 1 := ⟨k - 1, by omega⟩
    have ew : wrap64 (n - 1) = n - 1 := w64 (by omega) (by omega)
    simp only [nextR] at h
    simp only [impl_RanksOf.l1]
    by_cases h0 : 0 ≤ i
    · have hlen := hl.1
      rw [if_pos h0] at h
      rw [if_pos (show i ≥ 0 from h0), if_pos h0, if_pos (by omega), ew]
      by_cases h1 : rd l i = n - 1
      · rw [if_pos h1] at h
        rw [if_pos h1, w64 (n := i - 1) (by omega) (by omega)]
        obtain ⟨q1, q2⟩ := ih (l.set i.toNat 0) (i - 1) r (hl.set _ 0 (by omega) (by omega)) (by omega) (by omega) h k (by omega)
        refine ⟨q1, fun y hy => ?_⟩
        obtain ⟨q3, k', q4, q5⟩ := q2 y hy
        exact ⟨q3, k', by omega, q5⟩
      · rw [if_neg h1] at h
        rw [if_neg h1, if_neg (by omega)]
        have hr := Option.some.inj h
        subst hr
        have hm := hl.2 (rd l i) (by
          obtain ⟨j, rfl⟩ := Int.eq_ofNat_of_zero_le h0
          exact rd_mem l j (by omega))
        refine ⟨fun hc => (by cases hc), fun y hy => ?_⟩
        cases hy
        refine ⟨hl.set _ _ (by omega) (by omega), k, by omega, ?_⟩
        rw [w64 (n := rd l i + 1) (by omega) (by omega)]
    · rw [if_neg h0] at h
      rw [if_neg (show ¬ i ≥ 0 from h0), if_pos (by omega)]
      have hr := Option.some.inj h
      subst hr
      exact ⟨fun _ => rfl, fun y hy => by cases hy⟩
theorem ranks_l0 (n : Int) (hn : 1 ≤ n) (hn2 : n ≤ 4) : ∀ (m : Nat) (acc : List (List Int)) (l : List Int) (R : List (List Int)), RowOk n l → acc.length + m ≤ 1000000 → tidyR m acc n l = some R → ∀ k, 20 * m + 100 ≤ k → impl_RanksOf.l0 k acc n l = some R := by
  intro m
  induction m with
  | zero => intro acc l R _ _ h; cases h
  | succ m ih =>
    intro acc l R hl ha h k hk
    obtain ⟨k, rfl⟩ : ∃ q, k = q + 2 := ⟨k - 2, by omega⟩
    have hlen := hl.1
    have ew : wrap64 (n - 1) = n - 1 := w64 (by omega) (by omega)
    simp only [tidyR] at h
    have h2 := tidyL_length l
    have hj : ∀ acc' : List (List Int), acc' = (if tidyL l = l then acc ++ [l] else acc) → impl_RanksOf.j2 (k + 1) acc' n l = some R := by
      intro acc' hacc
      have hla : acc'.length ≤ acc.length + 1 := by rw [hacc]; split <;> simp
      rw [← hacc] at h
      simp only [impl_RanksOf.j2]
      rw [ew]
      cases hx : nextR 10 n l (n - 1) with
      | none => rw [hx] at h; cases h
      | some r =>
        rw [hx] at h
        obtain ⟨q1, q2⟩ := ranks_l1 acc' n hn hn2 10 l (n - 1) r hl (by omega) (by omega) hx k (by omega)
        cases r with
        | none =>
          simp only [] at h
          rw [q1 rfl]; exact h
        | some y =>
          simp only [] at h
          obtain ⟨q3, k', q4, q5⟩ := q2 y rfl
          rw [q5]
          exact ih acc' y R q3 (by omega) h k' (by omega)
    simp only [impl_RanksOf.l0]
    rw [tidy_eq l (k + 1) (fun y hy => (hl.2 y hy).1) (by omega) (by omega)]
    simp only [Option.bind_some]
    rw [Equal_eq _ _ (k + 1) (by omega) (by omega)]
    simp only [Option.bind_some, List.nil_append, List.length_nil, Nat.zero_add]
    by_cases ht : tidyL l = l
    · rw [decide_eq_true ht, if_pos rfl, if_pos (by omega), if_pos (by omega)]
      exact hj _ (by rw [if_pos ht])
    · rw [decide_eq_false ht, if_neg (by simp)]
      exact hj _ (by rw [if_neg ht])
theorem RanksOf_eq (t : Int) (k : Nat) (hk : 10000 ≤ k) : impl_RanksOf.f k t = some (rowsOf t) := by
  obtain ⟨k, rfl⟩ : ∃ q, k = q + 1 := ⟨k - 1, by omega⟩
  unfold impl_RanksOf.f
  by_cases h1 : t = 1
  · subst h1
    have hs : shl .i64 1 1 = 2 := by decide +kernel
    rw [if_neg (by omega)]
    simp only [impl_RanksOf.j0]
    rw [if_neg (by simp), if_pos (by omega), hs, if_pos (by omega), if_pos (by decide)]
    refine ranks_l0 2 (by omega) (by omega) 5 [] _ _ ?_ (by simp) tidyR1 k (by omega)
    exact ⟨by decide, by decide⟩
  · by_cases h2 : t = 2
    · subst h2
      have hs : shl .i64 1 2 = 4 := by decide +kernel
      rw [if_neg (by omega)]
      simp only [impl_RanksOf.j0]
      rw [if_neg (by simp), if_pos (by omega), hs, if_pos (by omega), if_pos (by decide)]
      refine ranks_l0 4 (by omega) (by omega) 257 [] _ _ ?_ (by simp) tidyR2 k (by omega)
      exact ⟨by decide, by decide⟩
    · have e : rowsOf t = [] := by unfold rowsOf; rw [if_neg h1, if_neg h2]
      rw [e]
      by_cases h3 : t < 1
      · rw [if_pos h3]; simp [impl_RanksOf.j0]
      · rw [if_neg h3, decide_eq_true (show t > 2 by omega)]; simp [impl_RanksOf.j0]
theorem rowsOf_row {t : Int} {r : List Int} (h : r ∈ rowsOf t) : r.length ≤ 8 := by
  obtain ⟨h1, h2, h3, h4, h5, h6⟩ := okR_cases' (rows_ok h).1
  exact h6
theorem row_cons (rows : List (List Int)) (i : Nat) (h : i < rows.length) : rows.drop i = rd_L1 rows (i : Int) :: rows.drop (i + 1) ∧ rd_L1 rows (i : Int) = rows[i] := by
  have e : rd_L1 rows (i : Int) = rows[i] := by
    unfold rd_L1
    rw [Int.toNat_natCast, List.getD_eq_getElem?_getD, List.getElem?_eq_getElem h]; rfl
  exact ⟨by rw [e]; exact List.drop_eq_getElem_cons h, e⟩
theorem sameRows_refl (rows : List (List Int)) (hl : rows.length ≤ 1000) (hr : ∀ r ∈ rows, r.length ≤ 8) (k : Nat) (hk : 2000 ≤ k) : laws_sameRows.f k rows rows = some true := by
  have key : ∀ (d i k : Nat), i + d = rows.length → d + 20 ≤ k → laws_sameRows.l0 k rows rows i = some true := by
    intro d
    induction d with
    | zero =>
      intro i k hi hk
      obtain ⟨m, rfl⟩ : ∃ m, k = m + 1 := ⟨k - 1, by omega⟩
      simp only [laws_sameRows.l0]
      rw [if_neg (by omega)]
    | succ d ih =>
      intro i k hi hk
      obtain ⟨m, rfl⟩ : ∃ m, k = m + 1 := ⟨k - 1, by omega⟩
      have hm := (row_cons rows i (by omega)).2
      have hlen := hr (rd_L1 rows (i : Int)) (by rw [hm]; exact List.getElem_mem _)
      simp only [laws_sameRows.l0]
      rw [if_pos (by omega), if_pos (by omega), if_pos (by omega), sameInts_refl _ m (by omega) (by omega)]
      simp only [Option.bind_some, if_true]
      rw [next64 i (by omega)]
      exact ih (i + 1) m (by omega) (by omega)
  unfold laws_sameRows.f
  rw [if_pos rfl]
  exact key rows.length 0 k (by omega) (by omega)
end Go.Proofs.Ytgbleieknfmeiaa.L
namespace Go.Proofs.Ytgbleieknfmeiaa.L
open Go.RowKit Go.Proofs.Ytgbleieknfmeiaa.B Go.Proofs.Ytgbleieknfmeiaa.G Go.Proofs.Ytgbleieknfmeiaa.Hand Go.Proofs.YtgbleieknfmeiaaW.PrintWords Go.Proofs.YtgbleieknfmeiaaW.PrintLast Go.Proofs.YtgbleieknfmeiaaW.PrintMore
set_option linter.unusedVariables false
set_option linter.unusedSimpArgs false
theorem xor_i64 (a b : Nat) (ha : a < 2 ^ 62) (hb : b < 2 ^ 62) : bits .xor .i64 a b = ((a ^^^ b : Nat) : Int) := by
  have hx : a ^^^ b < 2 ^ 62 := Nat.xor_lt_two_pow ha hb
  simp only [bits, BitVec.ofInt_natCast, BitVec.toNat_xor, BitVec.toNat_ofNat]
  have e : IntKind.i64.bits = 64 := rfl
  rw [e, Nat.mod_eq_of_lt (by omega), Nat.mod_eq_of_lt (by omega)]
  exact wraps_i64 _ (by omega) (by omega)
theorem xor_nonneg (x y : Int) (hx : 0 ≤ x) (hx2 : x < 4611686018427387904) (hy : 0 ≤ y) (hy2 : y < 4611686018427387904) : 0 ≤ bits .xor .i64 x y := by
  obtain ⟨a, rfl⟩ := Int.eq_ofNat_of_zero_le hx
  obtain ⟨b, rfl⟩ := Int.eq_ofNat_of_zero_le hy
  rw [xor_i64 a b (by omega) (by omega)]
  omega
/-- A reader's bytes. -/
structure Rd (b : List Int) : Prop where
  byte : ∀ x, x ∈ b → 0 ≤ x ∧ x ≤ 255
  len : b.length ≤ 2000
theorem Rd.at_ {b : List Int} (h : Rd b) (i : Int) : 0 ≤ rd b i ∧ rd b i ≤ 255 := by
  unfold rd
  rw [List.getD_eq_getElem?_getD]
  by_cases e : i.toNat < b.length
  · rw [List.getElem?_eq_getElem e]; exact h.byte _ (List.getElem_mem e)
  · rw [List.getElem?_eq_none (by omega)]; simp
theorem pick_ok {b : List Int} (hb : Rd b) (p n : Int) (hp : 0 ≤ p) (hp2 : p ≤ 1000000) (hn : 1 ≤ n) (hn2 : n ≤ 1000000) :
    ∃ v, 0 ≤ v ∧ v < n ∧ ∀ k, 1 ≤ k → spec_l20Rd_pick.f k b p n = some (v, p + 1) := by
  have e1 : wrap64 (p + 1) = p + 1 := w64 (by omega) (by omega)
  have e2 : wrap64 (p + 1 - 1) = p := by rw [w64 (by omega) (by omega)]; omega
  by_cases hl : (b.length : Int) = 0
  · refine ⟨0, by omega, by omega, fun k hk => ?_⟩
    obtain ⟨m, rfl⟩ : ∃ m, k = m + 1 := ⟨k - 1, by omega⟩
    unfold spec_l20Rd_pick.f
    rw [if_neg (by omega), e1]
    simp only [spec_l20Rd_pick.j0]
    rw [if_pos (by rw [hl]; rfl)]
  · have hlen : 0 < (b.length : Int) := by omega
    have hlen2 : (b.length : Int) ≤ 2000 := by have := hb.len; omega
    have hle : ¬ (((b.length : Int) == 0) = true) := fun h => hl (beq_iff_eq.1 h)
    by_cases hlt : p < (b.length : Int)
    · have hr := hb.at_ p
      refine ⟨Int.tmod (rd b p) n, Int.tmod_nonneg _ hr.1, Int.tmod_lt_of_pos _ (by omega), fun k hk => ?_⟩
      obtain ⟨m, rfl⟩ : ∃ m, k = m + 1 := ⟨k - 1, by omega⟩
      unfold spec_l20Rd_pick.f
      rw [if_neg (by omega), e1]
      simp only [spec_l20Rd_pick.j0]
      rw [if_neg hle, e2, if_pos hlt, if_pos hp, if_neg (by omega), w64 (n := rd b p) (by omega) (by omega)]
    · have m1 : 0 ≤ Int.tmod p (b.length : Int) := Int.tmod_nonneg _ hp
      have m2 : Int.tmod p (b.length : Int) < (b.length : Int) := Int.tmod_lt_of_pos _ hlen
      have e3 : wrap64 (wrap64 (p * 7) + 3) = p * 7 + 3 := by rw [w64 (n := p * 7) (by omega) (by omega), w64 (by omega) (by omega)]
      have m3 : 0 ≤ Int.tmod (p * 7 + 3) (b.length : Int) := Int.tmod_nonneg _ (by omega)
      have m4 : Int.tmod (p * 7 + 3) (b.length : Int) < (b.length : Int) := Int.tmod_lt_of_pos _ hlen
      have a1 := hb.at_ (Int.tmod p (b.length : Int))
      have a2 := hb.at_ (Int.tmod (p * 7 + 3) (b.length : Int))
      have d1 : 0 ≤ Int.tdiv p (b.length : Int) := Int.tdiv_nonneg hp (by omega)
      have d2 : Int.tdiv p (b.length : Int) ≤ p := by
        rw [Int.tdiv_eq_ediv_of_nonneg hp]
        exact Int.ediv_le_self _ hp
      generalize hA : rd b (Int.tmod p (b.length : Int)) = A at a1
      generalize hB : rd b (Int.tmod (p * 7 + 3) (b.length : Int)) = B at a2
      generalize hD : Int.tdiv p (b.length : Int) = D at d1 d2
      have eY : wrap64 (wrap64 (wrap64 (wrap64 (wrap64 A * 131) + wrap64 (wrap64 B * 1117)) + wrap64 (p * 29)) + wrap64 (wrap64 D * 53)) = A * 131 + B * 1117 + p * 29 + D * 53 := by
        rw [w64 (n := A) (by omega) (by omega), w64 (n := B) (by omega) (by omega), w64 (n := D) (by omega) (by omega), w64 (n := A * 131) (by omega) (by omega), w64 (n := B * 1117) (by omega) (by omega), w64 (n := p * 29) (by omega) (by omega), w64 (n := D * 53) (by omega) (by omega), w64 (n := A * 131 + B * 1117) (by omega) (by omega), w64 (n := A * 131 + B * 1117 + p * 29) (by omega) (by omega), w64 (by omega) (by omega)]
      generalize hY : A * 131 + B * 1117 + p * 29 + D * 53 = Y at eY
      have y1 : 0 ≤ Y := by omega
      have y2 : Y ≤ 200000000 := by omega
      have eq : Int.tdiv Y 64 = Y / 64 := Int.tdiv_eq_ediv_of_nonneg y1
      have hx : 0 ≤ Go.bits .xor .i64 Y (wrap64 (Int.tdiv Y 64)) := by
        rw [eq, w64 (by omega) (by omega)]
        exact xor_nonneg _ _ y1 (by omega) (by omega) (by omega)
      refine ⟨Int.tmod (Go.bits .xor .i64 Y (wrap64 (Int.tdiv Y 64))) n, Int.tmod_nonneg _ hx, Int.tmod_lt_of_pos _ (by omega), fun k hk => ?_⟩
      obtain ⟨m, rfl⟩ : ∃ m, k = m + 1 := ⟨k - 1, by omega⟩
      unfold spec_l20Rd_pick.f
      rw [if_neg (by omega), e1]
      simp only [spec_l20Rd_pick.j0]
      rw [if_neg hle, e2, if_neg hlt, if_neg hl, if_pos m1, if_pos m2, e3, if_pos m3, if_pos m4, if_neg (by omega), hA, hB, hD, eY]
theorem open_ok (l0 : List Int) (hb : ∀ x ∈ l0, (Lit.int .u8 x).wf = true) : ∃ b, Rd b ∧ spec_l20Open.f l0 = some (b, 0) := by
  have hx : ∀ x ∈ l0, 0 ≤ x ∧ x ≤ 255 := fun x hx => by
    have := hb x hx
    simp [Lit.wf, IntKind.min, IntKind.max, IntKind.bits, IntKind.signed] at this
    omega
  unfold spec_l20Open.f
  by_cases h : (l0.length : Int) > 2000
  · rw [if_pos h, if_pos (by omega)]
    exact ⟨l0.take 2000, ⟨fun x hm => hx x (List.mem_of_mem_take hm), by simp; omega⟩, rfl⟩
  · rw [if_neg h]
    exact ⟨l0, ⟨hx, by omega⟩, rfl⟩
end Go.Proofs.Ytgbleieknfmeiaa.L
namespace Go.Proofs.Ytgbleieknfmeiaa.L
open Go.RowKit Go.Proofs.Ytgbleieknfmeiaa.B Go.Proofs.Ytgbleieknfmeiaa.G Go.Proofs.Ytgbleieknfmeiaa.Hand Go.Proofs.YtgbleieknfmeiaaW.PrintWords Go.Proofs.YtgbleieknfmeiaaW.PrintLast Go.Proofs.YtgbleieknfmeiaaW.PrintMore
set_option linter.unusedVariables false
set_option linter.unusedSimpArgs false
theorem allW_pow {t : Int} (h : okT t = true) : (allW t).toNat + 1 = 2 ^ (nW t).toNat ∧ (nW t).toNat ≤ 8 ∧ 2 ≤ (nW t).toNat := by
  rcases okT_cases h with rfl | rfl | rfl <;> decide
end Go.Proofs.Ytgbleieknfmeiaa.L
namespace Go.Proofs.Ytgbleieknfmeiaa.Pure
open Go.RowKit Go.Proofs.Ytgbleieknfmeiaa.B Go.Proofs.Ytgbleieknfmeiaa.G Go.Proofs.Ytgbleieknfmeiaa.Hand Go.Proofs.Ytgbleieknfmeiaa.L Go.Proofs.YtgbleieknfmeiaaW.PrintWords Go.Proofs.YtgbleieknfmeiaaW.PrintLast Go.Proofs.YtgbleieknfmeiaaW.PrintMore
set_option linter.unusedVariables false
set_option linter.unusedSimpArgs false
theorem draw_ok (l0 : List Int) (hb : ∀ x ∈ l0, (Lit.int .u8 x).wf = true) : ∃ t : Int, 0 ≤ t ∧ t < 5 ∧ ∀ k, 10 ≤ k → spec_DrawRanksOf.f k l0 = some t := by
  obtain ⟨b, hB, ho⟩ := open_ok l0 hb
  obtain ⟨v, v0, v1, hv⟩ := pick_ok hB 0 5 (by omega) (by omega) (by omega) (by omega)
  refine ⟨v, v0, v1, fun k hk => ?_⟩
  unfold spec_DrawRanksOf.f
  rw [ho]
  simp only [Option.bind_some]
  rw [hv k (by omega)]
  simp only [Option.bind_some]
theorem rows1_nodup : rows1.Nodup := by decide +kernel
theorem rows2_nodup : rows2.Nodup := by decide +kernel
theorem rows_nodup (t : Int) : (rowsOf t).Nodup := by
  unfold rowsOf
  split
  · exact rows1_nodup
  · split
    · exact rows2_nodup
    · exact List.nodup_nil
theorem from_rd (t : Int) (l : List Int) (s : Nat) (h : s < (allW t).toNat + 1) : rd (fromTab t l) (s : Int) = rev l (s : Int) := by
  unfold rd fromTab
  rw [Int.toNat_natCast, List.getD_eq_getElem?_getD, List.getElem?_map, List.getElem?_range h]; rfl
theorem from_inj {t : Int} {a b : List Int} (ha : okR t a = true) (hb : okR t b = true) (h : fromTab t a = fromTab t b) : tidyL a = tidyL b := by
  obtain ⟨h1, h2, h3, h4, h5, h6⟩ := okR_cases' ha
  obtain ⟨g1, g2, g3, g4, g5, g6⟩ := okR_cases' hb
  obtain ⟨p1, p2, p3⟩ := allW_pow h1
  refine (tidy_iff (by omega) h3 g3).2 fun s hs => ?_
  have e : 2 ^ a.length = 2 ^ (nW t).toNat := by congr 1; omega
  rw [← from_rd t a s (by omega), ← from_rd t b s (by omega), h]
theorem tab_eq {t : Int} {r : List Int} (ht : t ≤ 2) (h : r ∈ rowsOf t) : impl_TableFrom.f t r = some (fromTab t r) ∧ (fromTab t r).length ≤ 256 := by
  have hr := (rows_ok h).1
  obtain ⟨h1, h2, h3, h4, h5, h6⟩ := okR_cases' hr
  have hA := allW_range h1
  refine ⟨?_, by rw [from_len]; omega⟩
  rw [show impl_TableFrom.f t r = some (if t ≤ 2 ∧ okR t r = true then fromTab t r else []) from rfl, if_pos ⟨ht, hr⟩]
theorem tabs_rd (t : Int) (rows : List (List Int)) (n j : Nat) (hj : j < n) (hn : n ≤ rows.length) : rd_L1 ((rows.take n).map (fromTab t)) (j : Int) = fromTab t (rd_L1 rows (j : Int)) := by
  unfold rd_L1
  rw [Int.toNat_natCast, List.getD_eq_getElem?_getD, List.getD_eq_getElem?_getD, List.getElem?_map, List.getElem?_take_of_lt hj, List.getElem?_eq_getElem (by omega)]; rfl
theorem inner (t : Int) (ht : t ≤ 2) (i : Nat) (hi : i < (rowsOf t).length) (R : Option Bool) (K : Nat)
    (h : ∀ k, K ≤ k → laws_FnRanksOf.l0 k t (rowsOf t) (((rowsOf t).take i).map (fromTab t) ++ [fromTab t (rd_L1 (rowsOf t) (i : Int))]) ((i + 1 : Nat) : Int) = R) : ∀ (d j k : Nat), j + d = i → K + d + 300 ≤ k →
    laws_FnRanksOf.l1 k t (rowsOf t) (((rowsOf t).take i).map (fromTab t)) i (fromTab t (rd_L1 (rowsOf t) (i : Int))) j = R := by
  have hlen := rows_len t
  have hl : (((rowsOf t).take i).map (fromTab t)).length = i := by rw [List.length_map, List.length_take]; omega
  have hm := (row_cons (rowsOf t) i hi).2
  have hmem : rd_L1 (rowsOf t) (i : Int) ∈ rowsOf t := by rw [hm]; exact List.getElem_mem _
  intro d
  induction d with
  | zero =>
    intro j k hj hk
    obtain ⟨m, rfl⟩ : ∃ m, k = m + 1 := ⟨k - 1, by omega⟩
    simp only [laws_FnRanksOf.l1]
    rw [if_neg (by omega), if_pos (by omega), next64 i (by omega)]
    exact h m (by omega)
  | succ d ih =>
    intro j k hj hk
    obtain ⟨m, rfl⟩ : ∃ m, k = m + 1 := ⟨k - 1, by omega⟩
    have hmj := (row_cons (rowsOf t) j (by omega)).2
    have hmemj : rd_L1 (rowsOf t) (j : Int) ∈ rowsOf t := by rw [hmj]; exact List.getElem_mem _
    have hne : ¬ fromTab t (rd_L1 (rowsOf t) (j : Int)) = fromTab t (rd_L1 (rowsOf t) (i : Int)) := by
      intro he
      have h1 := from_inj (rows_ok hmemj).1 (rows_ok hmem).1 he
      rw [(rows_ok hmemj).2, (rows_ok hmem).2, hmj, hm] at h1
      have := (List.getElem_inj (rows_nodup t)).1 h1
      omega
    have hlj := (tab_eq ht hmemj).2
    simp only [laws_FnRanksOf.l1]
    rw [if_pos (by omega), if_pos (by omega), tabs_rd t _ i j (by omega) (by omega), sameInts_eq _ _ m (by omega) (by omega), decide_eq_false hne]
    simp only [Option.bind_some]
    rw [if_neg (by simp), next64 j (by omega)]
    exact ih (j + 1) m (by omega) (by omega)
theorem outer (t : Int) (h1 : 1 ≤ t) (ht : t ≤ 2) : ∀ (d i k : Nat), i + d = (rowsOf t).length → d * 1000 + 10 ≤ k →
    laws_FnRanksOf.l0 k t (rowsOf t) (((rowsOf t).take i).map (fromTab t)) i = some true := by
  have hlen := rows_len t
  intro d
  induction d with
  | zero =>
    intro i k hi hk
    obtain ⟨m, rfl⟩ : ∃ m, k = m + 1 := ⟨k - 1, by omega⟩
    simp only [laws_FnRanksOf.l0]
    rw [if_neg (by omega)]
    simp only [Option.bind_some]
    rw [w64 (n := t - 1) (by omega) (by omega), if_pos (by omega), if_pos (by simp; omega)]
    rcases (show t = 1 ∨ t = 2 by omega) with rfl | rfl <;> rfl
  | succ d ih =>
    intro i k hi hk
    obtain ⟨m, rfl⟩ : ∃ m, k = m + 1 := ⟨k - 1, by omega⟩
    have hm := (row_cons (rowsOf t) i (by omega)).2
    have hmem : rd_L1 (rowsOf t) (i : Int) ∈ rowsOf t := by rw [hm]; exact List.getElem_mem _
    simp only [laws_FnRanksOf.l0]
    rw [if_pos (by omega), if_pos (by omega), (tab_eq ht hmem).1]
    simp only [Option.bind_some]
    refine inner t ht i (by omega) _ (d * 1000 + 10) (fun k' hk' => ?_) i 0 m (by omega) (by omega)
    have e : ((rowsOf t).take i).map (fromTab t) ++ [fromTab t (rd_L1 (rowsOf t) (i : Int))] = ((rowsOf t).take (i + 1)).map (fromTab t) := by
      rw [List.take_succ_eq_append_getElem (by omega), List.map_append, hm]; rfl
    rw [e]
    exact ih (i + 1) k' (by omega) hk'
theorem FnRanksOf : laws_FnRanksOf.Pure := by
  intro l0 _ _ hb
  refine ⟨20000 + 100000, ?_⟩
  unfold laws_FnRanksOf.f
  by_cases hl : (l0.length : Int) > 1048576
  · rw [if_pos hl]
  rw [if_neg hl]
  obtain ⟨t, t0, t1, hd⟩ := draw_ok l0 hb
  have hlen := rows_len t
  rw [hd _ (by omega)]
  simp only [Option.bind_some]
  rw [RanksOf_eq t _ (by omega)]
  simp only [Option.bind_some]
  rw [sRanksOf_up t 100000]
  simp only [Option.bind_some]
  rw [sameRows_refl (rowsOf t) (by omega) (fun r hr => rowsOf_row hr) _ (by omega)]
  simp only [Option.bind_some, if_true]
  have e3 : 20000 + 100000 = 119999 + 1 := rfl
  by_cases h1 : t < 1
  · have e : rowsOf t = [] := by unfold rowsOf; rw [if_neg (by omega), if_neg (by omega)]
    rw [if_pos h1, e, e3]
    simp [laws_FnRanksOf.j0, alive_eq]
  · rw [if_neg h1]
    by_cases h2 : t > 2
    · have e : rowsOf t = [] := by unfold rowsOf; rw [if_neg (by omega), if_neg (by omega)]
      rw [decide_eq_true h2, e, e3]
      simp [laws_FnRanksOf.j0, alive_eq]
    · rw [decide_eq_false h2, e3]
      simp only [laws_FnRanksOf.j0]
      rw [if_neg (by simp)]
      exact outer t (by omega) (by omega) (rowsOf t).length 0 119999 (by omega) (by omega)
end Go.Proofs.Ytgbleieknfmeiaa.Pure
