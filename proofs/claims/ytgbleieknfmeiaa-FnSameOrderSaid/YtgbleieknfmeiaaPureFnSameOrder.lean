/- The law FnSameOrder, for all arguments. -/
import Derived.Test.YtgbleieknfmeiaaHm
import Derived.Test.YtgbleieknfmeiaaHandF
import Derived.Test.YtgbleieknfmeiaaDx1
import Derived.Test.YtgbleieknfmeiaaDx2
import Derived.Test.YtgbleieknfmeiaaDx3
import Derived.Test.YtgbleieknfmeiaaDx4
import Derived.Test.YtgbleieknfmeiaaDx5
namespace Go.Proofs.Ytgbleieknfmeiaa.L
open Go.RowKit Go.Proofs.Ytgbleieknfmeiaa.B Go.Proofs.Ytgbleieknfmeiaa.D Go.Proofs.Ytgbleieknfmeiaa.Hand Go.Proofs.YtgbleieknfmeiaaW.PrintWords Go.Proofs.YtgbleieknfmeiaaW.PrintLast Go.Proofs.YtgbleieknfmeiaaW.PrintMore
set_option linter.unusedVariables false
set_option linter.unusedSimpArgs false
theorem l1In_eq (a b c : Int) : spec_l1In.f a b c = some (decide (b ≤ a) && decide (a ≤ c)) := by
  unfold spec_l1In.f
  by_cases h : a ≥ b
  · rw [if_pos h]; simp [show b ≤ a from h]
  · rw [if_neg h]; simp [show ¬ b ≤ a from h]
theorem l1In_13 (a : Int) : spec_l1In.f a 1 3 = some (okT a) := l1In_eq a 1 3
theorem l1All_eq (a : Int) (h : okT a = true) : spec_l1All.f a = some (allW a) := by
  unfold spec_l1All.f allF; rw [if_pos h]
theorem WorldsOf_eq (t : Int) : impl_WorldsOf.f t = some (nW t) := by
  unfold impl_WorldsOf.f nW
  rw [areThings_eq]
  simp only [Option.bind_some]
  cases h : okT t with
  | false => simp
  | true => rcases okT_cases h with rfl | rfl | rfl <;> decide +kernel
theorem sWorldsOf_eq (t : Int) : spec_WorldsOf.f t = some (nW t) := by
  unfold spec_WorldsOf.f nW
  rw [l1In_13]
  simp only [Option.bind_some]
  cases h : okT t with
  | false => simp
  | true => rcases okT_cases h with rfl | rfl | rfl <;> decide +kernel
theorem alive_eq : laws_alive.f = some true := by
  unfold laws_alive.f
  rw [WorldsOf_eq, WorldsOf_eq]
  decide +kernel
theorem whole_eq (t : Int) (h : okT t = true) : laws_whole.f t = some (allW t) := by
  unfold laws_whole.f allF; rw [if_pos h]
end Go.Proofs.Ytgbleieknfmeiaa.L
namespace Go.Proofs.Ytgbleieknfmeiaa.L
open Go.RowKit Go.Proofs.Ytgbleieknfmeiaa.B Go.Proofs.Ytgbleieknfmeiaa.D Go.Proofs.Ytgbleieknfmeiaa.Hand Go.Proofs.YtgbleieknfmeiaaW.PrintWords Go.Proofs.YtgbleieknfmeiaaW.PrintLast Go.Proofs.YtgbleieknfmeiaaW.PrintMore
set_option linter.unusedVariables false
set_option linter.unusedSimpArgs false
theorem sRankOk_l0 (t : Int) (l : List Int) (hl : l.length ≤ 2000000) : ∀ (d i k : Nat) (m : Int), i + d = l.length → d < k →
    spec_RankOk.l0 k t l m i = some ((l.drop i).all (fun x => decide (0 ≤ x) && decide (x ≤ 9)) && (okT t && (decide ((l.length : Int) = nW t) && (mnL m (l.drop i) == 0)))) := by
  intro d
  induction d with
  | zero =>
    intro i k m hi hk
    obtain ⟨q, rfl⟩ : ∃ q, k = q + 1 := ⟨k - 1, by omega⟩
    simp only [spec_RankOk.l0]
    rw [if_neg (by omega), List.drop_eq_nil_of_le (by omega), l1In_13]
    simp only [Option.bind_some]
    cases ht : okT t with
    | false => simp
    | true =>
      have hpos : 0 ≤ t := by rcases okT_cases ht with rfl | rfl | rfl <;> omega
      rw [if_pos rfl, if_pos hpos, (nW_pos ht).2.2]
      by_cases h : (l.length : Int) = nW t
      · rw [if_pos h]; simp [h, mnL]
      · rw [if_neg h]; simp [h]
  | succ d ih =>
    intro i k m hi hk
    obtain ⟨q, rfl⟩ : ∃ q, k = q + 1 := ⟨k - 1, by omega⟩
    simp only [spec_RankOk.l0]
    rw [if_pos (by omega), if_pos (by omega), l1In_eq, drop_cons l i (by omega)]
    simp only [Option.bind_some, List.all_cons]
    cases hx : (decide (0 ≤ rd l (i : Int)) && decide (rd l (i : Int) ≤ 9)) with
    | false => simp
    | true =>
      rw [if_pos rfl, next64 i (by omega), ih (i + 1) q _ (by omega) (by omega)]
      simp [mnL]
theorem sRankOk_eq (t : Int) (l : List Int) (k : Nat) (hl : l.length ≤ 2000000) (hk : l.length < k) : spec_RankOk.f k t l = some (okR t l) := by
  have h := sRankOk_l0 t l hl l.length 0 k 9 (by omega) hk
  unfold spec_RankOk.f
  rw [show ((0 : Nat) : Int) = 0 from rfl] at h
  rw [h]
  congr 1
  rw [List.drop_zero]
  unfold okR
  have a1 := mnL_le l 9
  have a2 := mnL_mem l 9
  rw [Bool.eq_iff_iff]
  simp only [Bool.and_eq_true, List.all_eq_true, List.any_eq_true, decide_eq_true_eq, beq_iff_eq]
  constructor
  · rintro ⟨h1, h2, h3, h4⟩
    rcases a2 with h | h
    · omega
    · exact ⟨h2, h3, h1, _, h, h4⟩
  · rintro ⟨h2, h3, h1, x, hx, rfl⟩
    refine ⟨h1, h2, h3, ?_⟩
    have := a1.2 0 hx
    rcases a2 with h | h
    · have := h1 _ hx; omega
    · have := h1 _ h; omega
end Go.Proofs.Ytgbleieknfmeiaa.L
namespace Go.Proofs.Ytgbleieknfmeiaa.L
open Go.RowKit Go.Proofs.Ytgbleieknfmeiaa.Hand Go.Proofs.YtgbleieknfmeiaaW.PrintWords
set_option linter.unusedVariables false
set_option linter.unusedSimpArgs false
/-- How many numbers below x are in the list. -/
def cnt (l : List Int) (x : Nat) : Nat := (List.range x).countP (fun q : Nat => l.any (fun y => y == (q : Int)))
/-- Tidy ranks. -/
def tidyL (l : List Int) : List Int := l.map (fun x => (cnt l x.toNat : Int))
theorem tidyL_length (l : List Int) : (tidyL l).length = l.length := by unfold tidyL; simp
theorem rd_map (l : List Int) (f : Int → Int) (i : Nat) (h : i < l.length) : rd (l.map f) (i : Int) = f (rd l (i : Int)) := by
  unfold rd
  rw [Int.toNat_natCast, List.getD_eq_getElem?_getD, List.getD_eq_getElem?_getD, List.getElem?_map, List.getElem?_eq_getElem h]; rfl
theorem tidyL_rd (l : List Int) (i : Nat) (h : i < l.length) : rd (tidyL l) (i : Int) = (cnt l (rd l (i : Int)).toNat : Int) := rd_map l _ i h
theorem rd_mem (l : List Int) (i : Nat) (h : i < l.length) : rd l (i : Int) ∈ l := by
  unfold rd
  rw [Int.toNat_natCast, List.getD_eq_getElem?_getD, List.getElem?_eq_getElem h]; exact List.getElem_mem h
theorem cnt_succ (l : List Int) (x : Nat) : cnt l (x + 1) = cnt l x + if l.any (fun y => y == (x : Int)) = true then 1 else 0 := by
  unfold cnt
  rw [List.range_succ, List.countP_append, List.countP_singleton]
theorem cnt_mono (l : List Int) {x y : Nat} (h : x ≤ y) : cnt l x ≤ cnt l y := by
  induction y with
  | zero => obtain rfl : x = 0 := by omega
            exact Nat.le_refl _
  | succ y ih =>
    rcases Nat.lt_or_ge x (y + 1) with h1 | h1
    · rw [cnt_succ]; have := ih (by omega); omega
    · obtain rfl : x = y + 1 := by omega
      exact Nat.le_refl _
theorem cnt_lt {l : List Int} {x y : Nat} (h : x < y) (hx : (x : Int) ∈ l) : cnt l x < cnt l y := by
  have h1 := cnt_mono l (show x + 1 ≤ y from h)
  rw [cnt_succ, if_pos (List.any_eq_true.2 ⟨_, hx, by simp⟩)] at h1
  omega
theorem cnt_le (l : List Int) (x : Nat) : cnt l x ≤ x := by
  unfold cnt
  have := List.countP_le_length (p := fun q : Nat => l.any (fun y => y == (q : Int))) (l := List.range x)
  simpa using this
/-- Is place v the first of its rank, and is its rank below x. -/
def firstB (l : List Int) (x : Int) (v : Nat) : Bool := decide (rd l (v : Int) < x) && (List.range v).all (fun u => decide (rd l (u : Int) ≠ rd l (v : Int)))
theorem count_or (p : Nat → Bool) (y : Int) (x : Nat) :
    (List.range x).countP (fun q : Nat => p q || ((q : Int) == y)) = (List.range x).countP p + if 0 ≤ y ∧ y < x ∧ p y.toNat = false then 1 else 0 := by
  induction x with
  | zero => simp; omega
  | succ x ih =>
    rw [List.range_succ, List.countP_append, List.countP_append, ih, List.countP_singleton, List.countP_singleton]
    by_cases e : (x : Int) = y
    · subst e
      have n1 : ¬ (0 ≤ (x : Int) ∧ (x : Int) < (x : Int) ∧ p (x : Int).toNat = false) := fun h => absurd h.2.1 (by omega)
      rw [if_neg n1, Int.toNat_natCast]
      cases hp : p x with
      | true =>
        have n2 : ¬ (0 ≤ (x : Int) ∧ (x : Int) < ((x + 1 : Nat) : Int) ∧ true = false) := fun h => absurd h.2.2 (by simp)
        rw [if_neg n2]; simp
      | false =>
        have n2 : 0 ≤ (x : Int) ∧ (x : Int) < ((x + 1 : Nat) : Int) ∧ false = false := ⟨by omega, by omega, rfl⟩
        rw [if_pos n2]; simp
    · have e2 : ((x : Int) == y) = false := by simpa using e
      rw [e2, Bool.or_false]
      by_cases h : 0 ≤ y ∧ y < x ∧ p y.toNat = false
      · have h' : 0 ≤ y ∧ y < ((x + 1 : Nat) : Int) ∧ p y.toNat = false := ⟨h.1, by omega, h.2.2⟩
        rw [if_pos h, if_pos h']; omega
      · have h' : ¬ (0 ≤ y ∧ y < ((x + 1 : Nat) : Int) ∧ p y.toNat = false) := fun k => h ⟨k.1, by omega, k.2.2⟩
        rw [if_neg h, if_neg h']; omega
theorem take_snoc (l : List Int) (m : Nat) (h : m < l.length) : l.take (m + 1) = l.take m ++ [rd l (m : Int)] := by
  rw [List.take_succ_eq_append_getElem h]
  congr 1
  unfold rd
  rw [Int.toNat_natCast, List.getD_eq_getElem?_getD, List.getElem?_eq_getElem h]; rfl
theorem any_take (l : List Int) (y : Int) : ∀ m, m ≤ l.length → ((l.take m).any (fun z => z == y) = false ↔ (List.range m).all (fun u => decide (rd l (u : Int) ≠ y)) = true) := by
  intro m
  induction m with
  | zero => simp
  | succ m ih =>
    intro hm
    rw [take_snoc l m (by omega), List.any_append, List.range_succ, List.all_append, Bool.or_eq_false_iff, Bool.and_eq_true, ih (by omega)]
    simp
theorem lots_take (l : List Int) (x : Nat) (h0 : ∀ y ∈ l, 0 ≤ y) : ∀ m, m ≤ l.length → (List.range x).countP (fun q : Nat => (l.take m).any (fun y => y == (q : Int))) = (List.range m).countP (firstB l x) := by
  intro m
  induction m with
  | zero => simp
  | succ m ih =>
    intro hm
    have e : (fun q : Nat => (l.take (m + 1)).any (fun y => y == (q : Int))) = fun q : Nat => (l.take m).any (fun y => y == (q : Int)) || ((q : Int) == rd l (m : Int)) := by
      funext q
      rw [take_snoc l m (by omega), List.any_append]
      congr 1
      simp only [List.any_cons, List.any_nil, Bool.or_false]
      rw [Bool.eq_iff_iff, beq_iff_eq, beq_iff_eq]
      exact eq_comm
    rw [e, count_or, ih (by omega), List.range_succ, List.countP_append, List.countP_singleton]
    congr 1
    have hy := h0 _ (rd_mem l m (by omega))
    have h1 := any_take l (rd l (m : Int)) m (by omega)
    have h2 : (((rd l (m : Int)).toNat : Nat) : Int) = rd l (m : Int) := by omega
    unfold firstB
    by_cases hc : rd l (m : Int) < (x : Int)
    · rw [decide_eq_true hc, Bool.true_and]
      cases hb : (List.range m).all (fun u => decide (rd l (u : Int) ≠ rd l (m : Int))) with
      | true => rw [if_pos ⟨hy, hc, by rw [h2]; exact h1.2 hb⟩]; rfl
      | false => rw [if_neg (by rintro ⟨_, _, c⟩; rw [h2] at c; rw [h1.1 c] at hb; cases hb)]; rfl
    · rw [decide_eq_false hc, if_neg (by rintro ⟨_, b, _⟩; exact hc b)]; rfl
/-- Tidy ranks go by the order of the ranks alone. -/
theorem cnt_lots (l : List Int) (x : Nat) (h0 : ∀ y ∈ l, 0 ≤ y) : cnt l x = (List.range l.length).countP (firstB l x) := by
  have := lots_take l x h0 l.length (Nat.le_refl _)
  rw [List.take_length] at this
  exact this
/-- Two rows of ranks are in the same order. -/
def Same (a b : List Int) : Prop := a.length = b.length ∧ ∀ i j : Nat, i < a.length → j < a.length → (rd a (i : Int) ≤ rd a (j : Int) ↔ rd b (i : Int) ≤ rd b (j : Int))
theorem Same.symm {a b : List Int} (h : Same a b) : Same b a := ⟨h.1.symm, fun i j hi hj => (h.2 i j (by rw [h.1]; exact hi) (by rw [h.1]; exact hj)).symm⟩
theorem Same.trans {a b c : List Int} (h : Same a b) (k : Same b c) : Same a c := ⟨h.1.trans k.1, fun i j hi hj => (h.2 i j hi hj).trans (k.2 i j (by rw [← h.1]; exact hi) (by rw [← h.1]; exact hj))⟩
theorem Same.tidy {a b : List Int} (h : Same a b) (ha : ∀ y ∈ a, 0 ≤ y) (hb : ∀ y ∈ b, 0 ≤ y) : tidyL a = tidyL b := by
  apply List.ext_getElem?
  intro i
  by_cases hi : i < a.length
  · have hi2 : i < b.length := by rw [← h.1]; exact hi
    have e : ∀ (l : List Int) (j : Nat), j < l.length → l[j]? = some (rd l (j : Int)) := fun l j hj => by
      unfold rd
      rw [Int.toNat_natCast, List.getD_eq_getElem?_getD, List.getElem?_eq_getElem hj]; rfl
    rw [e _ _ (by rw [tidyL_length]; exact hi), e _ _ (by rw [tidyL_length]; exact hi2), tidyL_rd a i hi, tidyL_rd b i hi2]
    have pa := ha _ (rd_mem a i hi)
    have pb := hb _ (rd_mem b i hi2)
    rw [cnt_lots a _ ha, cnt_lots b _ hb, ← h.1]
    congr 2
    apply List.countP_congr
    intro v hv
    have hv : v < a.length := List.mem_range.1 hv
    have c1 : (rd a (v : Int) < (((rd a (i : Int)).toNat : Nat) : Int)) ↔ (rd b (v : Int) < (((rd b (i : Int)).toNat : Nat) : Int)) := by
      have := h.2 i v hi hv
      omega
    have c2 : ∀ u, u < v → (rd a (u : Int) ≠ rd a (v : Int) ↔ rd b (u : Int) ≠ rd b (v : Int)) := fun u hu => by
      have h1 := h.2 u v (by omega) hv
      have h2 := h.2 v u hv (by omega)
      omega
    unfold firstB
    rw [Bool.and_eq_true, Bool.and_eq_true, decide_eq_true_eq, decide_eq_true_eq, List.all_eq_true, List.all_eq_true]
    constructor
    · rintro ⟨h1, h2⟩
      exact ⟨c1.1 h1, fun u hu => decide_eq_true ((c2 u (List.mem_range.1 hu)).1 (of_decide_eq_true (h2 u hu)))⟩
    · rintro ⟨h1, h2⟩
      exact ⟨c1.2 h1, fun u hu => decide_eq_true ((c2 u (List.mem_range.1 hu)).2 (of_decide_eq_true (h2 u hu)))⟩
  · rw [List.getElem?_eq_none (by rw [tidyL_length]; omega), List.getElem?_eq_none (by rw [tidyL_length, ← h.1]; omega)]
theorem same_tidy (l : List Int) (h0 : ∀ y ∈ l, 0 ≤ y) : Same l (tidyL l) := by
  refine ⟨(tidyL_length l).symm, fun i j hi hj => ?_⟩
  rw [tidyL_rd l i hi, tidyL_rd l j hj]
  have pi := h0 _ (rd_mem l i hi)
  have pj := h0 _ (rd_mem l j hj)
  constructor
  · intro h
    have := cnt_mono l (show (rd l (i : Int)).toNat ≤ (rd l (j : Int)).toNat by omega)
    omega
  · intro h
    rcases Int.lt_or_le (rd l (j : Int)) (rd l (i : Int)) with h1 | h1
    · have := cnt_lt (l := l) (show (rd l (j : Int)).toNat < (rd l (i : Int)).toNat by omega) (by rw [Int.toNat_of_nonneg pj]; exact rd_mem l j hj)
      omega
    · exact h1
theorem leastN_le (l : List Int) (s : Int) : ∀ n, leastN l s n ≤ 10 ∧ ∀ v : Nat, v < n → bit s v = true → leastN l s n ≤ rd l (v : Int)
  | 0 => ⟨Int.le_refl _, fun v hv => absurd hv (by omega)⟩
  | n + 1 => by
    obtain ⟨h1, h2⟩ := leastN_le l s n
    simp only [leastN]
    cases hb : bit s n with
    | true =>
      rw [if_pos rfl]
      have hm : mn (leastN l s n) (rd l (n : Int)) ≤ leastN l s n ∧ mn (leastN l s n) (rd l (n : Int)) ≤ rd l (n : Int) := by unfold mn; split <;> omega
      refine ⟨Int.le_trans hm.1 h1, fun v hv hbv => ?_⟩
      rcases Nat.lt_or_ge v n with h3 | h3
      · exact Int.le_trans hm.1 (h2 v h3 hbv)
      · obtain rfl : v = n := by omega
        exact hm.2
    | false =>
      rw [if_neg (by simp)]
      refine ⟨h1, fun v hv hbv => ?_⟩
      rcases Nat.lt_or_ge v n with h3 | h3
      · exact h2 v h3 hbv
      · obtain rfl : v = n := by omega
        rw [hb] at hbv; cases hbv
theorem leastN_mem (l : List Int) (s : Int) : ∀ n, leastN l s n = 10 ∨ ∃ v : Nat, v < n ∧ bit s v = true ∧ rd l (v : Int) = leastN l s n
  | 0 => .inl rfl
  | n + 1 => by
    simp only [leastN]
    cases hb : bit s n with
    | true =>
      rw [if_pos rfl]
      have hm : mn (leastN l s n) (rd l (n : Int)) = leastN l s n ∨ mn (leastN l s n) (rd l (n : Int)) = rd l (n : Int) := by unfold mn; split <;> simp
      rcases hm with hm | hm
      · rcases leastN_mem l s n with h | ⟨v, h1, h2, h3⟩
        · left; rw [hm, h]
        · right; exact ⟨v, by omega, h2, by rw [hm, h3]⟩
      · right; exact ⟨n, by omega, hb, hm.symm⟩
    | false =>
      rw [if_neg (by simp)]
      rcases leastN_mem l s n with h | ⟨v, h1, h2, h3⟩
      · exact .inl h
      · exact .inr ⟨v, by omega, h2, h3⟩
/-- A world has the least rank of a set just if no world of the set has a lesser one. -/
theorem least_iff (l : List Int) (s : Int) (h9 : ∀ y ∈ l, y ≤ 9) (w : Nat) (hw : w < l.length) (hb : bit s w = true) :
    (rd l (w : Int) == least l s) = true ↔ ∀ v : Nat, v < l.length → bit s v = true → rd l (w : Int) ≤ rd l (v : Int) := by
  have h1 := leastN_le l s l.length
  have h2 := leastN_mem l s l.length
  rw [beq_iff_eq]
  constructor
  · intro h v hv hbv
    rw [h]
    exact h1.2 v hv hbv
  · intro h
    have h3 := h1.2 w hw hb
    have h4 := h9 _ (rd_mem l w hw)
    unfold least
    rcases h2 with h2 | ⟨v, hv, hbv, e⟩
    · omega
    · have := h v hv hbv
      omega
theorem rev_bit (l : List Int) (s : Int) (w : Nat) : bit (rev l s) w = (decide (w < l.length) && (bit s w && (rd l (w : Int) == least l s))) := by
  unfold rev bit
  rw [Int.toNat_natCast, sumN_testBit]
theorem Same.rev {a b : List Int} (h : Same a b) (ha : ∀ y ∈ a, y ≤ 9) (hb : ∀ y ∈ b, y ≤ 9) (s : Int) : rev a s = rev b s := by
  unfold Hand.rev
  rw [← h.1]
  congr 1
  apply sumN_congr
  intro w hw
  have hw2 : w < b.length := by rw [← h.1]; exact hw
  cases hbw : bit s w with
  | false => rfl
  | true =>
    rw [Bool.true_and, Bool.true_and, Bool.eq_iff_iff, least_iff a s ha w hw hbw, least_iff b s hb w hw2 hbw]
    constructor
    · intro h3 v hv hbv
      exact (h.2 w v hw (by rw [h.1]; exact hv)).1 (h3 v (by rw [h.1]; exact hv) hbv)
    · intro h3 v hv hbv
      exact (h.2 w v hw hv).2 (h3 v (by rw [← h.1]; exact hv) hbv)
/-- The worlds i and j, as a set. -/
def pair (i j : Nat) : Int := ((2 ^ i ||| 2 ^ j : Nat) : Int)
theorem pair_bit (i j v : Nat) : bit (pair i j) v = (decide (i = v) || decide (j = v)) := by
  unfold pair bit
  rw [Int.toNat_natCast, Nat.testBit_or, Nat.testBit_two_pow, Nat.testBit_two_pow]
theorem rev_pair (l : List Int) (i j : Nat) (hi : i < l.length) (hj : j < l.length) (h9 : ∀ y ∈ l, y ≤ 9) : bit (rev l (pair i j)) i = true ↔ rd l (i : Int) ≤ rd l (j : Int) := by
  have hb : bit (pair i j) i = true := by rw [pair_bit]; simp
  rw [rev_bit, decide_eq_true hi, Bool.true_and, hb, Bool.true_and, least_iff l _ h9 i hi hb]
  constructor
  · intro h
    exact h j hj (by rw [pair_bit]; simp)
  · intro h v hv hbv
    rw [pair_bit, Bool.or_eq_true, decide_eq_true_eq, decide_eq_true_eq] at hbv
    rcases hbv with rfl | rfl
    · exact Int.le_refl _
    · exact h
theorem pair_lt (i j n : Nat) (hi : i < n) (hj : j < n) : 2 ^ i ||| 2 ^ j < 2 ^ n :=
  Nat.or_lt_two_pow (Nat.pow_lt_pow_right (by decide) hi) (Nat.pow_lt_pow_right (by decide) hj)
/-- Where all revisions are the same, so is the order. -/
theorem same_of_rev {a b : List Int} (hl : a.length = b.length) (ha : ∀ y ∈ a, y ≤ 9) (hb : ∀ y ∈ b, y ≤ 9) (h : ∀ s : Nat, s < 2 ^ a.length → rev a (s : Int) = rev b (s : Int)) : Same a b := by
  refine ⟨hl, fun i j hi hj => ?_⟩
  have e := h (2 ^ i ||| 2 ^ j) (pair_lt i j _ hi hj)
  rw [← rev_pair a i j hi hj ha, ← rev_pair b i j (by rw [← hl]; exact hi) (by rw [← hl]; exact hj) hb]
  unfold pair
  rw [e]
end Go.Proofs.Ytgbleieknfmeiaa.L
namespace Go.Proofs.Ytgbleieknfmeiaa.L
open Go.RowKit Go.Proofs.Ytgbleieknfmeiaa.B Go.Proofs.Ytgbleieknfmeiaa.D Go.Proofs.Ytgbleieknfmeiaa.Hand Go.Proofs.YtgbleieknfmeiaaW.PrintWords Go.Proofs.YtgbleieknfmeiaaW.PrintLast Go.Proofs.YtgbleieknfmeiaaW.PrintMore
set_option linter.unusedVariables false
set_option linter.unusedSimpArgs false
theorem okR_cases' {t : Int} {l : List Int} (h : okR t l = true) : okT t = true ∧ (l.length : Int) = nW t ∧ (∀ y ∈ l, 0 ≤ y ∧ y ≤ 9) ∧ (0 : Int) ∈ l ∧ 2 ≤ l.length ∧ l.length ≤ 8 := by
  unfold okR at h
  simp only [Bool.and_eq_true, decide_eq_true_eq, List.all_eq_true, List.any_eq_true, beq_iff_eq] at h
  obtain ⟨h1, h2, h3, x, hx, rfl⟩ := h
  have := nW_pos h1
  exact ⟨h1, h2, h3, hx, by omega, by omega⟩
theorem tidy_take (l : List Int) (i : Nat) (h : i < l.length) : (tidyL l).take (i + 1) = (tidyL l).take i ++ [(cnt l (rd l (i : Int)).toNat : Int)] := by
  rw [take_snoc (tidyL l) i (by rw [tidyL_length]; exact h), tidyL_rd l i h]
theorem sT_l2 (t : Int) (l out : List Int) (i n r : Int) (hl : l.length ≤ 1000) (R : List Int) (K : Nat) : ∀ (d v k : Nat) (found : Bool), v + d = l.length →
    (∀ k', K ≤ k' → (if (found || (l.drop v).any (fun y => y == r)) = true then spec_TidyRank.l1 k' t l out i (wrap64 (n + 1)) (wrap64 (r + 1)) else spec_TidyRank.l1 k' t l out i n (wrap64 (r + 1))) = some R) →
    K + d + 1 ≤ k → spec_TidyRank.l2 k t l out i n r found v = some R := by
  intro d
  induction d with
  | zero =>
    intro v k found hv h hk
    obtain ⟨m, rfl⟩ : ∃ m, k = m + 1 := ⟨k - 1, by omega⟩
    have h1 := h m (by omega)
    rw [List.drop_eq_nil_of_le (by omega), List.any_nil, Bool.or_false] at h1
    simp only [spec_TidyRank.l2]
    rw [if_neg (by omega)]
    exact h1
  | succ d ih =>
    intro v k found hv h hk
    obtain ⟨m, rfl⟩ : ∃ m, k = m + 1 := ⟨k - 1, by omega⟩
    simp only [spec_TidyRank.l2]
    rw [if_pos (by omega), next64 v (by omega)]
    cases found with
    | true =>
      rw [if_pos rfl]
      exact ih (v + 1) m true (by omega) (fun k' hk' => by have := h k' hk'; simpa using this) (by omega)
    | false =>
      rw [if_neg (by simp), if_pos (by omega)]
      refine ih (v + 1) m _ (by omega) (fun k' hk' => ?_) (by omega)
      have := h k' hk'
      rw [drop_cons l v (by omega), List.any_cons, Bool.false_or] at this
      exact this
theorem sT_l1 (t : Int) (l out : List Int) (i x : Nat) (hl : l.length ≤ 1000) (hi : i < l.length) (hx : rd l (i : Int) = x) (hx9 : x ≤ 1000) (hout : out.length ≤ 1000) (R : List Int) (K : Nat)
    (h : ∀ k', K ≤ k' → spec_TidyRank.l0 k' t l (out ++ [(cnt l x : Int)]) ((i + 1 : Nat) : Int) = some R) : ∀ (d r k : Nat), r + d = x →
    K + d * (l.length + 3) + 1 ≤ k → spec_TidyRank.l1 k t l out i (cnt l r : Int) r = some R := by
  intro d
  induction d with
  | zero =>
    intro r k hr hk
    obtain ⟨m, rfl⟩ : ∃ m, k = m + 1 := ⟨k - 1, by omega⟩
    obtain rfl : r = x := by omega
    simp only [spec_TidyRank.l1]
    rw [if_pos (by omega), if_pos (by omega), hx, if_neg (by omega), if_pos (by omega), next64 i (by omega)]
    exact h m (by omega)
  | succ d ih =>
    intro r k hr hk
    obtain ⟨m, rfl⟩ : ∃ m, k = m + 1 := ⟨k - 1, by omega⟩
    have e : (d + 1) * (l.length + 3) = d * (l.length + 3) + (l.length + 3) := Nat.succ_mul _ _
    have hc := cnt_le l r
    simp only [spec_TidyRank.l1]
    rw [if_pos (by omega), if_pos (by omega), hx, if_pos (by omega)]
    refine sT_l2 t l out i _ r hl R (K + d * (l.length + 3) + 1) l.length 0 m false (by omega) (fun k' hk' => ?_) (by omega)
    have ih1 := ih (r + 1) k' (by omega) hk'
    rw [cnt_succ] at ih1
    rw [Bool.false_or, List.drop_zero, next64 r (by omega), next64 (cnt l r) (by omega)]
    cases hb : l.any (fun y => y == (r : Int)) with
    | true => rw [hb] at ih1; rw [if_pos rfl]; rw [if_pos rfl] at ih1; exact ih1
    | false => rw [hb] at ih1; rw [if_neg (by simp)]; rw [if_neg (by simp)] at ih1; exact ih1
theorem sT_l0 (t : Int) (l : List Int) (hr : okR t l = true) : ∀ (d i k : Nat), i + d = l.length → d * 200 + 30 ≤ k →
    spec_TidyRank.l0 k t l ((tidyL l).take i) i = some (tidyL l) := by
  obtain ⟨h1, h2, h3, h4, h5, h6⟩ := okR_cases' hr
  intro d
  induction d with
  | zero =>
    intro i k hi hk
    obtain ⟨m, rfl⟩ : ∃ m, k = m + 2 := ⟨k - 2, by omega⟩
    simp only [spec_TidyRank.l0]
    rw [if_neg (by omega)]
    simp only [spec_TidyRank.j1]
    rw [if_neg (by simp), List.take_of_length_le (by rw [tidyL_length]; omega)]
  | succ d ih =>
    intro i k hi hk
    obtain ⟨m, rfl⟩ : ∃ m, k = m + 2 := ⟨k - 2, by omega⟩
    simp only [spec_TidyRank.l0]
    rw [if_pos (by omega), sRankOk_eq t l (m + 1) (by omega) (by omega), hr]
    simp only [Option.bind_some, spec_TidyRank.j1, if_true]
    have hx := h3 _ (rd_mem l i (by omega))
    have hb : (rd l (i : Int)).toNat * (l.length + 3) ≤ 9 * 11 := Nat.mul_le_mul (by omega) (by omega)
    have h := sT_l1 t l ((tidyL l).take i) i (rd l (i : Int)).toNat (by omega) (by omega) (by omega) (by omega) (by have := List.length_take_le i (tidyL l); omega) (tidyL l) (d * 200 + 30)
      (fun k' hk' => by rw [← tidy_take l i (by omega)]; exact ih (i + 1) k' (by omega) hk') (rd l (i : Int)).toNat 0 m (by omega) (by omega)
    have e0 : cnt l 0 = 0 := rfl
    rw [e0] at h
    exact h
theorem sTidyRank_eq (t : Int) (l : List Int) (k : Nat) (hl : l.length ≤ 2000000) (hk : l.length + 2000 ≤ k) : spec_TidyRank.f k t l = some (if okR t l = true then tidyL l else []) := by
  unfold spec_TidyRank.f
  cases hr : okR t l with
  | true =>
    obtain ⟨h1, h2, h3, h4, h5, h6⟩ := okR_cases' hr
    rw [if_pos rfl]
    exact sT_l0 t l hr l.length 0 k (by omega) (by omega)
  | false =>
    rw [if_neg (by simp)]
    obtain ⟨m, rfl⟩ : ∃ m, k = m + 2 := ⟨k - 2, by omega⟩
    simp only [spec_TidyRank.l0]
    by_cases h : (0 : Int) < (l.length : Int)
    · rw [if_pos h, sRankOk_eq t l (m + 1) hl (by omega), hr]
      simp [spec_TidyRank.j1]
    · rw [if_neg h]
      simp [spec_TidyRank.j1]
def idxI (x : Int) : List Int → Nat → Int
  | [], _ => -1
  | y :: ys, i => if x = y then (i : Int) else idxI x ys (i + 1)
theorem Index_l0 (l : List Int) (x : Int) (hl : l.length ≤ 2000000) : ∀ (d i k : Nat), i + d = l.length → d < k → slices_Index_int_int.l0 k l x (l.length : Int) i = some (idxI x (l.drop i) i) := by
  intro d
  induction d with
  | zero =>
    intro i k hi hk
    obtain ⟨m, rfl⟩ : ∃ m, k = m + 1 := ⟨k - 1, by omega⟩
    simp only [slices_Index_int_int.l0]
    rw [if_neg (by omega), List.drop_eq_nil_of_le (by omega)]; rfl
  | succ d ih =>
    intro i k hi hk
    obtain ⟨m, rfl⟩ : ∃ m, k = m + 1 := ⟨k - 1, by omega⟩
    simp only [slices_Index_int_int.l0]
    rw [if_pos (by omega), if_pos (by omega), if_pos (by omega), next64 i (by omega), drop_cons l i (by omega)]
    simp only [idxI]
    by_cases h : x = rd l (i : Int)
    · rw [if_pos h, if_pos h]
    · rw [if_neg h, if_neg h]
      exact ih (i + 1) m (by omega) (by omega)
theorem idxI_asc (x : Int) : ∀ (l : List Int) (i : Nat), l.Pairwise (· < ·) → x ∈ l → idxI x l i = ((i + l.countP (fun y => decide (y < x)) : Nat) : Int)
  | [], i, _, hx => by cases hx
  | y :: ys, i, hp, hx => by
    obtain ⟨h1, h2⟩ := List.pairwise_cons.1 hp
    simp only [idxI]
    by_cases e : x = y
    · subst e
      rw [if_pos rfl, List.countP_cons_of_neg (by simp), List.countP_eq_zero.2 (fun z hz => by have := h1 z hz; simp; omega)]
      simp
    · rw [if_neg e]
      have hx2 : x ∈ ys := by
        rcases List.mem_cons.1 hx with h | h
        · exact absurd h e
        · exact h
      rw [idxI_asc x ys (i + 1) h2 hx2, List.countP_cons_of_pos (by simpa using h1 x hx2)]
      omega
theorem below_succ (x : Int) : ∀ (l : List Int), l.Pairwise (· < ·) → l.countP (fun y => decide (y < x + 1)) = l.countP (fun y => decide (y < x)) + if l.any (fun y => y == x) = true then 1 else 0
  | [], _ => by simp
  | y :: ys, hp => by
    obtain ⟨h1, h2⟩ := List.pairwise_cons.1 hp
    rcases Int.lt_trichotomy y x with h | h | h
    · rw [List.countP_cons_of_pos (by simp; omega), List.countP_cons_of_pos (by simpa using h), below_succ x ys h2, List.any_cons]
      have : (y == x) = false := by simp; omega
      rw [this, Bool.false_or]
      omega
    · subst h
      rw [List.countP_cons_of_pos (by simp; omega), List.countP_cons_of_neg (by simp), List.countP_eq_zero.2 (fun z hz => by have := h1 z hz; simp; omega), List.countP_eq_zero.2 (fun z hz => by have := h1 z hz; simp; omega)]
      simp
    · rw [List.countP_cons_of_neg (by simp; omega), List.countP_cons_of_neg (by simp; omega), List.countP_eq_zero.2 (fun z hz => by have := h1 z hz; simp; omega), List.countP_eq_zero.2 (fun z hz => by have := h1 z hz; simp; omega)]
      have : ((y :: ys).any fun z => z == x) = false := by
        rw [List.any_eq_false]
        intro z hz
        rcases List.mem_cons.1 hz with rfl | hz
        · simp; omega
        · have := h1 z hz; simp; omega
      rw [this]; simp
theorem below_cnt (lv l : List Int) (hp : lv.Pairwise (· < ·)) (h0 : ∀ y ∈ lv, 0 ≤ y) (hm : ∀ y, y ∈ lv ↔ y ∈ l) : ∀ x : Nat, lv.countP (fun y => decide (y < (x : Int))) = cnt l x
  | 0 => by
    rw [List.countP_eq_zero.2 (fun z hz => by have := h0 z hz; simp; omega)]; rfl
  | x + 1 => by
    have e : ((x + 1 : Nat) : Int) = (x : Int) + 1 := by simp
    rw [e, below_succ _ lv hp, below_cnt lv l hp h0 hm x, cnt_succ]
    have ha : lv.any (fun y => y == (x : Int)) = l.any (fun y => y == (x : Int)) := by
      rw [Bool.eq_iff_iff, List.any_eq_true, List.any_eq_true]
      exact ⟨fun ⟨z, hz, e⟩ => ⟨z, (hm z).1 hz, e⟩, fun ⟨z, hz, e⟩ => ⟨z, (hm z).2 hz, e⟩⟩
    rw [ha]
theorem comp_spec (d : Array Int) (hs : ∀ i j, i ≤ j → j < d.size → d[i]! ≤ d[j]!) : ∀ m, m ≤ d.size →
    (Lib.compactUpTo d m).Pairwise (· < ·) ∧ ∀ x, x ∈ Lib.compactUpTo d m ↔ ∃ j, j < m ∧ d[j]! = x
  | 0, _ => by
    refine ⟨by simp [Lib.compactUpTo], fun x => ?_⟩
    simp [Lib.compactUpTo]
  | m + 1, hm => by
    obtain ⟨h1, h2⟩ := comp_spec d hs m (by omega)
    rw [Lib.compactUpTo_succ]
    by_cases hk : Lib.keeps d m = true
    · rw [if_pos hk]
      refine ⟨?_, fun x => ?_⟩
      · rw [List.pairwise_append]
        refine ⟨h1, List.pairwise_singleton _ _, fun x hx y hy => ?_⟩
        rw [List.mem_singleton] at hy
        subst hy
        obtain ⟨j, hj, rfl⟩ := (h2 x).1 hx
        unfold Lib.keeps at hk
        have hk := of_decide_eq_true hk
        have hne : d[m]! ≠ d[m - 1]! := by
          rcases hk with h | h
          · omega
          · exact h
        have a := hs j (m - 1) (by omega) (by omega)
        have b := hs (m - 1) m (by omega) (by omega)
        omega
      · rw [List.mem_append, h2, List.mem_singleton]
        constructor
        · rintro (⟨j, hj, e⟩ | e)
          · exact ⟨j, by omega, e⟩
          · exact ⟨m, by omega, e.symm⟩
        · rintro ⟨j, hj, e⟩
          rcases Nat.lt_or_ge j m with h | h
          · exact .inl ⟨j, h, e⟩
          · obtain rfl : j = m := by omega
            exact .inr e.symm
    · rw [if_neg hk, List.append_nil]
      refine ⟨h1, fun x => ?_⟩
      have hk2 : ¬ (m = 0 ∨ d[m]! ≠ d[m - 1]!) := fun h => hk (by unfold Lib.keeps; exact decide_eq_true h)
      have hm0 : m ≠ 0 := fun h => hk2 (.inl h)
      have he : d[m]! = d[m - 1]! := Classical.byContradiction fun h => hk2 (.inr h)
      rw [h2]
      constructor
      · rintro ⟨j, hj, e⟩; exact ⟨j, by omega, e⟩
      · rintro ⟨j, hj, e⟩
        rcases Nat.lt_or_ge j m with h | h
        · exact ⟨j, h, e⟩
        · obtain rfl : j = m := by omega
          exact ⟨j - 1, by omega, by rw [← he]; exact e⟩
theorem levels_spec (l : List Int) : (Lib.compact (l.mergeSort fun x y => decide (x ≤ y))).Pairwise (· < ·) ∧ ∀ x, x ∈ Lib.compact (l.mergeSort fun x y => decide (x ≤ y)) ↔ x ∈ l := by
  have hp : (l.mergeSort fun x y => decide (x ≤ y)).Pairwise (fun a b => (decide (a ≤ b)) = true) :=
    List.pairwise_mergeSort (fun a b c h1 h2 => by simp only [decide_eq_true_eq] at *; omega) (fun a b => by simp only [Bool.or_eq_true, decide_eq_true_eq]; omega) l
  generalize hz : (l.mergeSort fun x y => decide (x ≤ y)) = zs at hp
  have hmem : ∀ x, x ∈ zs ↔ x ∈ l := fun x => by rw [← hz]; exact List.mem_mergeSort
  have hs : ∀ i j, i ≤ j → j < zs.toArray.size → zs.toArray[i]! ≤ zs.toArray[j]! := by
    intro i j hij hj
    have hj' : j < zs.length := by simpa using hj
    rcases Nat.lt_or_ge i j with h | h
    · have := List.pairwise_iff_getElem.1 hp i j (by omega) hj' h
      simp only [decide_eq_true_eq] at this
      rw [getElem!_pos zs.toArray i (by simp; omega), getElem!_pos zs.toArray j hj]
      simpa using this
    · obtain rfl : i = j := by omega
      exact Int.le_refl _
  obtain ⟨h1, h2⟩ := comp_spec zs.toArray hs zs.length (by simp)
  refine ⟨h1, fun x => ?_⟩
  rw [← hmem x]
  show x ∈ Lib.compactUpTo zs.toArray zs.length ↔ _
  rw [h2]
  constructor
  · rintro ⟨j, hj, rfl⟩
    rw [getElem!_pos zs.toArray j (by simpa using hj)]
    simp
  · intro hx
    obtain ⟨j, hj, e⟩ := List.mem_iff_getElem.1 hx
    exact ⟨j, hj, by rw [getElem!_pos zs.toArray j (by simpa using hj)]; simpa using e⟩
theorem Index_eq (l lv : List Int) (x : Int) (k : Nat) (hp : lv.Pairwise (· < ·)) (hm : ∀ y, y ∈ lv ↔ y ∈ l) (h0 : ∀ y ∈ l, 0 ≤ y) (hx : x ∈ l) (hl : lv.length ≤ 2000000) (hk : lv.length < k) :
    slices_Index_int_int.f k lv x = some (cnt l x.toNat : Int) := by
  have h := Index_l0 lv x hl lv.length 0 k (by omega) hk
  rw [List.drop_zero, idxI_asc x lv 0 hp ((hm x).2 hx)] at h
  have hc := below_cnt lv l hp (fun y hy => h0 y ((hm y).1 hy)) hm x.toNat
  have hx0 := h0 x hx
  rw [Int.toNat_of_nonneg hx0] at hc
  rw [hc, Nat.zero_add] at h
  exact h
theorem tidy_l0 (l lv : List Int) (hp : lv.Pairwise (· < ·)) (hm : ∀ y, y ∈ lv ↔ y ∈ l) (h0 : ∀ y ∈ l, 0 ≤ y) (hl : l.length ≤ 1000) (hv : lv.length ≤ 1000) : ∀ (d i k : Nat), i + d = l.length → d + lv.length + 2 ≤ k →
    impl_tidy.l0 k lv ((tidyL l).take i) l (l.length : Int) i = some (tidyL l) := by
  intro d
  induction d with
  | zero =>
    intro i k hi hk
    obtain ⟨m, rfl⟩ : ∃ m, k = m + 1 := ⟨k - 1, by omega⟩
    simp only [impl_tidy.l0]
    rw [if_neg (by omega), List.take_of_length_le (by rw [tidyL_length]; omega)]
  | succ d ih =>
    intro i k hi hk
    obtain ⟨m, rfl⟩ : ∃ m, k = m + 1 := ⟨k - 1, by omega⟩
    simp only [impl_tidy.l0]
    rw [if_pos (by omega), if_pos (by omega), if_pos (by omega), Index_eq l lv _ m hp hm h0 (rd_mem l i (by omega)) (by omega) (by omega)]
    simp only [Option.bind_some]
    have := List.length_take_le i (tidyL l)
    rw [if_pos (by omega), next64 i (by omega), ← tidy_take l i (by omega)]
    exact ih (i + 1) m (by omega) (by omega)
theorem tidy_eq (l : List Int) (k : Nat) (h0 : ∀ y ∈ l, 0 ≤ y) (hl : l.length ≤ 500) (hk : 2 * l.length + 10 ≤ k) : impl_tidy.f k l = some (tidyL l) := by
  obtain ⟨hp, hm⟩ := levels_spec l
  have hsl : (l.mergeSort fun x y => decide (x ≤ y)).length = l.length := by simp
  have hcl := compact_len (l.mergeSort fun x y => decide (x ≤ y))
  unfold impl_tidy.f
  simp only [Option.bind_some, List.nil_append]
  rw [if_pos (by simp; omega)]
  unfold slices_Sort_int_int.f
  rw [if_pos (by omega)]
  simp only [Option.bind_some]
  unfold slices_Compact_int_int.f
  rw [if_pos (by omega)]
  simp only [Option.bind_some]
  exact tidy_l0 l _ hp hm h0 (by omega) (by omega) l.length 0 k (by omega) (by omega)
end Go.Proofs.Ytgbleieknfmeiaa.L
namespace Go.Proofs.Ytgbleieknfmeiaa.L
open Go.RowKit Go.Proofs.Ytgbleieknfmeiaa.B Go.Proofs.Ytgbleieknfmeiaa.D Go.Proofs.Ytgbleieknfmeiaa.Hand Go.Proofs.YtgbleieknfmeiaaW.PrintWords Go.Proofs.YtgbleieknfmeiaaW.PrintLast Go.Proofs.YtgbleieknfmeiaaW.PrintMore
set_option linter.unusedVariables false
set_option linter.unusedSimpArgs false
theorem Equal_l0 (x y : List Int) (hxy : x.length = y.length) (hl : x.length ≤ 2000000) : ∀ (d i k : Nat), i + d = x.length → d < k → slices_Equal_int_int.l0 k x y (x.length : Int) i = some (decide (x.drop i = y.drop i)) := by
  intro d
  induction d with
  | zero =>
    intro i k hi hk
    obtain ⟨m, rfl⟩ : ∃ m, k = m + 1 := ⟨k - 1, by omega⟩
    simp only [slices_Equal_int_int.l0]
    rw [if_neg (by omega), List.drop_eq_nil_of_le (by omega), List.drop_eq_nil_of_le (by omega)]; simp
  | succ d ih =>
    intro i k hi hk
    obtain ⟨m, rfl⟩ : ∃ m, k = m + 1 := ⟨k - 1, by omega⟩
    simp only [slices_Equal_int_int.l0]
    rw [if_pos (by omega), if_pos (by omega), if_pos (by omega), if_pos (by omega), next64 i (by omega), drop_cons x i (by omega), drop_cons y i (by omega), ih (i + 1) m (by omega) (by omega)]
    by_cases h : rd x (i : Int) = rd y (i : Int)
    · rw [if_pos h, h]; simp
    · rw [if_neg h]; simp [h]
theorem Equal_eq (x y : List Int) (k : Nat) (hl : x.length ≤ 2000000) (hk : x.length < k) : slices_Equal_int_int.f k x y = some (decide (x = y)) := by
  unfold slices_Equal_int_int.f
  by_cases h : x.length = y.length
  · rw [if_pos (by omega)]
    have := Equal_l0 x y h hl x.length 0 k (by omega) hk
    simpa using this
  · rw [if_neg (by omega)]
    congr 1
    symm
    rw [decide_eq_false_iff_not]
    intro e; exact h (by rw [e])
/-- SameOrder. -/
def sameE (t : Int) (a b : List Int) : Bool := okR t a && (okR t b && decide (tidyL a = tidyL b))
theorem SameOrder_eq (t : Int) (a b : List Int) (k : Nat) (hk : 100 ≤ k) : impl_SameOrder.f k t a b = some (sameE t a b) := by
  unfold impl_SameOrder.f sameE
  rw [isRank_eq t a k (by omega)]
  simp only [Option.bind_some]
  cases ha : okR t a with
  | false => simp
  | true =>
    rw [if_pos rfl, isRank_eq t b k (by omega)]
    simp only [Option.bind_some]
    cases hb : okR t b with
    | false => simp
    | true =>
      obtain ⟨h1, h2, h3, h4, h5, h6⟩ := okR_cases' ha
      obtain ⟨g1, g2, g3, g4, g5, g6⟩ := okR_cases' hb
      rw [if_pos rfl, tidy_eq a k (fun y hy => (h3 y hy).1) (by omega) (by omega)]
      simp only [Option.bind_some]
      rw [tidy_eq b k (fun y hy => (g3 y hy).1) (by omega) (by omega)]
      simp only [Option.bind_some]
      have := tidyL_length a
      rw [Equal_eq _ _ k (by omega) (by omega)]
      simp
theorem sSame_l0 (x y : List Int) (hxy : x.length = y.length) (hl : x.length ≤ 2000000) : ∀ (d i k : Nat), i + d = x.length → d < k → spec_SameOrder.l0 k x y i = some (decide (x.drop i = y.drop i)) := by
  intro d
  induction d with
  | zero =>
    intro i k hi hk
    obtain ⟨m, rfl⟩ : ∃ m, k = m + 1 := ⟨k - 1, by omega⟩
    simp only [spec_SameOrder.l0]
    rw [if_neg (by omega), List.drop_eq_nil_of_le (by omega), List.drop_eq_nil_of_le (by omega)]; simp
  | succ d ih =>
    intro i k hi hk
    obtain ⟨m, rfl⟩ : ∃ m, k = m + 1 := ⟨k - 1, by omega⟩
    simp only [spec_SameOrder.l0]
    rw [if_pos (by omega), if_pos (by omega), if_pos (by omega), next64 i (by omega), drop_cons x i (by omega), drop_cons y i (by omega), ih (i + 1) m (by omega) (by omega)]
    by_cases h : rd x (i : Int) = rd y (i : Int)
    · rw [if_pos h, h]; simp
    · rw [if_neg h]; simp [h]
theorem sSameOrder_eq (t : Int) (a b : List Int) (k : Nat) (ha2 : a.length ≤ 2000000) (hb2 : b.length ≤ 2000000) (hk : a.length + b.length + 3000 ≤ k) : spec_SameOrder.f k t a b = some (sameE t a b) := by
  obtain ⟨k, rfl⟩ : ∃ m, k = m + 1 := ⟨k - 1, by omega⟩
  unfold spec_SameOrder.f sameE
  rw [sRankOk_eq t a _ (by omega) (by omega)]
  simp only [Option.bind_some]
  cases ha : okR t a with
  | false => simp [spec_SameOrder.j0]
  | true =>
    rw [if_pos rfl, sRankOk_eq t b _ (by omega) (by omega)]
    simp only [Option.bind_some, spec_SameOrder.j0]
    cases hb : okR t b with
    | false => simp
    | true =>
      obtain ⟨h1, h2, h3, h4, h5, h6⟩ := okR_cases' ha
      obtain ⟨g1, g2, g3, g4, g5, g6⟩ := okR_cases' hb
      rw [if_neg (by simp), sTidyRank_eq t a k (by omega) (by omega), if_pos ha]
      simp only [Option.bind_some]
      rw [sTidyRank_eq t b k (by omega) (by omega), if_pos hb]
      simp only [Option.bind_some]
      have q1 := tidyL_length a
      have q2 := tidyL_length b
      have := sSame_l0 (tidyL a) (tidyL b) (by omega) (by omega) (tidyL a).length 0 k (by omega) (by omega)
      rw [show (0 : Int) = ((0 : Nat) : Int) from rfl, this]
      simp
theorem tidy_iff {a b : List Int} (hl : a.length = b.length) (ha : ∀ y ∈ a, 0 ≤ y ∧ y ≤ 9) (hb : ∀ y ∈ b, 0 ≤ y ∧ y ≤ 9) : tidyL a = tidyL b ↔ ∀ s : Nat, s < 2 ^ a.length → rev a (s : Int) = rev b (s : Int) := by
  have a0 := fun y hy => (ha y hy).1
  have b0 := fun y hy => (hb y hy).1
  have a9 := fun y hy => (ha y hy).2
  have b9 := fun y hy => (hb y hy).2
  constructor
  · intro h s _
    have h1 := same_tidy a a0
    have h2 := same_tidy b b0
    rw [← h] at h2
    exact (h1.trans h2.symm).rev a9 b9 (s : Int)
  · intro h
    exact (same_of_rev hl a9 b9 h).tidy a0 b0
end Go.Proofs.Ytgbleieknfmeiaa.L
namespace Go.Proofs.Ytgbleieknfmeiaa.L
open Go.RowKit Go.Proofs.Ytgbleieknfmeiaa.B Go.Proofs.Ytgbleieknfmeiaa.D Go.Proofs.Ytgbleieknfmeiaa.Hand Go.Proofs.YtgbleieknfmeiaaW.PrintWords Go.Proofs.YtgbleieknfmeiaaW.PrintLast Go.Proofs.YtgbleieknfmeiaaW.PrintMore
set_option linter.unusedVariables false
set_option linter.unusedSimpArgs false
theorem xor_i64 (a b : Nat) (ha : a < 2 ^ 62) (hb : b < 2 ^ 62) : bits .xor .i64 a b = ((a ^^^ b : Nat) : Int) := by
  have hx : a ^^^ b < 2 ^ 62 := Nat.xor_lt_two_pow ha hb
  simp only [bits, BitVec.ofInt_natCast, BitVec.toNat_xor, BitVec.toNat_ofNat]
  have e : IntKind.i64.bits = 64 := rfl
  rw [e, Nat.mod_eq_of_lt (by omega), Nat.mod_eq_of_lt (by omega)]
  exact wraps_i64 _ (by omega) (by omega)
theorem xor_nonneg (x y : Int) (hx : 0 ≤ x) (hx2 : x < 4611686018427387904) (hy : 0 ≤ y) (hy2 : y < 4611686018427387904) : 0 ≤ bits .xor .i64 x y := by
  obtain ⟨a, rfl⟩ := Int.eq_ofNat_of_zero_le hx
  obtain ⟨b, rfl⟩ := Int.eq_ofNat_of_zero_le hy
  rw [xor_i64 a b (by omega) (by omega)]
  omega
/-- A reader's bytes. -/
structure Rd (b : List Int) : Prop where
  byte : ∀ x, x ∈ b → 0 ≤ x ∧ x ≤ 255
  len : b.length ≤ 2000
theorem Rd.at_ {b : List Int} (h : Rd b) (i : Int) : 0 ≤ rd b i ∧ rd b i ≤ 255 := by
  unfold rd
  rw [List.getD_eq_getElem?_getD]
  by_cases e : i.toNat < b.length
  · rw [List.getElem?_eq_getElem e]; exact h.byte _ (List.getElem_mem e)
  · rw [List.getElem?_eq_none (by omega)]; simp
theorem pick_ok {b : List Int} (hb : Rd b) (p n : Int) (hp : 0 ≤ p) (hp2 : p ≤ 1000000) (hn : 1 ≤ n) (hn2 : n ≤ 1000000) :
    ∃ v, 0 ≤ v ∧ v < n ∧ ∀ k, 1 ≤ k → spec_l20Rd_pick.f k b p n = some (v, p + 1) := by
  have e1 : wrap64 (p + 1) = p + 1 := w64 (by omega) (by omega)
  have e2 : wrap64 (p + 1 - 1) = p := by rw [w64 (by omega) (by omega)]; omega
  by_cases hl : (b.length : Int) = 0
  · refine ⟨0, by omega, by omega, fun k hk => ?_⟩
    obtain ⟨m, rfl⟩ : ∃ m, k = m + 1 := ⟨k - 1, by omega⟩
    unfold spec_l20Rd_pick.f
    rw [if_neg (by omega), e1]
    simp only [spec_l20Rd_pick.j0]
    rw [if_pos (by rw [hl]; rfl)]
  · have hlen : 0 < (b.length : Int) := by omega
    have hlen2 : (b.length : Int) ≤ 2000 := by have := hb.len; omega
    have hle : ¬ (((b.length : Int) == 0) = true) := fun h => hl (beq_iff_eq.1 h)
    by_cases hlt : p < (b.length : Int)
    · have hr := hb.at_ p
      refine ⟨Int.tmod (rd b p) n, Int.tmod_nonneg _ hr.1, Int.tmod_lt_of_pos _ (by omega), fun k hk => ?_⟩
      obtain ⟨m, rfl⟩ : ∃ m, k = m + 1 := ⟨k - 1, by omega⟩
      unfold spec_l20Rd_pick.f
      rw [if_neg (by omega), e1]
      simp only [spec_l20Rd_pick.j0]
      rw [if_neg hle, e2, if_pos hlt, if_pos hp, if_neg (by omega), w64 (n := rd b p) (by omega) (by omega)]
    · have m1 : 0 ≤ Int.tmod p (b.length : Int) := Int.tmod_nonneg _ hp
      have m2 : Int.tmod p (b.length : Int) < (b.length : Int) := Int.tmod_lt_of_pos _ hlen
      have e3 : wrap64 (wrap64 (p * 7) + 3) = p * 7 + 3 := by rw [w64 (n := p * 7) (by omega) (by omega), w64 (by omega) (by omega)]
      have m3 : 0 ≤ Int.tmod (p * 7 + 3) (b.length : Int) := Int.tmod_nonneg _ (by omega)
      have m4 : Int.tmod (p * 7 + 3) (b.length : Int) < (b.length : Int) := Int.tmod_lt_of_pos _ hlen
      have a1 := hb.at_ (Int.tmod p (b.length : Int))
      have a2 := hb.at_ (Int.tmod (p * 7 + 3) (b.length : Int))
      have d1 : 0 ≤ Int.tdiv p (b.length : Int) := Int.tdiv_nonneg hp (by omega)
      have d2 : Int.tdiv p (b.length : Int) ≤ p := by
        rw [Int.tdiv_eq_ediv_of_nonneg hp]
        exact Int.ediv_le_self _ hp
      generalize hA : rd b (Int.tmod p (b.length : Int)) = A at a1
      generalize hB : rd b (Int.tmod (p * 7 + 3) (b.length : Int)) = B at a2
      generalize hD : Int.tdiv p (b.length : Int) = D at d1 d2
      have eY : wrap64 (wrap64 (wrap64 (wrap64 (wrap64 A * 131) + wrap64 (wrap64 B * 1117)) + wrap64 (p * 29)) + wrap64 (wrap64 D * 53)) = A * 131 + B * 1117 + p * 29 + D * 53 := by
        rw [w64 (n := A) (by omega) (by omega), w64 (n := B) (by omega) (by omega), w64 (n := D) (by omega) (by omega), w64 (n := A * 131) (by omega) (by omega), w64 (n := B * 1117) (by omega) (by omega), w64 (n := p * 29) (by omega) (by omega), w64 (n := D * 53) (by omega) (by omega), w64 (n := A * 131 + B * 1117) (by omega) (by omega), w64 (n := A * 131 + B * 1117 + p * 29) (by omega) (by omega), w64 (by omega) (by omega)]
      generalize hY : A * 131 + B * 1117 + p * 29 + D * 53 = Y at eY
      have y1 : 0 ≤ Y := by omega
      have y2 : Y ≤ 200000000 := by omega
      have eq : Int.tdiv Y 64 = Y / 64 := Int.tdiv_eq_ediv_of_nonneg y1
      have hx : 0 ≤ Go.bits .xor .i64 Y (wrap64 (Int.tdiv Y 64)) := by
        rw [eq, w64 (by omega) (by omega)]
        exact xor_nonneg _ _ y1 (by omega) (by omega) (by omega)
      refine ⟨Int.tmod (Go.bits .xor .i64 Y (wrap64 (Int.tdiv Y 64))) n, Int.tmod_nonneg _ hx, Int.tmod_lt_of_pos _ (by omega), fun k hk => ?_⟩
      obtain ⟨m, rfl⟩ : ∃ m, k = m + 1 := ⟨k - 1, by omega⟩
      unfold spec_l20Rd_pick.f
      rw [if_neg (by omega), e1]
      simp only [spec_l20Rd_pick.j0]
      rw [if_neg hle, e2, if_neg hlt, if_neg hl, if_pos m1, if_pos m2, e3, if_pos m3, if_pos m4, if_neg (by omega), hA, hB, hD, eY]
theorem odd_ok {b : List Int} (hb : Rd b) (p n : Int) (hp : 0 ≤ p) (hp2 : p ≤ 1000000) (hn : 0 ≤ n) (hn2 : n ≤ 1000000) :
    ∃ (v : Bool) (p' : Int), p ≤ p' ∧ p' ≤ p + 1 ∧ ∀ k, 1 ≤ k → spec_l20Rd_odd.f k b p n = some (v, p') := by
  by_cases h : n > 0
  · obtain ⟨v, h0, h1, hv⟩ := pick_ok hb p n hp hp2 (by omega) hn2
    exact ⟨v == wrap64 (n - 1), p + 1, by omega, by omega, fun k hk => by unfold spec_l20Rd_odd.f; rw [if_pos h, hv k hk]; rfl⟩
  · exact ⟨false, p, by omega, by omega, fun k hk => by unfold spec_l20Rd_odd.f; rw [if_neg h]⟩
theorem things_ok {b : List Int} (hb : Rd b) (p n : Int) (hp : 0 ≤ p) (hp2 : p ≤ 900000) (hn : 0 ≤ n) (hn2 : n ≤ 1000000) :
    ∃ t p' : Int, p ≤ p' ∧ p' ≤ p + 2 ∧ -1 ≤ t ∧ t ≤ 4 ∧ ∀ k, 1 ≤ k → spec_l20Things.f k b p n = some (t, p') := by
  obtain ⟨v, p1, a1, a2, hv⟩ := odd_ok hb p n hp (by omega) hn hn2
  cases v with
  | true =>
    obtain ⟨i, i0, i1, hi⟩ := pick_ok hb p1 3 (by omega) (by omega) (by omega) (by omega)
    have hr : -1 ≤ rd [0, 4, -1] i ∧ rd [0, 4, -1] i ≤ 4 := by
      rcases (show i = 0 ∨ i = 1 ∨ i = 2 by omega) with rfl | rfl | rfl <;> decide
    refine ⟨rd [0, 4, -1] i, p1 + 1, by omega, by omega, hr.1, hr.2, fun k hk => ?_⟩
    unfold spec_l20Things.f
    rw [hv k hk]
    simp only [Option.bind_some, if_true]
    rw [hi k hk]
    simp only [Option.bind_some]
    rw [if_pos i0, if_pos (by simp; omega)]
  | false =>
    obtain ⟨i, i0, i1, hi⟩ := pick_ok hb p1 5 (by omega) (by omega) (by omega) (by omega)
    have hr : -1 ≤ rd [1, 2, 2, 3, 3] i ∧ rd [1, 2, 2, 3, 3] i ≤ 4 := by
      rcases (show i = 0 ∨ i = 1 ∨ i = 2 ∨ i = 3 ∨ i = 4 by omega) with rfl | rfl | rfl | rfl | rfl <;> decide
    refine ⟨rd [1, 2, 2, 3, 3] i, p1 + 1, by omega, by omega, hr.1, hr.2, fun k hk => ?_⟩
    unfold spec_l20Things.f
    rw [hv k hk]
    simp only [Option.bind_some]
    rw [if_neg (by simp), hi k hk]
    simp only [Option.bind_some]
    rw [if_pos i0, if_pos (by simp; omega)]
theorem open_ok (l0 : List Int) (hb : ∀ x ∈ l0, (Lit.int .u8 x).wf = true) : ∃ b, Rd b ∧ spec_l20Open.f l0 = some (b, 0) := by
  have hx : ∀ x ∈ l0, 0 ≤ x ∧ x ≤ 255 := fun x hx => by
    have := hb x hx
    simp [Lit.wf, IntKind.min, IntKind.max, IntKind.bits, IntKind.signed] at this
    omega
  unfold spec_l20Open.f
  by_cases h : (l0.length : Int) > 2000
  · rw [if_pos h, if_pos (by omega)]
    exact ⟨l0.take 2000, ⟨fun x hm => hx x (List.mem_of_mem_take hm), by simp; omega⟩, rfl⟩
  · rw [if_neg h]
    exact ⟨l0, ⟨hx, by omega⟩, rfl⟩
end Go.Proofs.Ytgbleieknfmeiaa.L
namespace Go.Proofs.Ytgbleieknfmeiaa.L
open Go.RowKit Go.Proofs.Ytgbleieknfmeiaa.B Go.Proofs.Ytgbleieknfmeiaa.D Go.Proofs.Ytgbleieknfmeiaa.Hand Go.Proofs.YtgbleieknfmeiaaW.PrintWords Go.Proofs.YtgbleieknfmeiaaW.PrintLast Go.Proofs.YtgbleieknfmeiaaW.PrintMore
set_option linter.unusedVariables false
set_option linter.unusedSimpArgs false
theorem bit_nat (a w : Nat) (hw : w ≤ 62) : spec_l1Bit.f (a : Int) (w : Int) = some (if a.testBit w = true then 1 else 0) := by
  unfold spec_l1Bit.f
  rw [if_pos (by omega), shr_nat a w hw, tmod2]
theorem both_l0 (a b : Nat) : ∀ (d w k : Nat), w + d = 8 → d < k →
    spec_l1Both.l0 k a b (sumN w (fun i => a.testBit i && b.testBit i) : Nat) w = some ((sumN 8 (fun i => a.testBit i && b.testBit i) : Nat) : Int) := by
  intro d
  induction d with
  | zero =>
    intro w k hw hk
    obtain ⟨m, rfl⟩ : ∃ m, k = m + 1 := ⟨k - 1, by omega⟩
    obtain rfl : w = 8 := by omega
    simp only [spec_l1Both.l0]
    rw [if_neg (by omega)]
  | succ d ih =>
    intro w k hw hk
    obtain ⟨m, rfl⟩ : ∃ m, k = m + 1 := ⟨k - 1, by omega⟩
    have hlt := sumN_lt w (fun i => a.testBit i && b.testBit i)
    have hp : 2 ^ w ≤ 2 ^ 7 := Nat.pow_le_pow_right (by decide) (by omega)
    have e1 : wrap64 ((w : Int) + 1) = ((w + 1 : Nat) : Int) := by rw [w64 (by omega) (by omega)]; simp
    have key : ∀ x y : Bool, wrap64 (((sumN w (fun i => a.testBit i && b.testBit i) : Nat) : Int) + shl .i64 (wrap64 ((if x = true then 1 else 0) * (if y = true then 1 else 0))) (w : Int)) = ((sumN w (fun i => a.testBit i && b.testBit i) + (if (x && y) = true then 2 ^ w else 0) : Nat) : Int) := by
      intro x y
      generalize sumN w (fun i => a.testBit i && b.testBit i) = q at hlt
      have s0 : shl .i64 (wrap64 0) (w : Int) = 0 := by
        have := shl_nat 0 w (by omega) (by omega)
        rw [Nat.zero_mul] at this
        rw [show wrap64 0 = 0 from w64 (by omega) (by omega)]
        exact this
      have s1 : shl .i64 (wrap64 1) (w : Int) = ((2 ^ w : Nat) : Int) := by
        have := shl_nat 1 w (by omega) (by omega)
        rw [Nat.one_mul] at this
        rw [show wrap64 1 = 1 from w64 (by omega) (by omega)]
        exact this
      generalize 2 ^ w = e at s1 hlt hp
      cases x <;> cases y
      · show wrap64 ((q : Int) + shl .i64 (wrap64 0) (w : Int)) = _
        rw [s0, w64 (by omega) (by omega)]; simp
      · show wrap64 ((q : Int) + shl .i64 (wrap64 0) (w : Int)) = _
        rw [s0, w64 (by omega) (by omega)]; simp
      · show wrap64 ((q : Int) + shl .i64 (wrap64 0) (w : Int)) = _
        rw [s0, w64 (by omega) (by omega)]; simp
      · show wrap64 ((q : Int) + shl .i64 (wrap64 1) (w : Int)) = _
        rw [s1, w64 (by omega) (by omega)]; simp
    have key := key (a.testBit w) (b.testBit w)
    rw [show sumN w (fun i => a.testBit i && b.testBit i) + (if (a.testBit w && b.testBit w) = true then 2 ^ w else 0) = sumN (w + 1) (fun i => a.testBit i && b.testBit i) from rfl] at key
    simp only [spec_l1Both.l0]
    rw [if_pos (by omega), bit_nat a w (by omega)]
    simp only [Option.bind_some]
    rw [bit_nat b w (by omega)]
    simp only [Option.bind_some]
    rw [if_pos (by omega), key, e1]
    exact ih (w + 1) m (by omega) (by omega)
/-- What is in both sets. -/
theorem both_nat (a b k : Nat) (ha : a < 256) (hk : 9 ≤ k) : spec_l1Both.f k (a : Int) (b : Int) = some ((a &&& b : Nat) : Int) := by
  have h := both_l0 a b 8 0 k (by omega) (by omega)
  have e : sumN 8 (fun i => a.testBit i && b.testBit i) = a &&& b := by
    have h2 : a &&& b < 2 ^ 8 := Nat.lt_of_le_of_lt Nat.and_le_left ha
    rw [← sumN_bits 8 (a &&& b) h2]
    exact sumN_congr _ _ _ fun i _ => by rw [Nat.testBit_and]
  rw [e] at h
  unfold spec_l1Both.f
  simpa [sumN] using h
theorem both_int (a b : Int) (k : Nat) (ha : 0 ≤ a) (ha2 : a < 256) (hb : 0 ≤ b) (hk : 9 ≤ k) : spec_l1Both.f k a b = some ((a.toNat &&& b.toNat : Nat) : Int) := by
  obtain ⟨x, rfl⟩ := Int.eq_ofNat_of_zero_le ha
  obtain ⟨y, rfl⟩ := Int.eq_ofNat_of_zero_le hb
  exact both_nat x y k (by omega) hk
theorem set_j0 {b : List Int} (hb : Rd b) (p n all : Int) (hp : 0 ≤ p) (hp2 : p ≤ 900000) (hn : 0 ≤ n) (hn2 : n ≤ 1000000) (ha : 1 ≤ all) (ha2 : all ≤ 255) :
    ∃ s p' : Int, p ≤ p' ∧ p' ≤ p + 5 ∧ -1 ≤ s ∧ s ≤ 256 ∧ ∀ k, 12 ≤ k → spec_l20Set.j0 k n all b p = some (s, p') := by
  have ew : wrap64 (all + 1) = all + 1 := w64 (by omega) (by omega)
  obtain ⟨v, p1, a1, a2, hv⟩ := odd_ok hb p n hp (by omega) hn hn2
  cases v with
  | true =>
    obtain ⟨i, i0, i1, hi⟩ := pick_ok hb p1 2 (by omega) (by omega) (by omega) (by omega)
    have hr : -1 ≤ rd [-1, all + 1] i ∧ rd [-1, all + 1] i ≤ 256 := by
      rcases (show i = 0 ∨ i = 1 by omega) with rfl | rfl
      · show -1 ≤ (-1 : Int) ∧ (-1 : Int) ≤ 256; omega
      · show -1 ≤ all + 1 ∧ all + 1 ≤ 256; omega
    refine ⟨rd [-1, all + 1] i, p1 + 1, by omega, by omega, hr.1, hr.2, fun k hk => ?_⟩
    obtain ⟨m, rfl⟩ : ∃ m, k = m + 1 := ⟨k - 1, by omega⟩
    simp only [spec_l20Set.j0]
    rw [hv m (by omega)]
    simp only [Option.bind_some, if_true]
    rw [hi m (by omega)]
    simp only [Option.bind_some]
    rw [if_pos i0, if_pos (by simp; omega), ew]
  | false =>
    obtain ⟨x, x0, x1, hx⟩ := pick_ok hb p1 256 (by omega) (by omega) (by omega) (by omega)
    obtain ⟨y, y0, y1, hy⟩ := pick_ok hb (p1 + 1) 3 (by omega) (by omega) (by omega) (by omega)
    obtain ⟨z, z0, z1, hz⟩ := pick_ok hb (p1 + 1 + 1) 256 (by omega) (by omega) (by omega) (by omega)
    have s0 : 0 ≤ Int.tmod x (all + 1) := Int.tmod_nonneg _ x0
    have s1 : Int.tmod x (all + 1) < all + 1 := Int.tmod_lt_of_pos _ (by omega)
    by_cases h : y = 0
    · have hbo := fun k hk => both_int (Int.tmod x (all + 1)) z k s0 (by omega) z0 hk
      have q0 : 0 ≤ (((Int.tmod x (all + 1)).toNat &&& z.toNat : Nat) : Int) := by omega
      generalize (((Int.tmod x (all + 1)).toNat &&& z.toNat : Nat) : Int) = q at hbo q0
      have r0 : 0 ≤ Int.tmod q (all + 1) := Int.tmod_nonneg _ q0
      have r1 : Int.tmod q (all + 1) < all + 1 := Int.tmod_lt_of_pos _ (by omega)
      refine ⟨Int.tmod q (all + 1), p1 + 1 + 1 + 1, by omega, by omega, by omega, by omega, fun k hk => ?_⟩
      obtain ⟨m, rfl⟩ : ∃ m, k = m + 1 := ⟨k - 1, by omega⟩
      simp only [spec_l20Set.j0]
      rw [hv m (by omega)]
      simp only [Option.bind_some]
      rw [if_neg (by simp), hx m (by omega)]
      simp only [Option.bind_some]
      rw [ew, if_neg (by omega), hy m (by omega)]
      simp only [Option.bind_some]
      rw [if_pos h, hz m (by omega)]
      simp only [Option.bind_some]
      rw [hbo m (by omega)]
      simp only [Option.bind_some]
    · refine ⟨Int.tmod x (all + 1), p1 + 1 + 1, by omega, by omega, by omega, by omega, fun k hk => ?_⟩
      obtain ⟨m, rfl⟩ : ∃ m, k = m + 1 := ⟨k - 1, by omega⟩
      simp only [spec_l20Set.j0]
      rw [hv m (by omega)]
      simp only [Option.bind_some]
      rw [if_neg (by simp), hx m (by omega)]
      simp only [Option.bind_some]
      rw [ew, if_neg (by omega), hy m (by omega)]
      simp only [Option.bind_some]
      rw [if_neg h]
theorem set_ok {b : List Int} (hb : Rd b) (p t n : Int) (hp : 0 ≤ p) (hp2 : p ≤ 900000) (hn : 0 ≤ n) (hn2 : n ≤ 1000000) :
    ∃ s p' : Int, p ≤ p' ∧ p' ≤ p + 5 ∧ -1 ≤ s ∧ s ≤ 256 ∧ ∀ k, 12 ≤ k → spec_l20Set.f k b p t n = some (s, p') := by
  cases h : okT t with
  | true =>
    have hr : 1 ≤ allW t ∧ allW t ≤ 255 := by rcases okT_cases h with rfl | rfl | rfl <;> decide
    obtain ⟨s, p', h1, h2, h3, h4, h5⟩ := set_j0 hb p n (allW t) hp hp2 hn hn2 hr.1 hr.2
    refine ⟨s, p', h1, h2, h3, h4, fun k hk => ?_⟩
    unfold spec_l20Set.f
    rw [l1In_13, h]
    simp only [Option.bind_some, if_true]
    rw [l1All_eq t h]
    simp only [Option.bind_some]
    exact h5 k hk
  | false =>
    obtain ⟨s, p', h1, h2, h3, h4, h5⟩ := set_j0 hb p n 1 hp hp2 hn hn2 (by omega) (by omega)
    refine ⟨s, p', h1, h2, h3, h4, fun k hk => ?_⟩
    unfold spec_l20Set.f
    rw [l1In_13, h]
    simp only [Option.bind_some]
    rw [if_neg (by simp)]
    exact h5 k hk
end Go.Proofs.Ytgbleieknfmeiaa.L
namespace Go.Proofs.Ytgbleieknfmeiaa.L
open Go.RowKit Go.Proofs.Ytgbleieknfmeiaa.B Go.Proofs.Ytgbleieknfmeiaa.D Go.Proofs.Ytgbleieknfmeiaa.Hand Go.Proofs.YtgbleieknfmeiaaW.PrintWords Go.Proofs.YtgbleieknfmeiaaW.PrintLast Go.Proofs.YtgbleieknfmeiaaW.PrintMore
set_option linter.unusedVariables false
set_option linter.unusedSimpArgs false
theorem allW_pow {t : Int} (h : okT t = true) : (allW t).toNat + 1 = 2 ^ (nW t).toNat ∧ (nW t).toNat ≤ 8 ∧ 2 ≤ (nW t).toNat := by
  rcases okT_cases h with rfl | rfl | rfl <;> decide
end Go.Proofs.Ytgbleieknfmeiaa.L
namespace Go.Proofs.Ytgbleieknfmeiaa.L
open Go.RowKit Go.Proofs.Ytgbleieknfmeiaa.B Go.Proofs.Ytgbleieknfmeiaa.D Go.Proofs.Ytgbleieknfmeiaa.Hand Go.Proofs.YtgbleieknfmeiaaW.PrintWords Go.Proofs.YtgbleieknfmeiaaW.PrintLast Go.Proofs.YtgbleieknfmeiaaW.PrintMore
set_option linter.unusedVariables false
set_option linter.unusedSimpArgs false
/-- A short row of small numbers. -/
def Few (l : List Int) : Prop := l.length ≤ 9 ∧ ∀ x ∈ l, -1 ≤ x ∧ x ≤ 20
theorem rd_few {l : List Int} {lo hi : Int} (h : ∀ x ∈ l, lo ≤ x ∧ x ≤ hi) (i : Nat) (hi' : i < l.length) : lo ≤ rd l (i : Int) ∧ rd l (i : Int) ≤ hi := h _ (rd_mem l i hi')
theorem rank_l1 (n : Nat) (hn : n ≤ 8) (b : List Int) (p : Int) : ∀ (d i : Nat) (x7 : List Int), i + d = n → x7.length = n → (∀ x ∈ x7, -1 ≤ x ∧ x ≤ 10 + (i : Int)) →
    ∃ l, Few l ∧ ∀ k, d < k → spec_l20Rank.l1 k x7 n i b p = some (l, p) := by
  intro d
  induction d with
  | zero =>
    intro i x7 hi h7 hx
    refine ⟨x7, ⟨by omega, fun x hx' => by have := hx x hx'; omega⟩, fun k hk => ?_⟩
    obtain ⟨m, rfl⟩ : ∃ m, k = m + 1 := ⟨k - 1, by omega⟩
    simp only [spec_l20Rank.l1]
    rw [if_neg (by omega)]
  | succ d ih =>
    intro i x7 hi h7 hx
    have hr := rd_few hx i (by omega)
    have ew : wrap64 (rd x7 (i : Int) + 1) = rd x7 (i : Int) + 1 := w64 (by omega) (by omega)
    obtain ⟨l, hl, hk2⟩ := ih (i + 1) (x7.set i (rd x7 (i : Int) + 1)) (by omega) (by simp [h7]) (fun x hx' => by
      rcases List.mem_or_eq_of_mem_set hx' with h | h
      · have := hx x h; omega
      · omega)
    refine ⟨l, hl, fun k hk => ?_⟩
    obtain ⟨m, rfl⟩ : ∃ m, k = m + 1 := ⟨k - 1, by omega⟩
    simp only [spec_l20Rank.l1]
    rw [if_pos (by omega), if_pos (by omega), if_pos (by omega), ew, next64 i (by omega), Int.toNat_natCast]
    exact hk2 m (by omega)
theorem rank_l0 {b : List Int} (hb : Rd b) (x2 x9 : Int) (n : Nat) (hn : 1 ≤ n) (hn2 : n ≤ 8) (h2 : 0 ≤ x2) (h22 : x2 ≤ 1000000) (h9 : 0 ≤ x9) (h92 : x9 < 3) : ∀ (d : Nat) (p : Int) (x7 : List Int), x7.length + d = n → 0 ≤ p → p ≤ 950000 - d → (∀ x ∈ x7, 0 ≤ x ∧ x ≤ 10) →
    ∃ l p', Few l ∧ p ≤ p' ∧ p' ≤ p + d + 5 ∧ ∀ k, d + 20 ≤ k → spec_l20Rank.l0 k x2 x7 n x9 x7.length b p = some (l, p') := by
  intro d
  induction d with
  | zero =>
    intro p x7 h7 hp hp2 hx
    obtain ⟨v, v0, v1, hv⟩ := pick_ok hb p (n : Int) hp (by omega) (by omega) (by omega)
    obtain ⟨o, p1, o1, o2, ho⟩ := odd_ok hb (p + 1) x2 (by omega) (by omega) h2 h22
    have hset : ∀ x ∈ x7.set v.toNat 0, 0 ≤ x ∧ x ≤ 10 := fun x hx' => by
      rcases List.mem_or_eq_of_mem_set hx' with h | h
      · exact hx x h
      · omega
    have hlen : (x7.set v.toNat 0).length = n := by rw [List.length_set]; omega
    have start : ∀ k, 20 ≤ k → spec_l20Rank.l0 k x2 x7 n x9 x7.length b p = (spec_l20Rd_odd.f (k - 1) b (p + 1) x2).bind fun bt202 => (if bt202.1 = true then ((spec_l20Rd_pick.f (k - 1) b bt202.2 3).bind fun bt204 => (if bt204.1 = 0 then (if (x7.set v.toNat 0).length < 17592186044416 then (some (((x7.set v.toNat 0) ++ [0]), bt204.2)) else (none)) else (if bt204.1 = 1 then (if 0 < (x7.length : Int) then (some (((x7.set v.toNat 0).set (0 : Int).toNat (-1)), bt204.2)) else (none)) else (spec_l20Rank.l1 (k - 1) (x7.set v.toNat 0) n 0 b bt204.2)))) else (some ((x7.set v.toNat 0), bt202.2))) := by
      intro k hk
      obtain ⟨m, rfl⟩ : ∃ m, k = m + 1 := ⟨k - 1, by omega⟩
      simp only [spec_l20Rank.l0]
      rw [if_neg (by omega), hv m (by omega)]
      simp only [Option.bind_some]
      rw [if_pos v0, if_pos (by omega)]
      rfl
    generalize x7.set v.toNat 0 = y at *
    cases o with
    | false =>
      refine ⟨y, p1, ⟨by omega, fun x hx' => by have := hset x hx'; omega⟩, by omega, by omega, fun k hk => ?_⟩
      rw [start k (by omega), ho (k - 1) (by omega)]; rfl
    | true =>
      obtain ⟨u, u0, u1, hu⟩ := pick_ok hb p1 3 (by omega) (by omega) (by omega) (by omega)
      rcases (show u = 0 ∨ u = 1 ∨ u = 2 by omega) with rfl | rfl | rfl
      · refine ⟨y ++ [0], p1 + 1, ⟨by rw [List.length_append]; simp; omega, fun x hx' => by
          rcases List.mem_append.1 hx' with h | h
          · have := hset x h; omega
          · simp at h; omega⟩, by omega, by omega, fun k hk => ?_⟩
        rw [start k (by omega), ho (k - 1) (by omega)]
        simp only [Option.bind_some, if_true]
        rw [hu (k - 1) (by omega)]
        simp only [Option.bind_some, if_true]
        rw [if_pos (by omega)]
      · refine ⟨y.set 0 (-1), p1 + 1, ⟨by rw [List.length_set]; omega, fun x hx' => by
          rcases List.mem_or_eq_of_mem_set hx' with h | h
          · have := hset x h; omega
          · omega⟩, by omega, by omega, fun k hk => ?_⟩
        rw [start k (by omega), ho (k - 1) (by omega)]
        simp only [Option.bind_some, if_true]
        rw [hu (k - 1) (by omega)]
        simp only [Option.bind_some]
        rw [if_neg (by omega), if_pos trivial, if_pos (by omega)]; rfl
      · obtain ⟨l, hl, hk2⟩ := rank_l1 n hn2 b (p1 + 1) n 0 y (by omega) hlen (fun x hx' => by have := hset x hx'; omega)
        refine ⟨l, p1 + 1, hl, by omega, by omega, fun k hk => ?_⟩
        rw [start k (by omega), ho (k - 1) (by omega)]
        simp only [Option.bind_some, if_true]
        rw [hu (k - 1) (by omega)]
        simp only [Option.bind_some]
        rw [if_neg (by omega), if_neg (by omega)]
        exact hk2 (k - 1) (by omega)
  | succ d ih =>
    intro p x7 h7 hp hp2 hx
    obtain ⟨w, w0, w1, hw⟩ : ∃ w : Int, rd [2, 4, 10] x9 = w ∧ 1 ≤ w ∧ w ≤ 10 := by
      rcases (show x9 = 0 ∨ x9 = 1 ∨ x9 = 2 by omega) with rfl | rfl | rfl <;> exact ⟨_, rfl, by decide, by decide⟩
    obtain ⟨v, v0, v1, hv⟩ := pick_ok hb p w hp (by omega) (by omega) (by omega)
    obtain ⟨l, p', hl, q1, q2, hk2⟩ := ih (p + 1) (x7 ++ [v]) (by rw [List.length_append]; simp; omega) (by omega) (by omega) (fun x hx' => by
      rcases List.mem_append.1 hx' with h | h
      · exact hx x h
      · simp at h; omega)
    refine ⟨l, p', hl, by omega, by omega, fun k hk => ?_⟩
    obtain ⟨m, rfl⟩ : ∃ m, k = m + 1 := ⟨k - 1, by omega⟩
    have e7 : (((x7 ++ [v]).length : Nat) : Int) = ((x7.length + 1 : Nat) : Int) := by simp
    have hk3 := hk2 m (by omega)
    rw [e7] at hk3
    simp only [spec_l20Rank.l0]
    rw [if_pos (by omega)]
    simp only [Option.bind_some]
    rw [if_pos h9, if_pos (by simp; omega), w0, hv m (by omega)]
    simp only [Option.bind_some]
    rw [if_pos (by omega), next64 x7.length (by omega)]
    exact hk3
theorem rank_ok {b : List Int} (hb : Rd b) (p t n : Int) (hp : 0 ≤ p) (hp2 : p ≤ 900000) (hn : 0 ≤ n) (hn2 : n ≤ 1000000) :
    ∃ l p', Few l ∧ p ≤ p' ∧ p' ≤ p + 20 ∧ ∀ k, 40 ≤ k → spec_l20Rank.f k b p t n = some (l, p') := by
  obtain ⟨m, hm, m1, m2⟩ : ∃ m : Nat, mx (nW t) 1 = (m : Int) ∧ 1 ≤ m ∧ m ≤ 8 := by
    cases h : okT t with
    | true => rcases okT_cases h with rfl | rfl | rfl <;> exact ⟨_, rfl, by decide, by decide⟩
    | false =>
      refine ⟨1, ?_, by omega, by omega⟩
      unfold nW; rw [h]; rfl
  obtain ⟨v, v0, v1, hv⟩ := pick_ok hb p 3 hp (by omega) (by omega) (by omega)
  obtain ⟨l, p', hl, q1, q2, hk2⟩ := rank_l0 hb n v m m1 m2 hn hn2 v0 v1 m (p + 1) [] (by simp) (by omega) (by omega) (fun x hx => by cases hx)
  refine ⟨l, p', hl, by omega, by omega, fun k hk => ?_⟩
  unfold spec_l20Rank.f
  rw [sWorldsOf_eq]
  simp only [Option.bind_some]
  rw [hv k (by omega), hm]
  simp only [Option.bind_some]
  exact hk2 k (by omega)
theorem ranked_ok {b : List Int} (hb : Rd b) (p : Int) (hp : 0 ≤ p) (hp2 : p ≤ 100000) :
    ∃ (t : Int) (l : List Int) (s p' : Int), -1 ≤ t ∧ t ≤ 4 ∧ Few l ∧ -1 ≤ s ∧ s ≤ 256 ∧ p ≤ p' ∧ p' ≤ p + 40 ∧ ∀ k, 60 ≤ k → spec_l20Ranked.f k b p = some (t, l, s, p') := by
  obtain ⟨t, p1, h1, h2, t0, t1, ht⟩ := things_ok hb p 20 hp (by omega) (by omega) (by omega)
  obtain ⟨l, p2, hl, h3, h4, hr⟩ := rank_ok hb p1 t 16 (by omega) (by omega) (by omega) (by omega)
  obtain ⟨s, p3, h5, h6, s0, s1, hs⟩ := set_ok hb p2 t 20 (by omega) (by omega) (by omega) (by omega)
  refine ⟨t, l, s, p3, t0, t1, hl, s0, s1, by omega, by omega, fun k hk => ?_⟩
  unfold spec_l20Ranked.f
  rw [ht k (by omega)]
  simp only [Option.bind_some]
  rw [hr k (by omega)]
  simp only [Option.bind_some]
  rw [hs k (by omega)]
  simp only [Option.bind_some]
end Go.Proofs.Ytgbleieknfmeiaa.L
namespace Go.Proofs.Ytgbleieknfmeiaa.L
open Go.RowKit Go.Proofs.Ytgbleieknfmeiaa.B Go.Proofs.Ytgbleieknfmeiaa.D Go.Proofs.Ytgbleieknfmeiaa.Hand Go.Proofs.YtgbleieknfmeiaaW.PrintWords Go.Proofs.YtgbleieknfmeiaaW.PrintLast Go.Proofs.YtgbleieknfmeiaaW.PrintMore
set_option linter.unusedVariables false
set_option linter.unusedSimpArgs false
/-- RevisedBy. -/
def revE (t : Int) (l : List Int) (s : Int) : Int := if okR t l = true ∧ okS t s = true then rev l s else -1
theorem RevisedBy_eq (t : Int) (l : List Int) (s : Int) (k : Nat) (hk : 20 ≤ k) : impl_RevisedBy.f k t l s = some (revE t l s) := by
  unfold impl_RevisedBy.f revE
  rw [isRank_eq t l k hk]
  simp only [Option.bind_some]
  cases hr : okR t l with
  | false => simp
  | true =>
    rw [if_pos rfl, isSet_eq]
    simp only [Option.bind_some]
    cases hs : okS t s with
    | false => simp
    | true =>
      obtain ⟨h1, h2, h3, h4, h5, h6⟩ := okR_cases hr
      obtain ⟨g1, g2, g3, g4⟩ := okS_cases hs
      have : impl_revisedBy.f t l s = some (rev l s) := by unfold impl_revisedBy.f; rw [if_pos ⟨h1, h2, g2, g4⟩]
      rw [if_pos rfl, this]
      simp
end Go.Proofs.Ytgbleieknfmeiaa.L
namespace Go.Proofs.Ytgbleieknfmeiaa.Pure
open Go.RowKit Go.Proofs.Ytgbleieknfmeiaa.B Go.Proofs.Ytgbleieknfmeiaa.D Go.Proofs.Ytgbleieknfmeiaa.Hand Go.Proofs.Ytgbleieknfmeiaa.L Go.Proofs.YtgbleieknfmeiaaW.PrintWords Go.Proofs.YtgbleieknfmeiaaW.PrintLast Go.Proofs.YtgbleieknfmeiaaW.PrintMore
set_option linter.unusedVariables false
set_option linter.unusedSimpArgs false
theorem other (t : Int) (l : List Int) {b : List Int} (hB : Rd b) (hl : l.length ≤ 9) : ∀ (d i : Nat) (x9 : List Int) (p : Int), i + d = l.length → x9.length = i → 0 ≤ p → p ≤ 900000 - d →
    ∃ l' : List Int, l'.length ≤ 9 ∧ ∀ k, d + 10 ≤ k → spec_DrawSameOrder.l0 k t l x9 i b p = some (t, l, l') := by
  intro d
  induction d with
  | zero =>
    intro i x9 p hi hx hp hp2
    refine ⟨x9, by omega, fun k hk => ?_⟩
    obtain ⟨m, rfl⟩ : ∃ m, k = m + 1 := ⟨k - 1, by omega⟩
    simp only [spec_DrawSameOrder.l0]
    rw [if_neg (by omega)]
  | succ d ih =>
    intro i x9 p hi hx hp hp2
    obtain ⟨v, v0, v1, hv⟩ := pick_ok hB p 2 hp (by omega) (by omega) (by omega)
    obtain ⟨l', h1, h2⟩ := ih (i + 1) (x9 ++ [mn (wrap64 ((rd l (i : Int)) + (wrap64 ((mn (rd l (i : Int)) 1) * v)))) 9]) (p + 1) (by omega) (by rw [List.length_append]; simp; omega) (by omega) (by omega)
    refine ⟨l', h1, fun k hk => ?_⟩
    obtain ⟨m, rfl⟩ : ∃ m, k = m + 1 := ⟨k - 1, by omega⟩
    simp only [spec_DrawSameOrder.l0]
    rw [if_pos (by omega), if_pos (by omega), hv m (by omega)]
    simp only [Option.bind_some]
    rw [if_pos (by omega), next64 i (by omega)]
    exact h2 m (by omega)
theorem draw_ok (l0 : List Int) (hb : ∀ x ∈ l0, (Lit.int .u8 x).wf = true) : ∃ (t : Int) (l l' : List Int), l.length ≤ 9 ∧ l'.length ≤ 9 ∧ ∀ k, 500 ≤ k → spec_DrawSameOrder.f k l0 = some (t, l, l') := by
  obtain ⟨b, hB, ho⟩ := open_ok l0 hb
  obtain ⟨t, l, s, p, t0, t1, hf, s0, s1, p0, p1, hr⟩ := ranked_ok hB 0 (by omega) (by omega)
  have hl := hf.1
  obtain ⟨v, v0, v1, hv⟩ := pick_ok hB p 2 (by omega) (by omega) (by omega) (by omega)
  obtain ⟨a, ha, hoth⟩ := other t l hB hl l.length 0 [] (p + 1) (by omega) rfl (by omega) (by omega)
  obtain ⟨c, q1, hc, _, _, hcs⟩ := rank_ok hB (p + 1) t 20 (by omega) (by omega) (by omega) (by omega)
  obtain ⟨e, q2, he, _, _, hes⟩ := rank_ok hB p t 20 (by omega) (by omega) (by omega) (by omega)
  have start : ∀ k, 500 ≤ k → spec_DrawSameOrder.f k l0 = (if okR t l = true then spec_DrawSameOrder.j0 k t l (v == 0) b (p + 1) else spec_DrawSameOrder.j0 k t l false b p) := by
    intro k hk
    unfold spec_DrawSameOrder.f
    rw [ho]
    simp only [Option.bind_some]
    rw [hr k (by omega)]
    simp only [Option.bind_some]
    rw [sRankOk_eq t l k (by omega) (by omega)]
    simp only [Option.bind_some]
    rw [hv k (by omega)]
    rfl
  cases h : okR t l with
  | true =>
    cases h2 : (v == 0) with
    | true =>
      refine ⟨t, l, a, hl, ha, fun k hk => ?_⟩
      rw [start k hk, h, if_pos rfl, h2]
      obtain ⟨m, rfl⟩ : ∃ m, k = m + 1 := ⟨k - 1, by omega⟩
      simp only [spec_DrawSameOrder.j0, if_true]
      exact hoth m (by omega)
    | false =>
      refine ⟨t, l, c, hl, hc.1, fun k hk => ?_⟩
      rw [start k hk, h, if_pos rfl, h2]
      obtain ⟨m, rfl⟩ : ∃ m, k = m + 1 := ⟨k - 1, by omega⟩
      simp only [spec_DrawSameOrder.j0]
      rw [if_neg (by simp), hcs m (by omega)]
      rfl
  | false =>
    refine ⟨t, l, e, hl, he.1, fun k hk => ?_⟩
    rw [start k hk, h, if_neg (by simp)]
    obtain ⟨m, rfl⟩ : ∃ m, k = m + 1 := ⟨k - 1, by omega⟩
    simp only [spec_DrawSameOrder.j0]
    rw [if_neg (by simp), hes m (by omega)]
    rfl
theorem loop (t : Int) (a b : List Int) (x6 : Bool) (ha : okR t a = true) (hb : okR t b = true) : ∀ (d i k : Nat) (x7 : Bool), (i : Int) + d = allW t + 1 → d + 100 ≤ k →
    ∃ r : Bool, laws_FnSameOrder.l0 k t a b x6 x7 i = some (r == x6) ∧ (r = true → x7 = true ∨ 0 < d) ∧ (0 < d → (r = true ↔ x7 = true ∧ ∀ s : Nat, i ≤ s → (s : Int) ≤ allW t → rev a (s : Int) = rev b (s : Int))) ∧ (d = 0 → r = x7) := by
  obtain ⟨h1, h2, h3, h4, h5, h6⟩ := okR_cases' ha
  have hA := allW_range h1
  intro d
  induction d with
  | zero =>
    intro i k x7 hi hk
    obtain ⟨m, rfl⟩ : ∃ m, k = m + 1 := ⟨k - 1, by omega⟩
    refine ⟨x7, ?_, fun h => .inl h, fun h => absurd h (by omega), fun _ => rfl⟩
    simp only [laws_FnSameOrder.l0]
    rw [whole_eq t h1]
    simp only [Option.bind_some]
    rw [if_neg (by omega)]
  | succ d ih =>
    intro i k x7 hi hk
    obtain ⟨m, rfl⟩ : ∃ m, k = m + 1 := ⟨k - 1, by omega⟩
    have hs : okS t (i : Int) = true := by unfold okS; rw [h1]; simp; omega
    simp only [laws_FnSameOrder.l0]
    rw [whole_eq t h1]
    simp only [Option.bind_some]
    rw [if_pos (by omega), next64 i (by omega)]
    cases x7 with
    | false =>
      obtain ⟨r, r1, r2, r3, r4⟩ := ih (i + 1) m false (by omega) (by omega)
      refine ⟨r, ?_, fun h => .inr (by omega), fun _ => ?_, fun h => absurd h (by omega)⟩
      · rw [if_neg (by simp)]; exact r1
      · constructor
        · intro h
          rcases Nat.eq_zero_or_pos d with h0 | h0
          · rw [r4 h0] at h; cases h
          · have := ((r3 h0).1 h).1; cases this
        · intro h; cases h.1
    | true =>
      obtain ⟨r, r1, r2, r3, r4⟩ := ih (i + 1) m (rev a (i : Int) == rev b (i : Int)) (by omega) (by omega)
      refine ⟨r, ?_, fun h => .inl rfl, fun _ => ?_, fun h => absurd h (by omega)⟩
      · rw [if_pos rfl, RevisedBy_eq t a _ m (by omega), RevisedBy_eq t b _ m (by omega)]
        simp only [Option.bind_some]
        unfold revE
        rw [if_pos ⟨ha, hs⟩, if_pos ⟨hb, hs⟩]
        exact r1
      · rcases Nat.eq_zero_or_pos d with h0 | h0
        · rw [r4 h0]
          constructor
          · intro h
            refine ⟨rfl, fun s s1 s2 => ?_⟩
            obtain rfl : s = i := by omega
            exact eq_of_beq h
          · intro h
            rw [h.2 i (Nat.le_refl _) (by omega)]; simp
        · rw [r3 h0]
          constructor
          · rintro ⟨e, hh⟩
            refine ⟨rfl, fun s s1 s2 => ?_⟩
            rcases Nat.eq_or_lt_of_le s1 with rfl | s3
            · exact eq_of_beq e
            · exact hh s s3 s2
          · rintro ⟨_, hh⟩
            exact ⟨by rw [hh i (Nat.le_refl _) (by omega)]; simp, fun s s1 s2 => hh s (by omega) s2⟩
theorem FnSameOrder : laws_FnSameOrder.Pure := by
  intro l0 _ _ hb
  obtain ⟨k, hk⟩ : ∃ k : Nat, 100000 ≤ k := ⟨_, Nat.le_refl _⟩
  refine ⟨k + 1, ?_⟩
  unfold laws_FnSameOrder.f
  by_cases hl : (l0.length : Int) > 1048576
  · rw [if_pos hl]
  rw [if_neg hl]
  obtain ⟨t, a, b, la, lb, hd⟩ := draw_ok l0 hb
  rw [hd _ (by omega)]
  simp only [Option.bind_some]
  rw [SameOrder_eq t a b _ (by omega)]
  simp only [Option.bind_some]
  rw [sSameOrder_eq t a b _ (by omega) (by omega) (by omega)]
  simp only [Option.bind_some]
  rw [if_neg (by simp), sRankOk_eq t a _ (by omega) (by omega)]
  simp only [Option.bind_some]
  cases ha : okR t a with
  | false =>
    have e : sameE t a b = false := by unfold sameE; rw [ha]; rfl
    rw [if_neg (by simp), e]
    simp [laws_FnSameOrder.j0, alive_eq]
  | true =>
    rw [if_pos rfl, sRankOk_eq t b _ (by omega) (by omega)]
    simp only [Option.bind_some, laws_FnSameOrder.j0]
    cases hb' : okR t b with
    | false =>
      have e : sameE t a b = false := by unfold sameE; rw [hb']; simp
      rw [e]; simp [alive_eq]
    | true =>
      obtain ⟨h1, h2, h3, h4, h5, h6⟩ := okR_cases' ha
      obtain ⟨g1, g2, g3, g4, g5, g6⟩ := okR_cases' hb'
      obtain ⟨p1, p2, p3⟩ := allW_pow h1
      have hA := allW_range h1
      rw [if_neg (by simp)]
      obtain ⟨r, r1, r2, r3, r4⟩ := loop t a b (sameE t a b) ha hb' ((allW t).toNat + 1) 0 k true (by omega) (by omega)
      rw [show (0 : Int) = ((0 : Nat) : Int) from rfl, r1]
      have hi := tidy_iff (a := a) (b := b) (by omega) h3 g3
      have e : r = sameE t a b := by
        rw [Bool.eq_iff_iff, r3 (by omega)]
        unfold sameE
        rw [ha, hb', Bool.true_and, Bool.true_and, decide_eq_true_eq, hi]
        constructor
        · rintro ⟨_, h⟩ s hs
          have : 2 ^ a.length = 2 ^ (nW t).toNat := by congr 1; omega
          exact h s (by omega) (by omega)
        · intro h
          refine ⟨rfl, fun s _ hs => h s ?_⟩
          have : 2 ^ a.length = 2 ^ (nW t).toNat := by congr 1; omega
          omega
      rw [e]; simp
end Go.Proofs.Ytgbleieknfmeiaa.Pure
