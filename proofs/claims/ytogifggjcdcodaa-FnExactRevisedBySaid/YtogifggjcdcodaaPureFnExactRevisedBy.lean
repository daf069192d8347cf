/- The law that the program's RevisedBy is the reference's answers true, for all arguments. -/
import Derived.Test.YtogifggjcdcodaaHm
import Derived.Test.YtogifggjcdcodaaHandF
import Derived.Test.YtogifggjcdcodaaPx1
import Derived.Test.YtogifggjcdcodaaPx2
import Derived.Test.YtogifggjcdcodaaPx7
namespace Go.Proofs.Ytogifggjcdcodaa.L
open Go.RowKit Go.Proofs.Ytogifggjcdcodaa.B Go.Proofs.Ytogifggjcdcodaa.P Go.Proofs.Ytogifggjcdcodaa.Hand Go.Proofs.YtogifggjcdcodaaW.PrintWords Go.Proofs.YtogifggjcdcodaaW.PrintLast Go.Proofs.YtogifggjcdcodaaW.PrintMore
set_option linter.unusedVariables false
set_option linter.unusedSimpArgs false
theorem toIntS_l0 (x0 : List Int) (hl : x0.length ≤ 2000000) : ∀ (d i k : Nat) (x3 : List Int), i + d = x0.length → d < k → x3.length = x0.length → (∀ j, j < i → x3[j]? = x0[j]?) → laws_toIntS.l0 k x0 x3 i = some x0 := by
  intro d
  induction d with
  | zero =>
    intro i k x3 hi hk h3 hj
    obtain ⟨m, rfl⟩ : ∃ m, k = m + 1 := ⟨k - 1, by omega⟩
    simp only [laws_toIntS.l0]
    rw [if_neg (by omega)]
    congr 1
    apply List.ext_getElem?
    intro j
    by_cases h : j < i
    · exact hj j h
    · rw [List.getElem?_eq_none (by omega), List.getElem?_eq_none (by omega)]
  | succ d ih =>
    intro i k x3 hi hk h3 hj
    obtain ⟨m, rfl⟩ : ∃ m, k = m + 1 := ⟨k - 1, by omega⟩
    simp only [laws_toIntS.l0]
    rw [if_pos (by omega), if_pos (by omega), if_pos (by omega), next64 i (by omega), Int.toNat_natCast]
    refine ih (i + 1) m _ (by omega) (by omega) (by simp [h3]) (fun j hj2 => ?_)
    rw [List.getElem?_set]
    by_cases e : i = j
    · subst e
      rw [if_pos rfl, if_pos (by omega), rd_get x0 i (by omega)]
    · rw [if_neg e]
      exact hj j (by omega)
theorem toIntS_eq (l : List Int) (k : Nat) (hl : l.length ≤ 2000000) (hk : l.length < k) : laws_toIntS.f k l = some l := by
  unfold laws_toIntS.f
  rw [if_pos (by omega), if_pos (by omega)]
  exact toIntS_l0 l hl l.length 0 k _ (by omega) hk (by simp) (fun j hj => absurd hj (by omega))
theorem eqIntS_l0 (x : List Int) (hl : x.length ≤ 2000000) : ∀ (d i k : Nat), i + d = x.length → d < k → laws_eqIntS.l0 k x x i = some true := by
  intro d
  induction d with
  | zero =>
    intro i k hi hk
    obtain ⟨m, rfl⟩ : ∃ m, k = m + 1 := ⟨k - 1, by omega⟩
    simp only [laws_eqIntS.l0]
    rw [if_neg (by omega)]
  | succ d ih =>
    intro i k hi hk
    obtain ⟨m, rfl⟩ : ∃ m, k = m + 1 := ⟨k - 1, by omega⟩
    simp only [laws_eqIntS.l0]
    rw [if_pos (by omega), if_pos (by omega), if_pos (by omega), if_pos trivial, next64 i (by omega)]
    exact ih (i + 1) m (by omega) (by omega)
theorem eqIntS_refl (l : List Int) (k : Nat) (hl : l.length ≤ 2000000) (hk : l.length < k) : laws_eqIntS.f k l l = some true := by
  unfold laws_eqIntS.f
  rw [if_pos rfl]
  exact eqIntS_l0 l hl l.length 0 k (by omega) hk
end Go.Proofs.Ytogifggjcdcodaa.L
namespace Go.Proofs.Ytogifggjcdcodaa.L
open Go.RowKit Go.Proofs.Ytogifggjcdcodaa.B Go.Proofs.Ytogifggjcdcodaa.P Go.Proofs.Ytogifggjcdcodaa.Hand Go.Proofs.YtogifggjcdcodaaW.PrintWords Go.Proofs.YtogifggjcdcodaaW.PrintLast Go.Proofs.YtogifggjcdcodaaW.PrintMore
set_option linter.unusedVariables false
set_option linter.unusedSimpArgs false
theorem l1In_eq (a b c : Int) : spec_l1In.f a b c = some (decide (b ≤ a) && decide (a ≤ c)) := by
  unfold spec_l1In.f
  by_cases h : a ≥ b
  · rw [if_pos h]; simp [show b ≤ a from h]
  · rw [if_neg h]; simp [show ¬ b ≤ a from h]
theorem l1In_13 (a : Int) : spec_l1In.f a 1 3 = some (okT a) := l1In_eq a 1 3
theorem l1All_eq (a : Int) (h : okT a = true) : spec_l1All.f a = some (allW a) := by
  unfold spec_l1All.f allF; rw [if_pos h]
theorem sSetOk_eq (t s : Int) : spec_SetOk.f t s = some (okS t s) := by
  unfold spec_SetOk.f okS
  rw [l1In_13]
  simp only [Option.bind_some]
  cases h : okT t with
  | false => simp
  | true =>
    rw [l1All_eq t h]
    simp [l1In_eq]
end Go.Proofs.Ytogifggjcdcodaa.L
namespace Go.Proofs.Ytogifggjcdcodaa.L
open Go.RowKit Go.Proofs.Ytogifggjcdcodaa.B Go.Proofs.Ytogifggjcdcodaa.P Go.Proofs.Ytogifggjcdcodaa.Hand Go.Proofs.YtogifggjcdcodaaW.PrintWords Go.Proofs.YtogifggjcdcodaaW.PrintLast Go.Proofs.YtogifggjcdcodaaW.PrintMore
set_option linter.unusedVariables false
set_option linter.unusedSimpArgs false
theorem sRankOk_l0 (t : Int) (l : List Int) (hl : l.length ≤ 2000000) : ∀ (d i k : Nat) (m : Int), i + d = l.length → d < k →
    spec_RankOk.l0 k t l m i = some ((l.drop i).all (fun x => decide (0 ≤ x) && decide (x ≤ 9)) && (okT t && (decide ((l.length : Int) = nW t) && (mnL m (l.drop i) == 0)))) := by
  intro d
  induction d with
  | zero =>
    intro i k m hi hk
    obtain ⟨q, rfl⟩ : ∃ q, k = q + 1 := ⟨k - 1, by omega⟩
    simp only [spec_RankOk.l0]
    rw [if_neg (by omega), List.drop_eq_nil_of_le (by omega), l1In_13]
    simp only [Option.bind_some]
    cases ht : okT t with
    | false => simp
    | true =>
      have hpos : 0 ≤ t := by rcases okT_cases ht with rfl | rfl | rfl <;> omega
      rw [if_pos rfl, if_pos hpos, (nW_pos ht).2.2]
      by_cases h : (l.length : Int) = nW t
      · rw [if_pos h]; simp [h, mnL]
      · rw [if_neg h]; simp [h]
  | succ d ih =>
    intro i k m hi hk
    obtain ⟨q, rfl⟩ : ∃ q, k = q + 1 := ⟨k - 1, by omega⟩
    simp only [spec_RankOk.l0]
    rw [if_pos (by omega), if_pos (by omega), l1In_eq, drop_cons l i (by omega)]
    simp only [Option.bind_some, List.all_cons]
    cases hx : (decide (0 ≤ rd l (i : Int)) && decide (rd l (i : Int) ≤ 9)) with
    | false => simp
    | true =>
      rw [if_pos rfl, next64 i (by omega), ih (i + 1) q _ (by omega) (by omega)]
      simp [mnL]
theorem sRankOk_eq (t : Int) (l : List Int) (k : Nat) (hl : l.length ≤ 2000000) (hk : l.length < k) : spec_RankOk.f k t l = some (okR t l) := by
  have h := sRankOk_l0 t l hl l.length 0 k 9 (by omega) hk
  unfold spec_RankOk.f
  rw [show ((0 : Nat) : Int) = 0 from rfl] at h
  rw [h]
  congr 1
  rw [List.drop_zero]
  unfold okR
  have a1 := mnL_le l 9
  have a2 := mnL_mem l 9
  rw [Bool.eq_iff_iff]
  simp only [Bool.and_eq_true, List.all_eq_true, List.any_eq_true, decide_eq_true_eq, beq_iff_eq]
  constructor
  · rintro ⟨h1, h2, h3, h4⟩
    rcases a2 with h | h
    · omega
    · exact ⟨h2, h3, h1, _, h, h4⟩
  · rintro ⟨h2, h3, h1, x, hx, rfl⟩
    refine ⟨h1, h2, h3, ?_⟩
    have := a1.2 0 hx
    rcases a2 with h | h
    · have := h1 _ hx; omega
    · have := h1 _ h; omega
end Go.Proofs.Ytogifggjcdcodaa.L
namespace Go.Proofs.Ytogifggjcdcodaa.L
open Go.RowKit Go.Proofs.Ytogifggjcdcodaa.B Go.Proofs.Ytogifggjcdcodaa.P Go.Proofs.Ytogifggjcdcodaa.Hand Go.Proofs.YtogifggjcdcodaaW.PrintWords Go.Proofs.YtogifggjcdcodaaW.PrintLast Go.Proofs.YtogifggjcdcodaaW.PrintMore
set_option linter.unusedVariables false
set_option linter.unusedSimpArgs false
theorem bit_nat (a w : Nat) (hw : w ≤ 62) : spec_l1Bit.f (a : Int) (w : Int) = some (if a.testBit w = true then 1 else 0) := by
  unfold spec_l1Bit.f
  rw [if_pos (by omega), shr_nat a w hw, tmod2]
end Go.Proofs.Ytogifggjcdcodaa.L
namespace Go.Proofs.Ytogifggjcdcodaa.L
open Go.RowKit Go.Proofs.Ytogifggjcdcodaa.Hand Go.Proofs.YtogifggjcdcodaaW.PrintWords
set_option linter.unusedVariables false
set_option linter.unusedSimpArgs false
theorem rd_mem (l : List Int) (i : Nat) (h : i < l.length) : rd l (i : Int) ∈ l := by
  unfold rd
  rw [Int.toNat_natCast, List.getD_eq_getElem?_getD, List.getElem?_eq_getElem h]; exact List.getElem_mem h
/-- Two rows of ranks are in the same order. -/
def Same (a b : List Int) : Prop := a.length = b.length ∧ ∀ i j : Nat, i < a.length → j < a.length → (rd a (i : Int) ≤ rd a (j : Int) ↔ rd b (i : Int) ≤ rd b (j : Int))
theorem Same.symm {a b : List Int} (h : Same a b) : Same b a := ⟨h.1.symm, fun i j hi hj => (h.2 i j (by rw [h.1]; exact hi) (by rw [h.1]; exact hj)).symm⟩
theorem leastN_le (l : List Int) (s : Int) : ∀ n, leastN l s n ≤ 10 ∧ ∀ v : Nat, v < n → bit s v = true → leastN l s n ≤ rd l (v : Int)
  | 0 => ⟨Int.le_refl _, fun v hv => absurd hv (by omega)⟩
  | n + 1 => by
    obtain ⟨h1, h2⟩ := leastN_le l s n
    simp only [leastN]
    cases hb : bit s n with
    | true =>
      rw [if_pos rfl]
      have hm : mn (leastN l s n) (rd l (n : Int)) ≤ leastN l s n ∧ mn (leastN l s n) (rd l (n : Int)) ≤ rd l (n : Int) := by unfold mn; split <;> omega
      refine ⟨Int.le_trans hm.1 h1, fun v hv hbv => ?_⟩
      rcases Nat.lt_or_ge v n with h3 | h3
      · exact Int.le_trans hm.1 (h2 v h3 hbv)
      · obtain rfl : v = n := by omega
        exact hm.2
    | false =>
      rw [if_neg (by simp)]
      refine ⟨h1, fun v hv hbv => ?_⟩
      rcases Nat.lt_or_ge v n with h3 | h3
      · exact h2 v h3 hbv
      · obtain rfl : v = n := by omega
        rw [hb] at hbv; cases hbv
theorem leastN_mem (l : List Int) (s : Int) : ∀ n, leastN l s n = 10 ∨ ∃ v : Nat, v < n ∧ bit s v = true ∧ rd l (v : Int) = leastN l s n
  | 0 => .inl rfl
  | n + 1 => by
    simp only [leastN]
    cases hb : bit s n with
    | true =>
      rw [if_pos rfl]
      have hm : mn (leastN l s n) (rd l (n : Int)) = leastN l s n ∨ mn (leastN l s n) (rd l (n : Int)) = rd l (n : Int) := by unfold mn; split <;> simp
      rcases hm with hm | hm
      · rcases leastN_mem l s n with h | ⟨v, h1, h2, h3⟩
        · left; rw [hm, h]
        · right; exact ⟨v, by omega, h2, by rw [hm, h3]⟩
      · right; exact ⟨n, by omega, hb, hm.symm⟩
    | false =>
      rw [if_neg (by simp)]
      rcases leastN_mem l s n with h | ⟨v, h1, h2, h3⟩
      · exact .inl h
      · exact .inr ⟨v, by omega, h2, h3⟩
/-- A world has the least rank of a set just if no world of the set has a lesser one. -/
theorem least_iff (l : List Int) (s : Int) (h9 : ∀ y ∈ l, y ≤ 9) (w : Nat) (hw : w < l.length) (hb : bit s w = true) :
    (rd l (w : Int) == least l s) = true ↔ ∀ v : Nat, v < l.length → bit s v = true → rd l (w : Int) ≤ rd l (v : Int) := by
  have h1 := leastN_le l s l.length
  have h2 := leastN_mem l s l.length
  rw [beq_iff_eq]
  constructor
  · intro h v hv hbv
    rw [h]
    exact h1.2 v hv hbv
  · intro h
    have h3 := h1.2 w hw hb
    have h4 := h9 _ (rd_mem l w hw)
    unfold least
    rcases h2 with h2 | ⟨v, hv, hbv, e⟩
    · omega
    · have := h v hv hbv
      omega
theorem Same.rev {a b : List Int} (h : Same a b) (ha : ∀ y ∈ a, y ≤ 9) (hb : ∀ y ∈ b, y ≤ 9) (s : Int) : rev a s = rev b s := by
  unfold Hand.rev
  rw [← h.1]
  congr 1
  apply sumN_congr
  intro w hw
  have hw2 : w < b.length := by rw [← h.1]; exact hw
  cases hbw : bit s w with
  | false => rfl
  | true =>
    rw [Bool.true_and, Bool.true_and, Bool.eq_iff_iff, least_iff a s ha w hw hbw, least_iff b s hb w hw2 hbw]
    constructor
    · intro h3 v hv hbv
      exact (h.2 w v hw (by rw [h.1]; exact hv)).1 (h3 v (by rw [h.1]; exact hv) hbv)
    · intro h3 v hv hbv
      exact (h.2 w v hw hv).2 (h3 v (by rw [← h.1]; exact hv) hbv)
end Go.Proofs.Ytogifggjcdcodaa.L
namespace Go.Proofs.Ytogifggjcdcodaa.L
open Go.RowKit Go.Proofs.Ytogifggjcdcodaa.B Go.Proofs.Ytogifggjcdcodaa.P Go.Proofs.Ytogifggjcdcodaa.Hand Go.Proofs.YtogifggjcdcodaaW.PrintWords Go.Proofs.YtogifggjcdcodaaW.PrintLast Go.Proofs.YtogifggjcdcodaaW.PrintMore
set_option linter.unusedVariables false
set_option linter.unusedSimpArgs false
theorem bit_step (q i : Nat) (P : Nat → Bool) (hi : i ≤ 8) (hP : P i = true) : wrap64 ((sumN i P : Nat) + shl .i64 1 (i : Int)) = ((sumN (i + 1) P : Nat) : Int) := by
  have hlt := sumN_lt i P
  have hp : 2 ^ i ≤ 2 ^ 8 := Nat.pow_le_pow_right (by decide) hi
  have s1 : shl .i64 1 (i : Int) = ((2 ^ i : Nat) : Int) := by
    have := shl_nat 1 i (by omega) (by omega)
    rw [Nat.one_mul] at this
    exact this
  have e : sumN (i + 1) P = sumN i P + 2 ^ i := by simp [sumN, hP]
  rw [s1, e]
  generalize 2 ^ i = m at *
  rw [w64 (by omega) (by omega)]; simp
theorem sl2_l1 (a : Nat) (l : List Int) (m : Int) (hl : l.length ≤ 8) : ∀ (d i k : Nat), i + d = l.length → d < k →
    spec_l2Least.l1 k l a m (sumN i (fun w => a.testBit w && (rd l (w : Int) == m)) : Nat) i = some ((sumN l.length (fun w => a.testBit w && (rd l (w : Int) == m)) : Nat) : Int) := by
  intro d
  induction d with
  | zero =>
    intro i k hi hk
    obtain ⟨q, rfl⟩ : ∃ q, k = q + 1 := ⟨k - 1, by omega⟩
    obtain rfl : i = l.length := by omega
    simp only [spec_l2Least.l1]
    rw [if_neg (by omega)]
  | succ d ih =>
    intro i k hi hk
    obtain ⟨q, rfl⟩ : ∃ q, k = q + 1 := ⟨k - 1, by omega⟩
    have ih1 := ih (i + 1) q (by omega) (by omega)
    simp only [spec_l2Least.l1]
    rw [if_pos (by omega), bit_nat a i (by omega), next64 i (by omega)]
    simp only [Option.bind_some]
    cases ht : a.testBit i with
    | true =>
      rw [if_pos rfl, if_pos (by omega)]
      by_cases hm : rd l (i : Int) = m
      · rw [if_pos hm, bit_step 0 i (fun w => a.testBit w && (rd l (w : Int) == m)) (by omega) (by simp [ht, hm])]
        exact ih1
      · rw [if_neg hm]
        rw [sumN_skip i _ (by simp [ht, hm])] at ih1
        exact ih1
    | false =>
      rw [if_neg (by simp)]
      rw [sumN_skip i _ (by simp [ht])] at ih1
      exact ih1
theorem sl2_l0 (a : Nat) (l : List Int) (hl : l.length ≤ 8) : ∀ (d i k : Nat), i + d = l.length → d + l.length + 1 < k →
    spec_l2Least.l0 k l a (leastN l a i) i = some (rev l (a : Int)) := by
  intro d
  induction d with
  | zero =>
    intro i k hi hk
    obtain ⟨q, rfl⟩ : ∃ q, k = q + 1 := ⟨k - 1, by omega⟩
    obtain rfl : i = l.length := by omega
    simp only [spec_l2Least.l0]
    rw [if_neg (by omega)]
    have h := sl2_l1 a l (least l a) hl l.length 0 q (by omega) (by omega)
    unfold rev bit
    rw [Int.toNat_natCast]
    exact h
  | succ d ih =>
    intro i k hi hk
    obtain ⟨q, rfl⟩ : ∃ q, k = q + 1 := ⟨k - 1, by omega⟩
    have hb : bit (a : Int) i = a.testBit i := by unfold bit; simp
    have ih1 := ih (i + 1) q (by omega) (by omega)
    simp only [leastN, hb] at ih1
    simp only [spec_l2Least.l0]
    rw [if_pos (by omega), bit_nat a i (by omega), next64 i (by omega)]
    simp only [Option.bind_some]
    cases ht : a.testBit i with
    | true => rw [ht, if_pos rfl] at ih1; rw [if_pos rfl, if_pos (by omega)]; exact ih1
    | false => rw [ht, if_neg (by simp)] at ih1; rw [if_neg (by simp)]; exact ih1
theorem sl2Least_eq (l : List Int) (s : Int) (k : Nat) (hl : l.length ≤ 8) (h0 : 0 ≤ s) (hk : 20 ≤ k) : spec_l2Least.f k l s = some (rev l s) := by
  obtain ⟨a, rfl⟩ := Int.eq_ofNat_of_zero_le h0
  exact sl2_l0 a l hl l.length 0 k (by omega) (by omega)
end Go.Proofs.Ytogifggjcdcodaa.L
namespace Go.Proofs.Ytogifggjcdcodaa.L
open Go.RowKit Go.Proofs.Ytogifggjcdcodaa.B Go.Proofs.Ytogifggjcdcodaa.P Go.Proofs.Ytogifggjcdcodaa.Hand Go.Proofs.YtogifggjcdcodaaW.PrintWords Go.Proofs.YtogifggjcdcodaaW.PrintLast Go.Proofs.YtogifggjcdcodaaW.PrintMore
set_option linter.unusedVariables false
set_option linter.unusedSimpArgs false
/-- RevisedBy. -/
def revE (t : Int) (l : List Int) (s : Int) : Int := if okR t l = true ∧ okS t s = true then rev l s else -1
theorem sRevisedBy_eq (t : Int) (l : List Int) (s : Int) (k : Nat) (hl : l.length ≤ 2000000) (hk : l.length + 30 < k) : spec_RevisedBy.f k t l s = some (revE t l s) := by
  unfold spec_RevisedBy.f revE
  rw [sRankOk_eq t l k hl (by omega)]
  simp only [Option.bind_some]
  cases hr : okR t l with
  | false => simp
  | true =>
    rw [if_pos rfl, sSetOk_eq]
    simp only [Option.bind_some]
    cases hs : okS t s with
    | false => simp
    | true =>
      obtain ⟨h1, h2, h3, h4, h5, h6⟩ := okR_cases hr
      obtain ⟨g1, g2, g3, g4⟩ := okS_cases hs
      rw [if_pos rfl, sl2Least_eq l s k h6 g2 (by omega)]
      simp
theorem RevisedBy_eq (t : Int) (l : List Int) (s : Int) (k : Nat) (hk : 20 ≤ k) : impl_RevisedBy.f k t l s = some (revE t l s) := by
  unfold impl_RevisedBy.f revE
  rw [isRank_eq t l k hk]
  simp only [Option.bind_some]
  cases hr : okR t l with
  | false => simp
  | true =>
    rw [if_pos rfl, isSet_eq]
    simp only [Option.bind_some]
    cases hs : okS t s with
    | false => simp
    | true =>
      obtain ⟨h1, h2, h3, h4, h5, h6⟩ := okR_cases hr
      obtain ⟨g1, g2, g3, g4⟩ := okS_cases hs
      have : impl_revisedBy.f t l s = some (rev l s) := by unfold impl_revisedBy.f; rw [if_pos ⟨h1, h2, g2, g4⟩]
      rw [if_pos rfl, this]
      simp
end Go.Proofs.Ytogifggjcdcodaa.L
namespace Go.Proofs.Ytogifggjcdcodaa.Pure
open Go.RowKit Go.Proofs.Ytogifggjcdcodaa.B Go.Proofs.Ytogifggjcdcodaa.P Go.Proofs.Ytogifggjcdcodaa.Hand Go.Proofs.Ytogifggjcdcodaa.L Go.Proofs.YtogifggjcdcodaaW.PrintWords Go.Proofs.YtogifggjcdcodaaW.PrintLast Go.Proofs.YtogifggjcdcodaaW.PrintMore
set_option linter.unusedVariables false
set_option linter.unusedSimpArgs false
theorem FnExactRevisedBy : laws_FnExactRevisedBy.Pure := by
  intro t l s _ _ _ _ _
  obtain ⟨k, hk⟩ : ∃ k : Nat, l.length + 100000 ≤ k := ⟨_, Nat.le_refl _⟩
  refine ⟨k, ?_⟩
  unfold laws_FnExactRevisedBy.f
  by_cases hl : (l.length : Int) > 1048576
  · rw [if_pos hl]
  · rw [if_neg hl, toIntS_eq l _ (by omega) (by omega)]
    simp only [Option.bind_some]
    rw [sRevisedBy_eq t l s _ (by omega) (by omega)]
    simp only [Option.bind_some]
    rw [RevisedBy_eq t l s _ (by omega)]
    simp only [Option.bind_some]
    rw [if_pos trivial, eqIntS_refl l _ (by omega) (by omega)]
    simp
end Go.Proofs.Ytogifggjcdcodaa.Pure
