/- The law that the program's GivenUp is the reference's answers true, for all arguments. -/
import Derived.Test.YtogifggjcdcodaaHm
import Derived.Test.YtogifggjcdcodaaHandF
import Derived.Test.YtogifggjcdcodaaSx1
import Derived.Test.YtogifggjcdcodaaSx2
namespace Go.Proofs.Ytogifggjcdcodaa.L
open Go.RowKit Go.Proofs.Ytogifggjcdcodaa.B Go.Proofs.Ytogifggjcdcodaa.S Go.Proofs.Ytogifggjcdcodaa.Hand Go.Proofs.YtogifggjcdcodaaW.PrintWords Go.Proofs.YtogifggjcdcodaaW.PrintLast Go.Proofs.YtogifggjcdcodaaW.PrintMore
set_option linter.unusedVariables false
set_option linter.unusedSimpArgs false
theorem toIntS_l0 (x0 : List Int) (hl : x0.length ≤ 2000000) : ∀ (d i k : Nat) (x3 : List Int), i + d = x0.length → d < k → x3.length = x0.length → (∀ j, j < i → x3[j]? = x0[j]?) → laws_toIntS.l0 k x0 x3 i = some x0 := by
  intro d
  induction d with
  | zero =>
    intro i k x3 hi hk h3 hj
    obtain ⟨m, rfl⟩ : ∃ m, k = m + 1 := ⟨k - 1, by omega⟩
    simp only [laws_toIntS.l0]
    rw [if_neg (by omega)]
    congr 1
    apply List.ext_getElem?
    intro j
    by_cases h : j < i
    · exact hj j h
    · rw [List.getElem?_eq_none (by omega), List.getElem?_eq_none (by omega)]
  | succ d ih =>
    intro i k x3 hi hk h3 hj
    obtain ⟨m, rfl⟩ : ∃ m, k = m + 1 := ⟨k - 1, by omega⟩
    simp only [laws_toIntS.l0]
    rw [if_pos (by omega), if_pos (by omega), if_pos (by omega), next64 i (by omega), Int.toNat_natCast]
    refine ih (i + 1) m _ (by omega) (by omega) (by simp [h3]) (fun j hj2 => ?_)
    rw [List.getElem?_set]
    by_cases e : i = j
    · subst e
      rw [if_pos rfl, if_pos (by omega), rd_get x0 i (by omega)]
    · rw [if_neg e]
      exact hj j (by omega)
theorem toIntS_eq (l : List Int) (k : Nat) (hl : l.length ≤ 2000000) (hk : l.length < k) : laws_toIntS.f k l = some l := by
  unfold laws_toIntS.f
  rw [if_pos (by omega), if_pos (by omega)]
  exact toIntS_l0 l hl l.length 0 k _ (by omega) hk (by simp) (fun j hj => absurd hj (by omega))
theorem eqIntS_l0 (x : List Int) (hl : x.length ≤ 2000000) : ∀ (d i k : Nat), i + d = x.length → d < k → laws_eqIntS.l0 k x x i = some true := by
  intro d
  induction d with
  | zero =>
    intro i k hi hk
    obtain ⟨m, rfl⟩ : ∃ m, k = m + 1 := ⟨k - 1, by omega⟩
    simp only [laws_eqIntS.l0]
    rw [if_neg (by omega)]
  | succ d ih =>
    intro i k hi hk
    obtain ⟨m, rfl⟩ : ∃ m, k = m + 1 := ⟨k - 1, by omega⟩
    simp only [laws_eqIntS.l0]
    rw [if_pos (by omega), if_pos (by omega), if_pos (by omega), if_pos trivial, next64 i (by omega)]
    exact ih (i + 1) m (by omega) (by omega)
theorem eqIntS_refl (l : List Int) (k : Nat) (hl : l.length ≤ 2000000) (hk : l.length < k) : laws_eqIntS.f k l l = some true := by
  unfold laws_eqIntS.f
  rw [if_pos rfl]
  exact eqIntS_l0 l hl l.length 0 k (by omega) hk
end Go.Proofs.Ytogifggjcdcodaa.L
namespace Go.Proofs.Ytogifggjcdcodaa.L
open Go.RowKit Go.Proofs.Ytogifggjcdcodaa.B Go.Proofs.Ytogifggjcdcodaa.S Go.Proofs.Ytogifggjcdcodaa.Hand Go.Proofs.YtogifggjcdcodaaW.PrintWords Go.Proofs.YtogifggjcdcodaaW.PrintLast Go.Proofs.YtogifggjcdcodaaW.PrintMore
set_option linter.unusedVariables false
set_option linter.unusedSimpArgs false
theorem l1In_eq (a b c : Int) : spec_l1In.f a b c = some (decide (b ≤ a) && decide (a ≤ c)) := by
  unfold spec_l1In.f
  by_cases h : a ≥ b
  · rw [if_pos h]; simp [show b ≤ a from h]
  · rw [if_neg h]; simp [show ¬ b ≤ a from h]
theorem l1In_13 (a : Int) : spec_l1In.f a 1 3 = some (okT a) := l1In_eq a 1 3
theorem l1All_eq (a : Int) (h : okT a = true) : spec_l1All.f a = some (allW a) := by
  unfold spec_l1All.f allF; rw [if_pos h]
theorem sSetOk_eq (t s : Int) : spec_SetOk.f t s = some (okS t s) := by
  unfold spec_SetOk.f okS
  rw [l1In_13]
  simp only [Option.bind_some]
  cases h : okT t with
  | false => simp
  | true =>
    rw [l1All_eq t h]
    simp [l1In_eq]
end Go.Proofs.Ytogifggjcdcodaa.L
namespace Go.Proofs.Ytogifggjcdcodaa.L
open Go.RowKit Go.Proofs.Ytogifggjcdcodaa.B Go.Proofs.Ytogifggjcdcodaa.S Go.Proofs.Ytogifggjcdcodaa.Hand Go.Proofs.YtogifggjcdcodaaW.PrintWords Go.Proofs.YtogifggjcdcodaaW.PrintLast Go.Proofs.YtogifggjcdcodaaW.PrintMore
set_option linter.unusedVariables false
set_option linter.unusedSimpArgs false
theorem sRankOk_l0 (t : Int) (l : List Int) (hl : l.length ≤ 2000000) : ∀ (d i k : Nat) (m : Int), i + d = l.length → d < k →
    spec_RankOk.l0 k t l m i = some ((l.drop i).all (fun x => decide (0 ≤ x) && decide (x ≤ 9)) && (okT t && (decide ((l.length : Int) = nW t) && (mnL m (l.drop i) == 0)))) := by
  intro d
  induction d with
  | zero =>
    intro i k m hi hk
    obtain ⟨q, rfl⟩ : ∃ q, k = q + 1 := ⟨k - 1, by omega⟩
    simp only [spec_RankOk.l0]
    rw [if_neg (by omega), List.drop_eq_nil_of_le (by omega), l1In_13]
    simp only [Option.bind_some]
    cases ht : okT t with
    | false => simp
    | true =>
      have hpos : 0 ≤ t := by rcases okT_cases ht with rfl | rfl | rfl <;> omega
      rw [if_pos rfl, if_pos hpos, (nW_pos ht).2.2]
      by_cases h : (l.length : Int) = nW t
      · rw [if_pos h]; simp [h, mnL]
      · rw [if_neg h]; simp [h]
  | succ d ih =>
    intro i k m hi hk
    obtain ⟨q, rfl⟩ : ∃ q, k = q + 1 := ⟨k - 1, by omega⟩
    simp only [spec_RankOk.l0]
    rw [if_pos (by omega), if_pos (by omega), l1In_eq, drop_cons l i (by omega)]
    simp only [Option.bind_some, List.all_cons]
    cases hx : (decide (0 ≤ rd l (i : Int)) && decide (rd l (i : Int) ≤ 9)) with
    | false => simp
    | true =>
      rw [if_pos rfl, next64 i (by omega), ih (i + 1) q _ (by omega) (by omega)]
      simp [mnL]
theorem sRankOk_eq (t : Int) (l : List Int) (k : Nat) (hl : l.length ≤ 2000000) (hk : l.length < k) : spec_RankOk.f k t l = some (okR t l) := by
  have h := sRankOk_l0 t l hl l.length 0 k 9 (by omega) hk
  unfold spec_RankOk.f
  rw [show ((0 : Nat) : Int) = 0 from rfl] at h
  rw [h]
  congr 1
  rw [List.drop_zero]
  unfold okR
  have a1 := mnL_le l 9
  have a2 := mnL_mem l 9
  rw [Bool.eq_iff_iff]
  simp only [Bool.and_eq_true, List.all_eq_true, List.any_eq_true, decide_eq_true_eq, beq_iff_eq]
  constructor
  · rintro ⟨h1, h2, h3, h4⟩
    rcases a2 with h | h
    · omega
    · exact ⟨h2, h3, h1, _, h, h4⟩
  · rintro ⟨h2, h3, h1, x, hx, rfl⟩
    refine ⟨h1, h2, h3, ?_⟩
    have := a1.2 0 hx
    rcases a2 with h | h
    · have := h1 _ hx; omega
    · have := h1 _ h; omega
end Go.Proofs.Ytogifggjcdcodaa.L
namespace Go.Proofs.Ytogifggjcdcodaa.L
open Go.RowKit Go.Proofs.Ytogifggjcdcodaa.B Go.Proofs.Ytogifggjcdcodaa.S Go.Proofs.Ytogifggjcdcodaa.Hand Go.Proofs.YtogifggjcdcodaaW.PrintWords Go.Proofs.YtogifggjcdcodaaW.PrintLast Go.Proofs.YtogifggjcdcodaaW.PrintMore
set_option linter.unusedVariables false
set_option linter.unusedSimpArgs false
theorem xor_i64 (a b : Nat) (ha : a < 2 ^ 62) (hb : b < 2 ^ 62) : bits .xor .i64 a b = ((a ^^^ b : Nat) : Int) := by
  have hx : a ^^^ b < 2 ^ 62 := Nat.xor_lt_two_pow ha hb
  simp only [bits, BitVec.ofInt_natCast, BitVec.toNat_xor, BitVec.toNat_ofNat]
  have e : IntKind.i64.bits = 64 := rfl
  rw [e, Nat.mod_eq_of_lt (by omega), Nat.mod_eq_of_lt (by omega)]
  exact wraps_i64 _ (by omega) (by omega)
end Go.Proofs.Ytogifggjcdcodaa.L
namespace Go.Proofs.Ytogifggjcdcodaa.L
open Go.RowKit Go.Proofs.Ytogifggjcdcodaa.B Go.Proofs.Ytogifggjcdcodaa.S Go.Proofs.Ytogifggjcdcodaa.Hand Go.Proofs.YtogifggjcdcodaaW.PrintWords Go.Proofs.YtogifggjcdcodaaW.PrintLast Go.Proofs.YtogifggjcdcodaaW.PrintMore
set_option linter.unusedVariables false
set_option linter.unusedSimpArgs false
theorem bit_nat (a w : Nat) (hw : w ≤ 62) : spec_l1Bit.f (a : Int) (w : Int) = some (if a.testBit w = true then 1 else 0) := by
  unfold spec_l1Bit.f
  rw [if_pos (by omega), shr_nat a w hw, tmod2]
theorem both_l0 (a b : Nat) : ∀ (d w k : Nat), w + d = 8 → d < k →
    spec_l1Both.l0 k a b (sumN w (fun i => a.testBit i && b.testBit i) : Nat) w = some ((sumN 8 (fun i => a.testBit i && b.testBit i) : Nat) : Int) := by
  intro d
  induction d with
  | zero =>
    intro w k hw hk
    obtain ⟨m, rfl⟩ : ∃ m, k = m + 1 := ⟨k - 1, by omega⟩
    obtain rfl : w = 8 := by omega
    simp only [spec_l1Both.l0]
    rw [if_neg (by omega)]
  | succ d ih =>
    intro w k hw hk
    obtain ⟨m, rfl⟩ : ∃ m, k = m + 1 := ⟨k - 1, by omega⟩
    have hlt := sumN_lt w (fun i => a.testBit i && b.testBit i)
    have hp : 2 ^ w ≤ 2 ^ 7 := Nat.pow_le_pow_right (by decide) (by omega)
    have e1 : wrap64 ((w : Int) + 1) = ((w + 1 : Nat) : Int) := by rw [w64 (by omega) (by omega)]; simp
    have key : ∀ x y : Bool, wrap64 (((sumN w (fun i => a.testBit i && b.testBit i) : Nat) : Int) + shl .i64 (wrap64 ((if x = true then 1 else 0) * (if y = true then 1 else 0))) (w : Int)) = ((sumN w (fun i => a.testBit i && b.testBit i) + (if (x && y) = true then 2 ^ w else 0) : Nat) : Int) := by
      intro x y
      generalize sumN w (fun i => a.testBit i && b.testBit i) = q at hlt
      have s0 : shl .i64 (wrap64 0) (w : Int) = 0 := by
        have := shl_nat 0 w (by omega) (by omega)
        rw [Nat.zero_mul] at this
        rw [show wrap64 0 = 0 from w64 (by omega) (by omega)]
        exact this
      have s1 : shl .i64 (wrap64 1) (w : Int) = ((2 ^ w : Nat) : Int) := by
        have := shl_nat 1 w (by omega) (by omega)
        rw [Nat.one_mul] at this
        rw [show wrap64 1 = 1 from w64 (by omega) (by omega)]
        exact this
      generalize 2 ^ w = e at s1 hlt hp
      cases x <;> cases y
      · show wrap64 ((q : Int) + shl .i64 (wrap64 0) (w : Int)) = _
        rw [s0, w64 (by omega) (by omega)]; simp
      · show wrap64 ((q : Int) + shl .i64 (wrap64 0) (w : Int)) = _
        rw [s0, w64 (by omega) (by omega)]; simp
      · show wrap64 ((q : Int) + shl .i64 (wrap64 0) (w : Int)) = _
        rw [s0, w64 (by omega) (by omega)]; simp
      · show wrap64 ((q : Int) + shl .i64 (wrap64 1) (w : Int)) = _
        rw [s1, w64 (by omega) (by omega)]; simp
    have key := key (a.testBit w) (b.testBit w)
    rw [show sumN w (fun i => a.testBit i && b.testBit i) + (if (a.testBit w && b.testBit w) = true then 2 ^ w else 0) = sumN (w + 1) (fun i => a.testBit i && b.testBit i) from rfl] at key
    simp only [spec_l1Both.l0]
    rw [if_pos (by omega), bit_nat a w (by omega)]
    simp only [Option.bind_some]
    rw [bit_nat b w (by omega)]
    simp only [Option.bind_some]
    rw [if_pos (by omega), key, e1]
    exact ih (w + 1) m (by omega) (by omega)
/-- What is in both sets. -/
theorem both_nat (a b k : Nat) (ha : a < 256) (hk : 9 ≤ k) : spec_l1Both.f k (a : Int) (b : Int) = some ((a &&& b : Nat) : Int) := by
  have h := both_l0 a b 8 0 k (by omega) (by omega)
  have e : sumN 8 (fun i => a.testBit i && b.testBit i) = a &&& b := by
    have h2 : a &&& b < 2 ^ 8 := Nat.lt_of_le_of_lt Nat.and_le_left ha
    rw [← sumN_bits 8 (a &&& b) h2]
    exact sumN_congr _ _ _ fun i _ => by rw [Nat.testBit_and]
  rw [e] at h
  unfold spec_l1Both.f
  simpa [sumN] using h
end Go.Proofs.Ytogifggjcdcodaa.L
namespace Go.Proofs.Ytogifggjcdcodaa.L
open Go.RowKit Go.Proofs.Ytogifggjcdcodaa.Hand Go.Proofs.YtogifggjcdcodaaW.PrintWords
set_option linter.unusedVariables false
set_option linter.unusedSimpArgs false
theorem rd_mem (l : List Int) (i : Nat) (h : i < l.length) : rd l (i : Int) ∈ l := by
  unfold rd
  rw [Int.toNat_natCast, List.getD_eq_getElem?_getD, List.getElem?_eq_getElem h]; exact List.getElem_mem h
theorem mem_rd {l : List Int} {x : Int} (h : x ∈ l) : ∃ i : Nat, i < l.length ∧ rd l (i : Int) = x := by
  obtain ⟨i, hi, e⟩ := List.mem_iff_getElem.1 h
  refine ⟨i, hi, ?_⟩
  unfold rd
  rw [Int.toNat_natCast, List.getD_eq_getElem?_getD, List.getElem?_eq_getElem hi]; exact e
/-- Two rows of ranks are in the same order. -/
def Same (a b : List Int) : Prop := a.length = b.length ∧ ∀ i j : Nat, i < a.length → j < a.length → (rd a (i : Int) ≤ rd a (j : Int) ↔ rd b (i : Int) ≤ rd b (j : Int))
theorem Same.symm {a b : List Int} (h : Same a b) : Same b a := ⟨h.1.symm, fun i j hi hj => (h.2 i j (by rw [h.1]; exact hi) (by rw [h.1]; exact hj)).symm⟩
theorem leastN_le (l : List Int) (s : Int) : ∀ n, leastN l s n ≤ 10 ∧ ∀ v : Nat, v < n → bit s v = true → leastN l s n ≤ rd l (v : Int)
  | 0 => ⟨Int.le_refl _, fun v hv => absurd hv (by omega)⟩
  | n + 1 => by
    obtain ⟨h1, h2⟩ := leastN_le l s n
    simp only [leastN]
    cases hb : bit s n with
    | true =>
      rw [if_pos rfl]
      have hm : mn (leastN l s n) (rd l (n : Int)) ≤ leastN l s n ∧ mn (leastN l s n) (rd l (n : Int)) ≤ rd l (n : Int) := by unfold mn; split <;> omega
      refine ⟨Int.le_trans hm.1 h1, fun v hv hbv => ?_⟩
      rcases Nat.lt_or_ge v n with h3 | h3
      · exact Int.le_trans hm.1 (h2 v h3 hbv)
      · obtain rfl : v = n := by omega
        exact hm.2
    | false =>
      rw [if_neg (by simp)]
      refine ⟨h1, fun v hv hbv => ?_⟩
      rcases Nat.lt_or_ge v n with h3 | h3
      · exact h2 v h3 hbv
      · obtain rfl : v = n := by omega
        rw [hb] at hbv; cases hbv
theorem leastN_mem (l : List Int) (s : Int) : ∀ n, leastN l s n = 10 ∨ ∃ v : Nat, v < n ∧ bit s v = true ∧ rd l (v : Int) = leastN l s n
  | 0 => .inl rfl
  | n + 1 => by
    simp only [leastN]
    cases hb : bit s n with
    | true =>
      rw [if_pos rfl]
      have hm : mn (leastN l s n) (rd l (n : Int)) = leastN l s n ∨ mn (leastN l s n) (rd l (n : Int)) = rd l (n : Int) := by unfold mn; split <;> simp
      rcases hm with hm | hm
      · rcases leastN_mem l s n with h | ⟨v, h1, h2, h3⟩
        · left; rw [hm, h]
        · right; exact ⟨v, by omega, h2, by rw [hm, h3]⟩
      · right; exact ⟨n, by omega, hb, hm.symm⟩
    | false =>
      rw [if_neg (by simp)]
      rcases leastN_mem l s n with h | ⟨v, h1, h2, h3⟩
      · exact .inl h
      · exact .inr ⟨v, by omega, h2, h3⟩
/-- A world has the least rank of a set just if no world of the set has a lesser one. -/
theorem least_iff (l : List Int) (s : Int) (h9 : ∀ y ∈ l, y ≤ 9) (w : Nat) (hw : w < l.length) (hb : bit s w = true) :
    (rd l (w : Int) == least l s) = true ↔ ∀ v : Nat, v < l.length → bit s v = true → rd l (w : Int) ≤ rd l (v : Int) := by
  have h1 := leastN_le l s l.length
  have h2 := leastN_mem l s l.length
  rw [beq_iff_eq]
  constructor
  · intro h v hv hbv
    rw [h]
    exact h1.2 v hv hbv
  · intro h
    have h3 := h1.2 w hw hb
    have h4 := h9 _ (rd_mem l w hw)
    unfold least
    rcases h2 with h2 | ⟨v, hv, hbv, e⟩
    · omega
    · have := h v hv hbv
      omega
theorem Same.rev {a b : List Int} (h : Same a b) (ha : ∀ y ∈ a, y ≤ 9) (hb : ∀ y ∈ b, y ≤ 9) (s : Int) : rev a s = rev b s := by
  unfold Hand.rev
  rw [← h.1]
  congr 1
  apply sumN_congr
  intro w hw
  have hw2 : w < b.length := by rw [← h.1]; exact hw
  cases hbw : bit s w with
  | false => rfl
  | true =>
    rw [Bool.true_and, Bool.true_and, Bool.eq_iff_iff, least_iff a s ha w hw hbw, least_iff b s hb w hw2 hbw]
    constructor
    · intro h3 v hv hbv
      exact (h.2 w v hw (by rw [h.1]; exact hv)).1 (h3 v (by rw [h.1]; exact hv) hbv)
    · intro h3 v hv hbv
      exact (h.2 w v hw hv).2 (h3 v (by rw [← h.1]; exact hv) hbv)
end Go.Proofs.Ytogifggjcdcodaa.L
namespace Go.Proofs.Ytogifggjcdcodaa.L
open Go.RowKit Go.Proofs.Ytogifggjcdcodaa.B Go.Proofs.Ytogifggjcdcodaa.S Go.Proofs.Ytogifggjcdcodaa.Hand Go.Proofs.YtogifggjcdcodaaW.PrintWords Go.Proofs.YtogifggjcdcodaaW.PrintLast Go.Proofs.YtogifggjcdcodaaW.PrintMore
set_option linter.unusedVariables false
set_option linter.unusedSimpArgs false
theorem par (x : Nat) : x % 2 = if x.testBit 0 = true then 1 else 0 := by
  rw [Nat.testBit_zero]
  rcases Nat.mod_two_eq_zero_or_one x with h | h <;> simp [h]
theorem or_add (a b : Nat) : (a ||| b) + (a &&& b) = a + b := by
  induction a using Nat.strongRecOn generalizing b with
  | _ a ih =>
    rcases Nat.eq_zero_or_pos a with rfl | h
    · simp
    · have h1 := ih (a / 2) (by omega) (b / 2)
      have e1 : (a ||| b) / 2 = a / 2 ||| b / 2 := Nat.or_div_two
      have e2 : (a &&& b) / 2 = a / 2 &&& b / 2 := Nat.and_div_two
      have e3 : (a ||| b) % 2 + (a &&& b) % 2 = a % 2 + b % 2 := by
        have t1 := par (a ||| b)
        have t2 := par (a &&& b)
        have t3 := par a
        have t4 := par b
        rw [t1, t2, t3, t4, Nat.testBit_or, Nat.testBit_and]
        cases a.testBit 0 <;> cases b.testBit 0 <;> rfl
      have d1 := Nat.div_add_mod (a ||| b) 2
      have d2 := Nat.div_add_mod (a &&& b) 2
      omega
theorem allW_pow {t : Int} (h : okT t = true) : (allW t).toNat + 1 = 2 ^ (nW t).toNat ∧ (nW t).toNat ≤ 8 ∧ 2 ≤ (nW t).toNat := by
  rcases okT_cases h with rfl | rfl | rfl <;> decide
/-- What is not in a set of the worlds below n. -/
theorem sub_xor (n s : Nat) (h : s < 2 ^ n) : (2 ^ n - 1) - s = (2 ^ n - 1) ^^^ s := by
  apply Nat.eq_of_testBit_eq
  intro i
  rw [Nat.testBit_xor, show 2 ^ n - 1 - s = 2 ^ n - (s + 1) by omega, Nat.testBit_two_pow_sub_succ h, Nat.testBit_two_pow_sub_one]
  by_cases hi : i < n
  · simp [hi]
  · have : s.testBit i = false := Nat.testBit_lt_two_pow (Nat.lt_of_lt_of_le h (Nat.pow_le_pow_right (by decide) (by omega)))
    simp [hi, this]
/-- The rest of a set. -/
theorem rest_eq (t : Int) (s : Nat) (ht : okT t = true) (h : (s : Int) ≤ allW t) : wrap64 (allW t - (s : Int)) = (((allW t).toNat ^^^ s : Nat) : Int) := by
  obtain ⟨h1, h2, h3⟩ := allW_pow ht
  have hr := allW_range ht
  rw [w64 (by omega) (by omega)]
  have e : (allW t).toNat = 2 ^ (nW t).toNat - 1 := by omega
  have := sub_xor (nW t).toNat s (by omega)
  rw [e, ← this]
  omega
theorem either_nat (a b k : Nat) (ha : a < 256) (hb : b < 256) (hk : 9 ≤ k) : spec_l1Either.f k (a : Int) (b : Int) = some ((a ||| b : Nat) : Int) := by
  unfold spec_l1Either.f
  rw [both_nat a b k ha hk]
  simp only [Option.bind_some]
  have h := or_add a b
  have h2 : a &&& b ≤ a := Nat.and_le_left
  rw [w64 (n := (a : Int) + b) (by omega) (by omega), w64 (by omega) (by omega)]
  congr 1; omega
theorem bit_step (q i : Nat) (P : Nat → Bool) (hi : i ≤ 8) (hP : P i = true) : wrap64 ((sumN i P : Nat) + shl .i64 1 (i : Int)) = ((sumN (i + 1) P : Nat) : Int) := by
  have hlt := sumN_lt i P
  have hp : 2 ^ i ≤ 2 ^ 8 := Nat.pow_le_pow_right (by decide) hi
  have s1 : shl .i64 1 (i : Int) = ((2 ^ i : Nat) : Int) := by
    have := shl_nat 1 i (by omega) (by omega)
    rw [Nat.one_mul] at this
    exact this
  have e : sumN (i + 1) P = sumN i P + 2 ^ i := by simp [sumN, hP]
  rw [s1, e]
  generalize 2 ^ i = m at *
  rw [w64 (by omega) (by omega)]; simp
theorem sl2_l1 (a : Nat) (l : List Int) (m : Int) (hl : l.length ≤ 8) : ∀ (d i k : Nat), i + d = l.length → d < k →
    spec_l2Least.l1 k l a m (sumN i (fun w => a.testBit w && (rd l (w : Int) == m)) : Nat) i = some ((sumN l.length (fun w => a.testBit w && (rd l (w : Int) == m)) : Nat) : Int) := by
  intro d
  induction d with
  | zero =>
    intro i k hi hk
    obtain ⟨q, rfl⟩ : ∃ q, k = q + 1 := ⟨k - 1, by omega⟩
    obtain rfl : i = l.length := by omega
    simp only [spec_l2Least.l1]
    rw [if_neg (by omega)]
  | succ d ih =>
    intro i k hi hk
    obtain ⟨q, rfl⟩ : ∃ q, k = q + 1 := ⟨k - 1, by omega⟩
    have ih1 := ih (i + 1) q (by omega) (by omega)
    simp only [spec_l2Least.l1]
    rw [if_pos (by omega), bit_nat a i (by omega), next64 i (by omega)]
    simp only [Option.bind_some]
    cases ht : a.testBit i with
    | true =>
      rw [if_pos rfl, if_pos (by omega)]
      by_cases hm : rd l (i : Int) = m
      · rw [if_pos hm, bit_step 0 i (fun w => a.testBit w && (rd l (w : Int) == m)) (by omega) (by simp [ht, hm])]
        exact ih1
      · rw [if_neg hm]
        rw [sumN_skip i _ (by simp [ht, hm])] at ih1
        exact ih1
    | false =>
      rw [if_neg (by simp)]
      rw [sumN_skip i _ (by simp [ht])] at ih1
      exact ih1
theorem sl2_l0 (a : Nat) (l : List Int) (hl : l.length ≤ 8) : ∀ (d i k : Nat), i + d = l.length → d + l.length + 1 < k →
    spec_l2Least.l0 k l a (leastN l a i) i = some (rev l (a : Int)) := by
  intro d
  induction d with
  | zero =>
    intro i k hi hk
    obtain ⟨q, rfl⟩ : ∃ q, k = q + 1 := ⟨k - 1, by omega⟩
    obtain rfl : i = l.length := by omega
    simp only [spec_l2Least.l0]
    rw [if_neg (by omega)]
    have h := sl2_l1 a l (least l a) hl l.length 0 q (by omega) (by omega)
    unfold rev bit
    rw [Int.toNat_natCast]
    exact h
  | succ d ih =>
    intro i k hi hk
    obtain ⟨q, rfl⟩ : ∃ q, k = q + 1 := ⟨k - 1, by omega⟩
    have hb : bit (a : Int) i = a.testBit i := by unfold bit; simp
    have ih1 := ih (i + 1) q (by omega) (by omega)
    simp only [leastN, hb] at ih1
    simp only [spec_l2Least.l0]
    rw [if_pos (by omega), bit_nat a i (by omega), next64 i (by omega)]
    simp only [Option.bind_some]
    cases ht : a.testBit i with
    | true => rw [ht, if_pos rfl] at ih1; rw [if_pos rfl, if_pos (by omega)]; exact ih1
    | false => rw [ht, if_neg (by simp)] at ih1; rw [if_neg (by simp)]; exact ih1
theorem sl2Least_eq (l : List Int) (s : Int) (k : Nat) (hl : l.length ≤ 8) (h0 : 0 ≤ s) (hk : 20 ≤ k) : spec_l2Least.f k l s = some (rev l s) := by
  obtain ⟨a, rfl⟩ := Int.eq_ofNat_of_zero_le h0
  exact sl2_l0 a l hl l.length 0 k (by omega) (by omega)
theorem leastN_ge (l : List Int) (s : Int) (h : ∀ x ∈ l, 0 ≤ x) : ∀ n, n ≤ l.length → 0 ≤ leastN l s n
  | 0, _ => by unfold leastN; decide
  | n + 1, hn => by
    have ih := leastN_ge l s h n (by omega)
    have hx := h _ (by unfold rd; rw [Int.toNat_natCast, List.getD_eq_getElem?_getD, List.getElem?_eq_getElem (show n < l.length by omega)]; exact List.getElem_mem _ : rd l (n : Int) ∈ l)
    unfold leastN
    split
    · unfold mn; split <;> omega
    · exact ih
end Go.Proofs.Ytogifggjcdcodaa.L
namespace Go.Proofs.Ytogifggjcdcodaa.L
open Go.RowKit Go.Proofs.Ytogifggjcdcodaa.B Go.Proofs.Ytogifggjcdcodaa.S Go.Proofs.Ytogifggjcdcodaa.Hand Go.Proofs.YtogifggjcdcodaaW.PrintWords Go.Proofs.YtogifggjcdcodaaW.PrintLast Go.Proofs.YtogifggjcdcodaaW.PrintMore
set_option linter.unusedVariables false
set_option linter.unusedSimpArgs false
theorem bit_all {t : Int} (h : okT t = true) (w : Nat) (hw : w < (nW t).toNat) : bit (allW t) w = true := by
  obtain ⟨h1, h2, h3⟩ := allW_pow h
  unfold bit
  rw [show (allW t).toNat = 2 ^ (nW t).toNat - 1 by omega, Nat.testBit_two_pow_sub_one]
  simpa using hw
theorem rev_all {t : Int} {l : List Int} (h : okR t l = true) : rev l (allW t) = core l := by
  obtain ⟨h1, h2, h3, h4, h5, h6⟩ := okR_cases h
  have hn : l.length = (nW t).toNat := by omega
  obtain ⟨i, hi, hx⟩ := L.mem_rd h4
  have hz : least l (allW t) = 0 := by
    have a1 := leastN_ge l (allW t) (fun x hx => (h3 x hx).1) l.length (Nat.le_refl _)
    have a2 := (leastN_le l (allW t) l.length).2 i hi (bit_all h1 i (by omega))
    unfold least
    omega
  unfold rev core
  rw [hz]
  congr 1
  exact sumN_congr _ _ _ fun w hw => by rw [bit_all h1 w (by omega), Bool.true_and]
theorem core_nat (l : List Int) (h : l.length ≤ 8) : ∃ c : Nat, core l = (c : Int) ∧ c < 256 := by
  refine ⟨sumN l.length (fun w => rd l (w : Int) == 0), rfl, ?_⟩
  exact Nat.lt_of_lt_of_le (sumN_lt _ _) (Nat.pow_le_pow_right (n := 2) (by decide) h)
theorem rev_nat (l : List Int) (s : Int) (h : l.length ≤ 8) : ∃ c : Nat, rev l s = (c : Int) ∧ c < 256 := by
  refine ⟨sumN l.length (fun w => bit s w && (rd l (w : Int) == least l s)), rfl, ?_⟩
  exact Nat.lt_of_lt_of_le (sumN_lt _ _) (Nat.pow_le_pow_right (n := 2) (by decide) h)
theorem set_nat {t s : Int} (h : okS t s = true) : ∃ a : Nat, s = (a : Int) ∧ a < 256 ∧ (a : Int) ≤ allW t := by
  obtain ⟨g1, g2, g3, g4⟩ := okS_cases h
  exact ⟨s.toNat, by omega, by omega, by omega⟩
theorem xor_lt (t : Int) (ht : okT t = true) (a : Nat) (h : a < 256) : (allW t).toNat ^^^ a < 256 := by
  have hr := allW_range ht
  exact Nat.xor_lt_two_pow (n := 8) (by omega) h
/-- GivenUp. -/
def givE (t : Int) (l : List Int) (s : Int) : Int := if okR t l = true ∧ okS t s = true then (((core l).toNat ||| (rev l (((allW t).toNat ^^^ s.toNat : Nat) : Int)).toNat : Nat) : Int) else -1
theorem sGivenUp_eq (t : Int) (l : List Int) (s : Int) (k : Nat) (hl : l.length ≤ 2000000) (hk : l.length + 40 < k) : spec_GivenUp.f k t l s = some (givE t l s) := by
  unfold spec_GivenUp.f givE
  rw [sRankOk_eq t l k hl (by omega)]
  simp only [Option.bind_some]
  obtain ⟨q, rfl⟩ : ∃ q, k = q + 1 := ⟨k - 1, by omega⟩
  cases hr : okR t l with
  | false => simp [spec_GivenUp.j0]
  | true =>
    rw [if_pos rfl, sSetOk_eq]
    simp only [Option.bind_some]
    cases hs : okS t s with
    | false => simp [spec_GivenUp.j0]
    | true =>
      obtain ⟨h1, h2, h3, h4, h5, h6⟩ := okR_cases hr
      have hA := allW_range h1
      obtain ⟨a, rfl, a1, a2⟩ := set_nat hs
      obtain ⟨c, hc, c1⟩ := core_nat l h6
      obtain ⟨d, hd, d1⟩ := rev_nat l (((allW t).toNat ^^^ a : Nat) : Int) h6
      simp only [spec_GivenUp.j0]
      rw [if_neg (by simp), l1All_eq t h1]
      simp only [Option.bind_some]
      rw [sl2Least_eq l (allW t) q h6 (by omega) (by omega), rev_all hr]
      simp only [Option.bind_some]
      rw [rest_eq t a h1 a2, sl2Least_eq l _ q h6 (by omega) (by omega)]
      simp only [Option.bind_some]
      rw [Int.toNat_natCast, hc, hd, either_nat c d q c1 d1 (by omega)]
      simp
theorem GivenUp_eq (t : Int) (l : List Int) (s : Int) (k : Nat) (hk : 20 ≤ k) : impl_GivenUp.f k t l s = some (givE t l s) := by
  unfold impl_GivenUp.f givE
  rw [isRank_eq t l k hk]
  simp only [Option.bind_some]
  cases hr : okR t l with
  | false => simp
  | true =>
    rw [if_pos rfl, isSet_eq]
    simp only [Option.bind_some]
    cases hs : okS t s with
    | false => simp
    | true =>
      obtain ⟨h1, h2, h3, h4, h5, h6⟩ := okR_cases hr
      have hA := allW_range h1
      obtain ⟨a, rfl, a1, a2⟩ := set_nat hs
      obtain ⟨c, hc, c1⟩ := core_nat l h6
      have hx := xor_lt t h1 a a1
      obtain ⟨d, hd, d1⟩ := rev_nat l (((allW t).toNat ^^^ a : Nat) : Int) h6
      have e1 : impl_coreOf.f t l = some (core l) := by unfold impl_coreOf.f; rw [if_pos ⟨h1, h2⟩]
      have e2 : Go.bits .xor .i64 (allW t) (a : Int) = (((allW t).toNat ^^^ a : Nat) : Int) := by
        have := xor_i64 (allW t).toNat a (by omega) (by omega)
        rw [show (((allW t).toNat : Nat) : Int) = allW t by omega] at this
        exact this
      have e3 : impl_revisedBy.f t l (((allW t).toNat ^^^ a : Nat) : Int) = some (rev l (((allW t).toNat ^^^ a : Nat) : Int)) := by unfold impl_revisedBy.f; rw [if_pos ⟨h1, h2, by omega, by omega⟩]
      rw [if_pos rfl]
      unfold impl_givenUp.f
      rw [e1]
      simp only [Option.bind_some]
      rw [allWorlds_eq t h1]
      simp only [Option.bind_some]
      rw [e2, e3]
      simp only [Option.bind_some]
      rw [Int.toNat_natCast, hc, hd, or_i64 c d (by omega) (by omega)]
      simp
end Go.Proofs.Ytogifggjcdcodaa.L
namespace Go.Proofs.Ytogifggjcdcodaa.Pure
open Go.RowKit Go.Proofs.Ytogifggjcdcodaa.B Go.Proofs.Ytogifggjcdcodaa.S Go.Proofs.Ytogifggjcdcodaa.Hand Go.Proofs.Ytogifggjcdcodaa.L Go.Proofs.YtogifggjcdcodaaW.PrintWords Go.Proofs.YtogifggjcdcodaaW.PrintLast Go.Proofs.YtogifggjcdcodaaW.PrintMore
set_option linter.unusedVariables false
set_option linter.unusedSimpArgs false
theorem FnExactGivenUp : laws_FnExactGivenUp.Pure := by
  intro t l s _ _ _ _ _
  obtain ⟨k, hk⟩ : ∃ k : Nat, l.length + 100000 ≤ k := ⟨_, Nat.le_refl _⟩
  refine ⟨k, ?_⟩
  unfold laws_FnExactGivenUp.f
  by_cases hl : (l.length : Int) > 1048576
  · rw [if_pos hl]
  · rw [if_neg hl, toIntS_eq l _ (by omega) (by omega)]
    simp only [Option.bind_some]
    rw [sGivenUp_eq t l s _ (by omega) (by omega)]
    simp only [Option.bind_some]
    rw [GivenUp_eq t l s _ (by omega)]
    simp only [Option.bind_some]
    rw [if_pos trivial, eqIntS_refl l _ (by omega) (by omega)]
    simp
end Go.Proofs.Ytogifggjcdcodaa.Pure
