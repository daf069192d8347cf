/- The law that the program's KeptBy is the reference's answers true, for all arguments. -/
import Derived.Test.YtogifggjcdcodaaHm
import Derived.Test.YtogifggjcdcodaaHandF
import Derived.Test.YtogifggjcdcodaaQx1
import Derived.Test.YtogifggjcdcodaaQx2
namespace Go.Proofs.Ytogifggjcdcodaa.L
open Go.RowKit Go.Proofs.Ytogifggjcdcodaa.B Go.Proofs.Ytogifggjcdcodaa.Q Go.Proofs.Ytogifggjcdcodaa.Hand Go.Proofs.YtogifggjcdcodaaW.PrintWords Go.Proofs.YtogifggjcdcodaaW.PrintLast Go.Proofs.YtogifggjcdcodaaW.PrintMore
set_option linter.unusedVariables false
set_option linter.unusedSimpArgs false
theorem toIntS_l0 (x0 : List Int) (hl : x0.length ≤ 2000000) : ∀ (d i k : Nat) (x3 : List Int), i + d = x0.length → d < k → x3.length = x0.length → (∀ j, j < i → x3[j]? = x0[j]?) → laws_toIntS.l0 k x0 x3 i = some x0 := by
  intro d
  induction d with
  | zero =>
    intro i k x3 hi hk h3 hj
    obtain ⟨m, rfl⟩ : ∃ m, k = m + 1 := ⟨k - 1, by omega⟩
    simp only [laws_toIntS.l0]
    rw [if_neg (by omega)]
    congr 1
    apply List.ext_getElem?
    intro j
    by_cases h : j < i
    · exact hj j h
    · rw [List.getElem?_eq_none (by omega), List.getElem?_eq_none (by omega)]
  | succ d ih =>
    intro i k x3 hi hk h3 hj
    obtain ⟨m, rfl⟩ : ∃ m, k = m + 1 := ⟨k - 1, by omega⟩
    simp only [laws_toIntS.l0]
    rw [if_pos (by omega), if_pos (by omega), if_pos (by omega), next64 i (by omega), Int.toNat_natCast]
    refine ih (i + 1) m _ (by omega) (by omega) (by simp [h3]) (fun j hj2 => ?_)
    rw [List.getElem?_set]
    by_cases e : i = j
    · subst e
      rw [if_pos rfl, if_pos (by omega), rd_get x0 i (by omega)]
    · rw [if_neg e]
      exact hj j (by omega)
theorem toIntS_eq (l : List Int) (k : Nat) (hl : l.length ≤ 2000000) (hk : l.length < k) : laws_toIntS.f k l = some l := by
  unfold laws_toIntS.f
  rw [if_pos (by omega), if_pos (by omega)]
  exact toIntS_l0 l hl l.length 0 k _ (by omega) hk (by simp) (fun j hj => absurd hj (by omega))
theorem eqIntS_l0 (x : List Int) (hl : x.length ≤ 2000000) : ∀ (d i k : Nat), i + d = x.length → d < k → laws_eqIntS.l0 k x x i = some true := by
  intro d
  induction d with
  | zero =>
    intro i k hi hk
    obtain ⟨m, rfl⟩ : ∃ m, k = m + 1 := ⟨k - 1, by omega⟩
    simp only [laws_eqIntS.l0]
    rw [if_neg (by omega)]
  | succ d ih =>
    intro i k hi hk
    obtain ⟨m, rfl⟩ : ∃ m, k = m + 1 := ⟨k - 1, by omega⟩
    simp only [laws_eqIntS.l0]
    rw [if_pos (by omega), if_pos (by omega), if_pos (by omega), if_pos trivial, next64 i (by omega)]
    exact ih (i + 1) m (by omega) (by omega)
theorem eqIntS_refl (l : List Int) (k : Nat) (hl : l.length ≤ 2000000) (hk : l.length < k) : laws_eqIntS.f k l l = some true := by
  unfold laws_eqIntS.f
  rw [if_pos rfl]
  exact eqIntS_l0 l hl l.length 0 k (by omega) hk
end Go.Proofs.Ytogifggjcdcodaa.L
namespace Go.Proofs.Ytogifggjcdcodaa.L
open Go.RowKit Go.Proofs.Ytogifggjcdcodaa.B Go.Proofs.Ytogifggjcdcodaa.Q Go.Proofs.Ytogifggjcdcodaa.Hand Go.Proofs.YtogifggjcdcodaaW.PrintWords Go.Proofs.YtogifggjcdcodaaW.PrintLast Go.Proofs.YtogifggjcdcodaaW.PrintMore
set_option linter.unusedVariables false
set_option linter.unusedSimpArgs false
theorem l1In_eq (a b c : Int) : spec_l1In.f a b c = some (decide (b ≤ a) && decide (a ≤ c)) := by
  unfold spec_l1In.f
  by_cases h : a ≥ b
  · rw [if_pos h]; simp [show b ≤ a from h]
  · rw [if_neg h]; simp [show ¬ b ≤ a from h]
theorem l1In_13 (a : Int) : spec_l1In.f a 1 3 = some (okT a) := l1In_eq a 1 3
theorem l1All_eq (a : Int) (h : okT a = true) : spec_l1All.f a = some (allW a) := by
  unfold spec_l1All.f allF; rw [if_pos h]
theorem sSetOk_eq (t s : Int) : spec_SetOk.f t s = some (okS t s) := by
  unfold spec_SetOk.f okS
  rw [l1In_13]
  simp only [Option.bind_some]
  cases h : okT t with
  | false => simp
  | true =>
    rw [l1All_eq t h]
    simp [l1In_eq]
end Go.Proofs.Ytogifggjcdcodaa.L
namespace Go.Proofs.Ytogifggjcdcodaa.L
open Go.RowKit Go.Proofs.Ytogifggjcdcodaa.B Go.Proofs.Ytogifggjcdcodaa.Q Go.Proofs.Ytogifggjcdcodaa.Hand Go.Proofs.YtogifggjcdcodaaW.PrintWords Go.Proofs.YtogifggjcdcodaaW.PrintLast Go.Proofs.YtogifggjcdcodaaW.PrintMore
set_option linter.unusedVariables false
set_option linter.unusedSimpArgs false
theorem sRankOk_l0 (t : Int) (l : List Int) (hl : l.length ≤ 2000000) : ∀ (d i k : Nat) (m : Int), i + d = l.length → d < k →
    spec_RankOk.l0 k t l m i = some ((l.drop i).all (fun x => decide (0 ≤ x) && decide (x ≤ 9)) && (okT t && (decide ((l.length : Int) = nW t) && (mnL m (l.drop i) == 0)))) := by
  intro d
  induction d with
  | zero =>
    intro i k m hi hk
    obtain ⟨q, rfl⟩ : ∃ q, k = q + 1 := ⟨k - 1, by omega⟩
    simp only [spec_RankOk.l0]
    rw [if_neg (by omega), List.drop_eq_nil_of_le (by omega), l1In_13]
    simp only [Option.bind_some]
    cases ht : okT t with
    | false => simp
    | true =>
      have hpos : 0 ≤ t := by rcases okT_cases ht with rfl | rfl | rfl <;> omega
      rw [if_pos rfl, if_pos hpos, (nW_pos ht).2.2]
      by_cases h : (l.length : Int) = nW t
      · rw [if_pos h]; simp [h, mnL]
      · rw [if_neg h]; simp [h]
  | succ d ih =>
    intro i k m hi hk
    obtain ⟨q, rfl⟩ : ∃ q, k = q + 1 := ⟨k - 1, by omega⟩
    simp only [spec_RankOk.l0]
    rw [if_pos (by omega), if_pos (by omega), l1In_eq, drop_cons l i (by omega)]
    simp only [Option.bind_some, List.all_cons]
    cases hx : (decide (0 ≤ rd l (i : Int)) && decide (rd l (i : Int) ≤ 9)) with
    | false => simp
    | true =>
      rw [if_pos rfl, next64 i (by omega), ih (i + 1) q _ (by omega) (by omega)]
      simp [mnL]
theorem sRankOk_eq (t : Int) (l : List Int) (k : Nat) (hl : l.length ≤ 2000000) (hk : l.length < k) : spec_RankOk.f k t l = some (okR t l) := by
  have h := sRankOk_l0 t l hl l.length 0 k 9 (by omega) hk
  unfold spec_RankOk.f
  rw [show ((0 : Nat) : Int) = 0 from rfl] at h
  rw [h]
  congr 1
  rw [List.drop_zero]
  unfold okR
  have a1 := mnL_le l 9
  have a2 := mnL_mem l 9
  rw [Bool.eq_iff_iff]
  simp only [Bool.and_eq_true, List.all_eq_true, List.any_eq_true, decide_eq_true_eq, beq_iff_eq]
  constructor
  · rintro ⟨h1, h2, h3, h4⟩
    rcases a2 with h | h
    · omega
    · exact ⟨h2, h3, h1, _, h, h4⟩
  · rintro ⟨h2, h3, h1, x, hx, rfl⟩
    refine ⟨h1, h2, h3, ?_⟩
    have := a1.2 0 hx
    rcases a2 with h | h
    · have := h1 _ hx; omega
    · have := h1 _ h; omega
end Go.Proofs.Ytogifggjcdcodaa.L
namespace Go.Proofs.Ytogifggjcdcodaa.L
open Go.RowKit Go.Proofs.Ytogifggjcdcodaa.B Go.Proofs.Ytogifggjcdcodaa.Q Go.Proofs.Ytogifggjcdcodaa.Hand Go.Proofs.YtogifggjcdcodaaW.PrintWords Go.Proofs.YtogifggjcdcodaaW.PrintLast Go.Proofs.YtogifggjcdcodaaW.PrintMore
set_option linter.unusedVariables false
set_option linter.unusedSimpArgs false
theorem xor_i64 (a b : Nat) (ha : a < 2 ^ 62) (hb : b < 2 ^ 62) : bits .xor .i64 a b = ((a ^^^ b : Nat) : Int) := by
  have hx : a ^^^ b < 2 ^ 62 := Nat.xor_lt_two_pow ha hb
  simp only [bits, BitVec.ofInt_natCast, BitVec.toNat_xor, BitVec.toNat_ofNat]
  have e : IntKind.i64.bits = 64 := rfl
  rw [e, Nat.mod_eq_of_lt (by omega), Nat.mod_eq_of_lt (by omega)]
  exact wraps_i64 _ (by omega) (by omega)
end Go.Proofs.Ytogifggjcdcodaa.L
namespace Go.Proofs.Ytogifggjcdcodaa.L
open Go.RowKit Go.Proofs.Ytogifggjcdcodaa.B Go.Proofs.Ytogifggjcdcodaa.Q Go.Proofs.Ytogifggjcdcodaa.Hand Go.Proofs.YtogifggjcdcodaaW.PrintWords Go.Proofs.YtogifggjcdcodaaW.PrintLast Go.Proofs.YtogifggjcdcodaaW.PrintMore
set_option linter.unusedVariables false
set_option linter.unusedSimpArgs false
theorem bit_nat (a w : Nat) (hw : w ≤ 62) : spec_l1Bit.f (a : Int) (w : Int) = some (if a.testBit w = true then 1 else 0) := by
  unfold spec_l1Bit.f
  rw [if_pos (by omega), shr_nat a w hw, tmod2]
theorem both_l0 (a b : Nat) : ∀ (d w k : Nat), w + d = 8 → d < k →
    spec_l1Both.l0 k a b (sumN w (fun i => a.testBit i && b.testBit i) : Nat) w = some ((sumN 8 (fun i => a.testBit i && b.testBit i) : Nat) : Int) := by
  intro d
  induction d with
  | zero =>
    intro w k hw hk
    obtain ⟨m, rfl⟩ : ∃ m, k = m + 1 := ⟨k - 1, by omega⟩
    obtain rfl : w = 8 := by omega
    simp only [spec_l1Both.l0]
    rw [if_neg (by omega)]
  | succ d ih =>
    intro w k hw hk
    obtain ⟨m, rfl⟩ : ∃ m, k = m + 1 := ⟨k - 1, by omega⟩
    have hlt := sumN_lt w (fun i => a.testBit i && b.testBit i)
    have hp : 2 ^ w ≤ 2 ^ 7 := Nat.pow_le_pow_right (by decide) (by omega)
    have e1 : wrap64 ((w : Int) + 1) = ((w + 1 : Nat) : Int) := by rw [w64 (by omega) (by omega)]; simp
    have key : ∀ x y : Bool, wrap64 (((sumN w (fun i => a.testBit i && b.testBit i) : Nat) : Int) + shl .i64 (wrap64 ((if x = true then 1 else 0) * (if y = true then 1 else 0))) (w : Int)) = ((sumN w (fun i => a.testBit i && b.testBit i) + (if (x && y) = true then 2 ^ w else 0) : Nat) : Int) := by
      intro x y
      generalize sumN w (fun i => a.testBit i && b.testBit i) = q at hlt
      have s0 : shl .i64 (wrap64 0) (w : Int) = 0 := by
        have := shl_nat 0 w (by omega) (by omega)
        rw [Nat.zero_mul] at this
        rw [show wrap64 0 = 0 from w64 (by omega) (by omega)]
        exact this
      have s1 : shl .i64 (wrap64 1) (w : Int) = ((2 ^ w : Nat) : Int) := by
        have := shl_nat 1 w (by omega) (by omega)
        rw [Nat.one_mul] at this
        rw [show wrap64 1 = 1 from w64 (by omega) (by omega)]
        exact this
      generalize 2 ^ w = e at s1 hlt hp
      cases x <;> cases y
      · show wrap64 ((q : Int) + shl .i64 (wrap64 0) (w : Int)) = _
        rw [s0, w64 (by omega) (by omega)]; simp
      · show wrap64 ((q : Int) + shl .i64 (wrap64 0) (w : Int)) = _
        rw [s0, w64 (by omega) (by omega)]; simp
      · show wrap64 ((q : Int) + shl .i64 (wrap64 0) (w : Int)) = _
        rw [s0, w64 (by omega) (by omega)]; simp
      · show wrap64 ((q : Int) + shl .i64 (wrap64 1) (w : Int)) = _
        rw [s1, w64 (by omega) (by omega)]; simp
    have key := key (a.testBit w) (b.testBit w)
    rw [show sumN w (fun i => a.testBit i && b.testBit i) + (if (a.testBit w && b.testBit w) = true then 2 ^ w else 0) = sumN (w + 1) (fun i => a.testBit i && b.testBit i) from rfl] at key
    simp only [spec_l1Both.l0]
    rw [if_pos (by omega), bit_nat a w (by omega)]
    simp only [Option.bind_some]
    rw [bit_nat b w (by omega)]
    simp only [Option.bind_some]
    rw [if_pos (by omega), key, e1]
    exact ih (w + 1) m (by omega) (by omega)
/-- What is in both sets. -/
theorem both_nat (a b k : Nat) (ha : a < 256) (hk : 9 ≤ k) : spec_l1Both.f k (a : Int) (b : Int) = some ((a &&& b : Nat) : Int) := by
  have h := both_l0 a b 8 0 k (by omega) (by omega)
  have e : sumN 8 (fun i => a.testBit i && b.testBit i) = a &&& b := by
    have h2 : a &&& b < 2 ^ 8 := Nat.lt_of_le_of_lt Nat.and_le_left ha
    rw [← sumN_bits 8 (a &&& b) h2]
    exact sumN_congr _ _ _ fun i _ => by rw [Nat.testBit_and]
  rw [e] at h
  unfold spec_l1Both.f
  simpa [sumN] using h
end Go.Proofs.Ytogifggjcdcodaa.L
namespace Go.Proofs.Ytogifggjcdcodaa.L
open Go.RowKit Go.Proofs.Ytogifggjcdcodaa.B Go.Proofs.Ytogifggjcdcodaa.Q Go.Proofs.Ytogifggjcdcodaa.Hand Go.Proofs.YtogifggjcdcodaaW.PrintWords Go.Proofs.YtogifggjcdcodaaW.PrintLast Go.Proofs.YtogifggjcdcodaaW.PrintMore
set_option linter.unusedVariables false
set_option linter.unusedSimpArgs false
/-- SurpriseOf. -/
def surp (t : Int) (l : List Int) (s : Int) : Int := if okR t l = true ∧ okS t s = true then least l s else -1
theorem sSurp_l0 (a : Nat) (l : List Int) (hl : l.length ≤ 60) : ∀ (d i k : Nat), i + d = l.length → d < k → spec_SurpriseOf.l0 k l a (leastN l a i) i = some (least l a) := by
  intro d
  induction d with
  | zero =>
    intro i k hi hk
    obtain ⟨m, rfl⟩ : ∃ m, k = m + 1 := ⟨k - 1, by omega⟩
    obtain rfl : i = l.length := by omega
    simp only [spec_SurpriseOf.l0]
    rw [if_neg (by omega)]; rfl
  | succ d ih =>
    intro i k hi hk
    obtain ⟨m, rfl⟩ : ∃ m, k = m + 1 := ⟨k - 1, by omega⟩
    have hb : bit (a : Int) i = a.testBit i := by unfold bit; simp
    have ih1 := ih (i + 1) m (by omega) (by omega)
    simp only [leastN, hb] at ih1
    simp only [spec_SurpriseOf.l0]
    rw [if_pos (by omega), bit_nat a i (by omega), next64 i (by omega)]
    simp only [Option.bind_some]
    cases ht : a.testBit i with
    | true => rw [ht] at ih1; rw [if_pos rfl, if_pos rfl, if_pos (by omega)]; simpa using ih1
    | false => rw [ht] at ih1; rw [if_neg (by simp)] at ih1; rw [if_neg (by simp)]; exact ih1
theorem sSurpriseOf_eq (t : Int) (l : List Int) (s : Int) (k : Nat) (hl : l.length ≤ 2000000) (hk : l.length + 20 < k) : spec_SurpriseOf.f k t l s = some (surp t l s) := by
  unfold spec_SurpriseOf.f surp
  rw [sRankOk_eq t l k hl (by omega)]
  simp only [Option.bind_some]
  obtain ⟨q, rfl⟩ : ∃ q, k = q + 1 := ⟨k - 1, by omega⟩
  cases hr : okR t l with
  | false => simp [spec_SurpriseOf.j0]
  | true =>
    rw [if_pos rfl, sSetOk_eq]
    simp only [Option.bind_some]
    cases hs : okS t s with
    | false => simp [spec_SurpriseOf.j0]
    | true =>
      obtain ⟨h1, h2, h3, h4, h5, h6⟩ := okR_cases hr
      obtain ⟨g1, g2, g3, g4⟩ := okS_cases hs
      obtain ⟨a, rfl⟩ := Int.eq_ofNat_of_zero_le g2
      simp only [spec_SurpriseOf.j0]
      rw [if_neg (by simp), if_pos (by simp)]
      exact sSurp_l0 a l (by omega) l.length 0 q (by omega) (by omega)
end Go.Proofs.Ytogifggjcdcodaa.L
namespace Go.Proofs.Ytogifggjcdcodaa.L
open Go.RowKit Go.Proofs.Ytogifggjcdcodaa.B Go.Proofs.Ytogifggjcdcodaa.Q Go.Proofs.Ytogifggjcdcodaa.Hand Go.Proofs.YtogifggjcdcodaaW.PrintWords Go.Proofs.YtogifggjcdcodaaW.PrintLast Go.Proofs.YtogifggjcdcodaaW.PrintMore
set_option linter.unusedVariables false
set_option linter.unusedSimpArgs false
theorem par (x : Nat) : x % 2 = if x.testBit 0 = true then 1 else 0 := by
  rw [Nat.testBit_zero]
  rcases Nat.mod_two_eq_zero_or_one x with h | h <;> simp [h]
theorem or_add (a b : Nat) : (a ||| b) + (a &&& b) = a + b := by
  induction a using Nat.strongRecOn generalizing b with
  | _ a ih =>
    rcases Nat.eq_zero_or_pos a with rfl | h
    · simp
    · have h1 := ih (a / 2) (by omega) (b / 2)
      have e1 : (a ||| b) / 2 = a / 2 ||| b / 2 := Nat.or_div_two
      have e2 : (a &&& b) / 2 = a / 2 &&& b / 2 := Nat.and_div_two
      have e3 : (a ||| b) % 2 + (a &&& b) % 2 = a % 2 + b % 2 := by
        have t1 := par (a ||| b)
        have t2 := par (a &&& b)
        have t3 := par a
        have t4 := par b
        rw [t1, t2, t3, t4, Nat.testBit_or, Nat.testBit_and]
        cases a.testBit 0 <;> cases b.testBit 0 <;> rfl
      have d1 := Nat.div_add_mod (a ||| b) 2
      have d2 := Nat.div_add_mod (a &&& b) 2
      omega
theorem allW_pow {t : Int} (h : okT t = true) : (allW t).toNat + 1 = 2 ^ (nW t).toNat ∧ (nW t).toNat ≤ 8 ∧ 2 ≤ (nW t).toNat := by
  rcases okT_cases h with rfl | rfl | rfl <;> decide
/-- What is not in a set of the worlds below n. -/
theorem sub_xor (n s : Nat) (h : s < 2 ^ n) : (2 ^ n - 1) - s = (2 ^ n - 1) ^^^ s := by
  apply Nat.eq_of_testBit_eq
  intro i
  rw [Nat.testBit_xor, show 2 ^ n - 1 - s = 2 ^ n - (s + 1) by omega, Nat.testBit_two_pow_sub_succ h, Nat.testBit_two_pow_sub_one]
  by_cases hi : i < n
  · simp [hi]
  · have : s.testBit i = false := Nat.testBit_lt_two_pow (Nat.lt_of_lt_of_le h (Nat.pow_le_pow_right (by decide) (by omega)))
    simp [hi, this]
/-- The rest of a set. -/
theorem rest_eq (t : Int) (s : Nat) (ht : okT t = true) (h : (s : Int) ≤ allW t) : wrap64 (allW t - (s : Int)) = (((allW t).toNat ^^^ s : Nat) : Int) := by
  obtain ⟨h1, h2, h3⟩ := allW_pow ht
  have hr := allW_range ht
  rw [w64 (by omega) (by omega)]
  have e : (allW t).toNat = 2 ^ (nW t).toNat - 1 := by omega
  have := sub_xor (nW t).toNat s (by omega)
  rw [e, ← this]
  omega
theorem either_nat (a b k : Nat) (ha : a < 256) (hb : b < 256) (hk : 9 ≤ k) : spec_l1Either.f k (a : Int) (b : Int) = some ((a ||| b : Nat) : Int) := by
  unfold spec_l1Either.f
  rw [both_nat a b k ha hk]
  simp only [Option.bind_some]
  have h := or_add a b
  have h2 : a &&& b ≤ a := Nat.and_le_left
  rw [w64 (n := (a : Int) + b) (by omega) (by omega), w64 (by omega) (by omega)]
  congr 1; omega
theorem leastN_ge (l : List Int) (s : Int) (h : ∀ x ∈ l, 0 ≤ x) : ∀ n, n ≤ l.length → 0 ≤ leastN l s n
  | 0, _ => by unfold leastN; decide
  | n + 1, hn => by
    have ih := leastN_ge l s h n (by omega)
    have hx := h _ (by unfold rd; rw [Int.toNat_natCast, List.getD_eq_getElem?_getD, List.getElem?_eq_getElem (show n < l.length by omega)]; exact List.getElem_mem _ : rd l (n : Int) ∈ l)
    unfold leastN
    split
    · unfold mn; split <;> omega
    · exact ih
end Go.Proofs.Ytogifggjcdcodaa.L
namespace Go.Proofs.Ytogifggjcdcodaa.L
open Go.RowKit Go.Proofs.Ytogifggjcdcodaa.B Go.Proofs.Ytogifggjcdcodaa.Q Go.Proofs.Ytogifggjcdcodaa.Hand Go.Proofs.YtogifggjcdcodaaW.PrintWords Go.Proofs.YtogifggjcdcodaaW.PrintLast Go.Proofs.YtogifggjcdcodaaW.PrintMore
set_option linter.unusedVariables false
set_option linter.unusedSimpArgs false
theorem set_nat {t s : Int} (h : okS t s = true) : ∃ a : Nat, s = (a : Int) ∧ a < 256 ∧ (a : Int) ≤ allW t := by
  obtain ⟨g1, g2, g3, g4⟩ := okS_cases h
  exact ⟨s.toNat, by omega, by omega, by omega⟩
/-- The rest of a set is a set. -/
theorem okS_rest {t : Int} (ht : okT t = true) (a : Nat) (h : (a : Int) ≤ allW t) : okS t (((allW t).toNat ^^^ a : Nat) : Int) = true := by
  obtain ⟨h1, h2, h3⟩ := allW_pow ht
  have := Nat.xor_lt_two_pow (n := (nW t).toNat) (show (allW t).toNat < _ by omega) (show a < _ by omega)
  unfold okS
  rw [ht]
  simp
  omega
theorem okS_or {t : Int} (ht : okT t = true) (a b : Nat) (h : (a : Int) ≤ allW t) (k : (b : Int) ≤ allW t) : okS t ((a ||| b : Nat) : Int) = true := by
  obtain ⟨h1, h2, h3⟩ := allW_pow ht
  have := Nat.or_lt_two_pow (n := (nW t).toNat) (show a < _ by omega) (show b < _ by omega)
  unfold okS
  rw [ht]
  simp
  omega
theorem xor_lt (t : Int) (ht : okT t = true) (a : Nat) (h : a < 256) : (allW t).toNat ^^^ a < 256 := by
  have hr := allW_range ht
  exact Nat.xor_lt_two_pow (n := 8) (by omega) h
/-- How firmly a set is believed. -/
def firm (t : Int) (l : List Int) (s : Int) : Int := least l (((allW t).toNat ^^^ s.toNat : Nat) : Int)
/-- FirmnessOf. -/
def firE (t : Int) (l : List Int) (s : Int) : Int := if okR t l = true ∧ okS t s = true then firm t l s else -1
/-- KeptBy. -/
def kepE (t : Int) (l : List Int) (a b : Int) : Bool :=
  okR t l && (okS t a && (okS t b && (decide (firm t l b > 0) && (decide (a = allW t) || (decide (firm t l a = 0) || decide (firm t l ((a.toNat ||| b.toNat : Nat) : Int) > firm t l a))))))
theorem sFirmnessOf_eq (t : Int) (l : List Int) (s : Int) (k : Nat) (hl : l.length ≤ 2000000) (hk : l.length + 40 < k) : spec_FirmnessOf.f k t l s = some (firE t l s) := by
  unfold spec_FirmnessOf.f firE firm
  rw [sRankOk_eq t l k hl (by omega)]
  simp only [Option.bind_some]
  obtain ⟨q, rfl⟩ : ∃ q, k = q + 1 := ⟨k - 1, by omega⟩
  cases hr : okR t l with
  | false => simp [spec_FirmnessOf.j0]
  | true =>
    rw [if_pos rfl, sSetOk_eq]
    simp only [Option.bind_some]
    cases hs : okS t s with
    | false => simp [spec_FirmnessOf.j0]
    | true =>
      obtain ⟨h1, h2, h3, h4, h5, h6⟩ := okR_cases hr
      obtain ⟨a, rfl, a1, a2⟩ := set_nat hs
      simp only [spec_FirmnessOf.j0]
      rw [if_neg (by simp), l1All_eq t h1]
      simp only [Option.bind_some]
      rw [rest_eq t a h1 a2, sSurpriseOf_eq t l _ q hl (by omega)]
      unfold surp
      rw [if_pos ⟨hr, okS_rest h1 a a2⟩]
      simp
theorem firmness_eq (t : Int) (l : List Int) (s : Int) (k : Nat) (hr : okR t l = true) (hs : okS t s = true) (hk : 20 ≤ k) : impl_firmness.f k t l s = some (firm t l s) := by
  obtain ⟨h1, h2, h3, h4, h5, h6⟩ := okR_cases hr
  have hA := allW_range h1
  obtain ⟨a, rfl, a1, a2⟩ := set_nat hs
  have hx := xor_lt t h1 a a1
  have e2 : Go.bits .xor .i64 (allW t) (a : Int) = (((allW t).toNat ^^^ a : Nat) : Int) := by
    have := xor_i64 (allW t).toNat a (by omega) (by omega)
    rw [show (((allW t).toNat : Nat) : Int) = allW t by omega] at this
    exact this
  unfold impl_firmness.f firm
  rw [allWorlds_eq t h1]
  simp only [Option.bind_some]
  rw [e2, surpriseOf_eq l _ k (by omega) (by omega) (by omega) (by omega)]
  simp
theorem firm_nonneg {t : Int} {l : List Int} (s : Int) (hr : okR t l = true) : 0 ≤ firm t l s := by
  obtain ⟨h1, h2, h3, h4, h5, h6⟩ := okR_cases hr
  exact leastN_ge l _ (fun x hx => (h3 x hx).1) l.length (Nat.le_refl _)
theorem sKeptBy_eq (t : Int) (l : List Int) (a b : Int) (k : Nat) (hl : l.length ≤ 2000000) (hk : l.length + 60 < k) : spec_KeptBy.f k t l a b = some (kepE t l a b) := by
  unfold spec_KeptBy.f kepE
  rw [sRankOk_eq t l k hl (by omega)]
  simp only [Option.bind_some]
  obtain ⟨q, rfl⟩ : ∃ q, k = q + 1 := ⟨k - 1, by omega⟩
  cases hr : okR t l with
  | false => simp [spec_KeptBy.j0]
  | true =>
    rw [if_pos rfl, sSetOk_eq]
    simp only [Option.bind_some]
    cases hs : okS t a with
    | false => simp [spec_KeptBy.j0]
    | true =>
      rw [if_pos rfl, sSetOk_eq]
      simp only [Option.bind_some]
      cases hs2 : okS t b with
      | false => simp [spec_KeptBy.j0]
      | true =>
        obtain ⟨h1, h2, h3, h4, h5, h6⟩ := okR_cases hr
        have fa : firE t l a = firm t l a := by unfold firE; rw [if_pos ⟨hr, hs⟩]
        have fb : firE t l b = firm t l b := by unfold firE; rw [if_pos ⟨hr, hs2⟩]
        obtain ⟨x, rfl, x1, x2⟩ := set_nat hs
        obtain ⟨y, rfl, y1, y2⟩ := set_nat hs2
        have fc : firE t l ((x ||| y : Nat) : Int) = firm t l ((x ||| y : Nat) : Int) := by unfold firE; rw [if_pos ⟨hr, okS_or h1 x y x2 y2⟩]
        simp only [spec_KeptBy.j0]
        rw [if_neg (by simp), sFirmnessOf_eq t l _ q hl (by omega)]
        simp only [Option.bind_some]
        rw [either_nat x y q x1 y1 (by omega)]
        simp only [Option.bind_some]
        rw [sFirmnessOf_eq t l _ q hl (by omega)]
        simp only [Option.bind_some]
        rw [sFirmnessOf_eq t l _ q hl (by omega)]
        simp only [Option.bind_some]
        rw [l1All_eq t h1, fa, fb, fc]
        simp only [Option.bind_some, Int.toNat_natCast, Bool.true_and]
        by_cases c1 : firm t l (y : Int) > 0
        · rw [if_pos c1]
          by_cases c2 : (x : Int) = allW t
          · rw [if_pos c2]; simp [c1, c2]
          · rw [if_neg c2]
            by_cases c3 : firm t l (x : Int) = 0
            · rw [if_pos c3]; simp [c1, c3]
            · rw [if_neg c3]; simp [c1, c2, c3]
        · rw [if_neg c1]; simp [c1]
theorem KeptBy_eq (t : Int) (l : List Int) (a b : Int) (k : Nat) (hk : 30 ≤ k) : impl_KeptBy.f k t l a b = some (kepE t l a b) := by
  unfold impl_KeptBy.f kepE
  rw [isRank_eq t l k (by omega)]
  simp only [Option.bind_some]
  obtain ⟨q, rfl⟩ : ∃ q, k = q + 1 := ⟨k - 1, by omega⟩
  cases hr : okR t l with
  | false => simp [impl_KeptBy.j0]
  | true =>
    rw [if_pos rfl, isSet_eq]
    simp only [Option.bind_some]
    cases hs : okS t a with
    | false => simp [impl_KeptBy.j0]
    | true =>
      rw [if_pos rfl, isSet_eq]
      simp only [Option.bind_some]
      cases hs2 : okS t b with
      | false => simp [impl_KeptBy.j0]
      | true =>
        obtain ⟨h1, h2, h3, h4, h5, h6⟩ := okR_cases hr
        have hp := firm_nonneg b hr
        rw [if_pos rfl, firmness_eq t l b _ hr hs2 (by omega)]
        simp only [Option.bind_some]
        have fa := firmness_eq t l a q hr hs (by omega)
        obtain ⟨x, rfl, x1, x2⟩ := set_nat hs
        obtain ⟨y, rfl, y1, y2⟩ := set_nat hs2
        have ho : Go.bits .or .i64 (y : Int) (x : Int) = ((x ||| y : Nat) : Int) := by rw [or_i64 y x (by omega) (by omega), Nat.or_comm]
        have fc := firmness_eq t l ((x ||| y : Nat) : Int) q hr (okS_or h1 x y x2 y2) (by omega)
        simp only [impl_KeptBy.j0]
        rw [fa, ho, fc]
        simp only [Option.bind_some]
        rw [allWorlds_eq t h1]
        simp only [Option.bind_some, Int.toNat_natCast, Bool.true_and]
        by_cases c1 : firm t l (y : Int) = 0
        · rw [if_pos (by simp [c1])]; simp [c1]
        · have c1' : firm t l (y : Int) > 0 := by omega
          rw [if_neg (by simp [c1])]
          by_cases c2 : (x : Int) = allW t
          · rw [if_pos c2]; simp [c1', c2]
          · rw [if_neg c2]
            by_cases c3 : firm t l (x : Int) = 0
            · rw [if_pos c3]; simp [c1', c3]
            · rw [if_neg c3]; simp [c1', c2, c3]
end Go.Proofs.Ytogifggjcdcodaa.L
namespace Go.Proofs.Ytogifggjcdcodaa.Pure
open Go.RowKit Go.Proofs.Ytogifggjcdcodaa.B Go.Proofs.Ytogifggjcdcodaa.Q Go.Proofs.Ytogifggjcdcodaa.Hand Go.Proofs.Ytogifggjcdcodaa.L Go.Proofs.YtogifggjcdcodaaW.PrintWords Go.Proofs.YtogifggjcdcodaaW.PrintLast Go.Proofs.YtogifggjcdcodaaW.PrintMore
set_option linter.unusedVariables false
set_option linter.unusedSimpArgs false
theorem FnExactKeptBy : laws_FnExactKeptBy.Pure := by
  intro t l a b _ _ _ _ _ _
  obtain ⟨k, hk⟩ : ∃ k : Nat, l.length + 100000 ≤ k := ⟨_, Nat.le_refl _⟩
  refine ⟨k, ?_⟩
  unfold laws_FnExactKeptBy.f
  by_cases hl : (l.length : Int) > 1048576
  · rw [if_pos hl]
  · rw [if_neg hl, toIntS_eq l _ (by omega) (by omega)]
    simp only [Option.bind_some]
    rw [sKeptBy_eq t l a b _ (by omega) (by omega)]
    simp only [Option.bind_some]
    rw [KeptBy_eq t l a b _ (by omega)]
    simp only [Option.bind_some]
    rw [if_neg (by simp), eqIntS_refl l _ (by omega) (by omega)]
    simp
end Go.Proofs.Ytogifggjcdcodaa.Pure
