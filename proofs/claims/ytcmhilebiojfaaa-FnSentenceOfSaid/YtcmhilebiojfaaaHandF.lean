/- Plain words of this session's own contracts: the number of a set that is told by a test of its worlds; no condition. -/
import Derived.Laws.BitsLemmas
import Derived.WalkKit
import Derived.Below
import Derived.Test.YtcmhilebiojfaaaWWords
import Derived.Test.YtcmhilebiojfaaaWMore
namespace Go.Proofs.Ytcmhilebiojfaaa.Hand
open Go.RowKit Go.Proofs.YtcmhilebiojfaaaW.PrintWords Go.Proofs.YtcmhilebiojfaaaW.PrintLast Go.Proofs.YtcmhilebiojfaaaW.PrintMore

theorem bsz1 (x : UInt8) : (⟨#[x]⟩ : ByteArray).size = 1 := rfl
theorem bsz0 : (⟨#[]⟩ : ByteArray).size = 0 := rfl

/-- The set of the worlds below n of which p holds, as a number. -/
def sumN : Nat → (Nat → Bool) → Nat
  | 0, _ => 0
  | n + 1, p => sumN n p + (if p n = true then 2 ^ n else 0)

theorem sumN_lt (n : Nat) (p : Nat → Bool) : sumN n p < 2 ^ n := by
  induction n with
  | zero => simp [sumN]
  | succ n ih =>
    simp only [sumN]
    split <;> (rw [Nat.pow_succ]; omega)

theorem sumN_succ_or (n : Nat) (p : Nat → Bool) (h : p n = true) : sumN (n + 1) p = sumN n p ||| 2 ^ n := by
  simp only [sumN, h, if_true]
  have := Nat.two_pow_add_eq_or_of_lt (sumN_lt n p) 1
  rw [Nat.mul_one] at this
  rw [Nat.add_comm, this, Nat.or_comm]

theorem sumN_testBit (n : Nat) (p : Nat → Bool) (i : Nat) : (sumN n p).testBit i = (decide (i < n) && p i) := by
  induction n with
  | zero => simp [sumN]
  | succ n ih =>
    by_cases h : p n = true
    · rw [sumN_succ_or n p h, Nat.testBit_or, ih, Nat.testBit_two_pow]
      by_cases e : n = i
      · subst e; simp [h]
      · have e1 : decide (n = i) = false := decide_eq_false e
        have e2 : decide (i < n + 1) = decide (i < n) := by
          rw [decide_eq_decide]; omega
        rw [e1, e2, Bool.or_false]
    · simp only [sumN, h]
      rw [if_neg (by simp), Nat.add_zero, ih]
      by_cases e : n = i
      · subst e; simp [h]
      · have e2 : decide (i < n + 1) = decide (i < n) := by
          rw [decide_eq_decide]; omega
        rw [e2]

theorem sumN_congr (n : Nat) (p q : Nat → Bool) (h : ∀ i, i < n → p i = q i) : sumN n p = sumN n q := by
  apply Nat.eq_of_testBit_eq
  intro i
  rw [sumN_testBit, sumN_testBit]
  by_cases e : i < n
  · rw [h i e]
  · simp [e]

/-- A number is the set of its bits. -/
theorem sumN_bits (n a : Nat) (h : a < 2 ^ n) : sumN n (fun i => a.testBit i) = a := by
  apply Nat.eq_of_testBit_eq
  intro i
  rw [sumN_testBit]
  by_cases e : i < n
  · simp [e]
  · have : a.testBit i = false := Nat.testBit_lt_two_pow (Nat.lt_of_lt_of_le h (Nat.pow_le_pow_right (by decide) (by omega)))
    simp [e, this]

theorem sumN_and (n : Nat) (a : Nat) (p : Nat → Bool) : a &&& sumN n p = sumN n (fun i => a.testBit i && p i) := by
  apply Nat.eq_of_testBit_eq
  intro i
  rw [Nat.testBit_and, sumN_testBit, sumN_testBit]
  cases a.testBit i <;> cases p i <;> simp

theorem wraps_i64 (n : Int) (h₀ : 0 ≤ n) (h₁ : n < 2 ^ 63) : IntKind.i64.wrap n = n := by rw [IntKind.wrap_i64]; omega
theorem and_i64 (a b : Nat) (ha : a < 2 ^ 63) (hb : b < 2 ^ 63) : bits .and .i64 a b = ((a &&& b : Nat) : Int) := (bits_nat .i64 63 (by decide) wraps_i64 a b ha hb).1
theorem or_i64 (a b : Nat) (ha : a < 2 ^ 63) (hb : b < 2 ^ 63) : bits .or .i64 a b = ((a ||| b : Nat) : Int) := (bits_nat .i64 63 (by decide) wraps_i64 a b ha hb).2

theorem or_step (n : Nat) (p : Nat → Bool) (hn : n < 62) (h : p n = true) : bits .or .i64 (sumN n p : Nat) ((2 : Int) ^ n) = ((sumN (n + 1) p : Nat) : Int) := by
  have h1 : sumN n p < 2 ^ 63 := Nat.lt_trans (sumN_lt n p) (Nat.pow_lt_pow_right (by decide) (by omega))
  have h2 : 2 ^ n < 2 ^ 63 := Nat.pow_lt_pow_right (by decide) (by omega)
  have := or_i64 (sumN n p) (2 ^ n) h1 h2
  rw [sumN_succ_or n p h, ← this]
  simp

theorem or_step64 (n : Nat) (p : Nat → Bool) (hn : n < 62) (h : p n = true) : bits .or .i64 (sumN n p : Nat) (wrap64 ((2 : Int) ^ n)) = ((sumN (n + 1) p : Nat) : Int) := by
  have h2 : 2 ^ n < 2 ^ 63 := Nat.pow_lt_pow_right (by decide) (by omega)
  have e : ((2 : Int) ^ n) = ((2 ^ n : Nat) : Int) := by simp
  have e2 : wrap64 ((2 : Int) ^ n) = (2 : Int) ^ n := by
    rw [e]
    generalize 2 ^ n = m at h2
    unfold wrap64
    omega
  rw [e2]
  exact or_step n p hn h
theorem sumN_skip (n : Nat) (p : Nat → Bool) (h : p n = false) : sumN (n + 1) p = sumN n p := by
  simp [sumN, h]

/-- May there be so many things. -/
def okT (t : Int) : Bool := decide (1 ≤ t) && decide (t ≤ 3)
/-- The set of all worlds. -/
def allW (t : Int) : Int := if t = 1 then 3 else if t = 2 then 15 else 255
/-- The number of worlds; -1 where there is none. -/
def nW (t : Int) : Int := if okT t = true then (if t = 1 then 2 else if t = 2 then 4 else 8) else -1
/-- Is s a set of worlds. -/
def okS (t s : Int) : Bool := okT t && (decide (0 ≤ s) && decide (s ≤ allW t))
theorem okT_cases {t : Int} (h : okT t = true) : t = 1 ∨ t = 2 ∨ t = 3 := by
  unfold okT at h
  simp at h
  omega

/-- Is world w in the set s. -/
def bit (s : Int) (w : Nat) : Bool := s.toNat.testBit w

theorem w64 {n : Int} (h1 : -9223372036854775808 ≤ n) (h2 : n ≤ 9223372036854775807) : wrap64 n = n := by unfold wrap64; omega

theorem shr_nat (a w : Nat) (hw : w ≤ 62) : shr .i64 (a : Int) (w : Int) = ((a / 2 ^ w : Nat) : Int) := by
  unfold shr
  have e : min (w : Int).toNat IntKind.i64.bits = w := by show min _ 64 = w; omega
  rw [e]
  simp

theorem tmod2 (a w : Nat) : Int.tmod ((a / 2 ^ w : Nat) : Int) 2 = if a.testBit w = true then 1 else 0 := by
  rw [Nat.testBit_eq_decide_div_mod_eq]
  generalize a / 2 ^ w = q
  rw [Int.tmod_eq_emod_of_nonneg (by omega)]
  by_cases h : q % 2 = 1
  · simp only [h, decide_true, if_true]; omega
  · rw [if_neg (by simp [h])]; omega

/-- A set's bit, as the program asks for it. -/
theorem and_one (a w : Nat) (ha : a < 2 ^ 62) (hw : w ≤ 62) : Go.bits .and .i64 (shr .i64 (a : Int) (w : Int)) 1 = if a.testBit w = true then 1 else 0 := by
  rw [shr_nat a w hw, Nat.testBit_eq_decide_div_mod_eq]
  have h1 : a / 2 ^ w ≤ a := Nat.div_le_self _ _
  generalize a / 2 ^ w = q at h1
  have h := and_i64 q 1 (by omega) (by decide)
  rw [show ((1 : Nat) : Int) = 1 from rfl] at h
  rw [h, Nat.and_one_is_mod]
  by_cases h : q % 2 = 1
  · simp only [h, decide_true, if_true]; omega
  · rw [if_neg (by simp [h])]; omega

theorem shl_nat (x w : Nat) (hx : x ≤ 1) (hw : w ≤ 61) : shl .i64 (x : Int) (w : Int) = ((x * 2 ^ w : Nat) : Int) := by
  unfold shl
  have e : min (w : Int).toNat IntKind.i64.bits = w := by show min _ 64 = w; omega
  have h1 : 2 ^ w ≤ 2 ^ 61 := Nat.pow_le_pow_right (by decide) hw
  have h2 : x * 2 ^ w ≤ 1 * 2 ^ w := Nat.mul_le_mul_right _ hx
  have e2 : (x : Int) * 2 ^ w = ((x * 2 ^ w : Nat) : Int) := by simp
  rw [e, e2]
  generalize x * 2 ^ w = m at h2
  rw [wraps_i64 _ (by omega) (by omega)]

/-- The least rank of the worlds of a set that are below n; 10 where there is none. -/
def leastN (l : List Int) (s : Int) : Nat → Int
  | 0 => 10
  | n + 1 => if bit s n = true then mn (leastN l s n) (rd l (n : Int)) else leastN l s n
/-- The least rank of the worlds of a set. -/
def least (l : List Int) (s : Int) : Int := leastN l s l.length
/-- The worlds of a set with the least rank. -/
def rev (l : List Int) (s : Int) : Int := (sumN l.length (fun w => bit s w && (rd l (w : Int) == least l s)) : Nat)
/-- The worlds with the rank 0. -/
def core (l : List Int) : Int := (sumN l.length (fun w => rd l (w : Int) == 0) : Nat)

end Go.Proofs.Ytcmhilebiojfaaa.Hand
