/- The law that the program's HoldsIn is the reference's answers true, for all arguments. -/
import Derived.Test.YtogifggjcdcodaaHm
import Derived.Test.YtogifggjcdcodaaHandF
import Derived.Test.YtogifggjcdcodaaUx1
import Derived.Test.YtogifggjcdcodaaUx2
import Derived.Test.YtogifggjcdcodaaUx3
namespace Go.Proofs.Ytogifggjcdcodaa.L
open Go.RowKit Go.Proofs.Ytogifggjcdcodaa.B Go.Proofs.Ytogifggjcdcodaa.U Go.Proofs.Ytogifggjcdcodaa.Hand Go.Proofs.YtogifggjcdcodaaW.PrintWords Go.Proofs.YtogifggjcdcodaaW.PrintLast Go.Proofs.YtogifggjcdcodaaW.PrintMore
set_option linter.unusedVariables false
set_option linter.unusedSimpArgs false
theorem l1In_eq (a b c : Int) : spec_l1In.f a b c = some (decide (b ≤ a) && decide (a ≤ c)) := by
  unfold spec_l1In.f
  by_cases h : a ≥ b
  · rw [if_pos h]; simp [show b ≤ a from h]
  · rw [if_neg h]; simp [show ¬ b ≤ a from h]
theorem l1In_13 (a : Int) : spec_l1In.f a 1 3 = some (okT a) := l1In_eq a 1 3
theorem l1All_eq (a : Int) (h : okT a = true) : spec_l1All.f a = some (allW a) := by
  unfold spec_l1All.f allF; rw [if_pos h]
end Go.Proofs.Ytogifggjcdcodaa.L
namespace Go.Proofs.Ytogifggjcdcodaa.L
open Go.RowKit Go.Proofs.Ytogifggjcdcodaa.B Go.Proofs.Ytogifggjcdcodaa.U Go.Proofs.Ytogifggjcdcodaa.Hand Go.Proofs.YtogifggjcdcodaaW.PrintWords Go.Proofs.YtogifggjcdcodaaW.PrintLast Go.Proofs.YtogifggjcdcodaaW.PrintMore
set_option linter.unusedVariables false
set_option linter.unusedSimpArgs false
theorem bit_nat (a w : Nat) (hw : w ≤ 62) : spec_l1Bit.f (a : Int) (w : Int) = some (if a.testBit w = true then 1 else 0) := by
  unfold spec_l1Bit.f
  rw [if_pos (by omega), shr_nat a w hw, tmod2]
theorem both_l0 (a b : Nat) : ∀ (d w k : Nat), w + d = 8 → d < k →
    spec_l1Both.l0 k a b (sumN w (fun i => a.testBit i && b.testBit i) : Nat) w = some ((sumN 8 (fun i => a.testBit i && b.testBit i) : Nat) : Int) := by
  intro d
  induction d with
  | zero =>
    intro w k hw hk
    obtain ⟨m, rfl⟩ : ∃ m, k = m + 1 := ⟨k - 1, by omega⟩
    obtain rfl : w = 8 := by omega
    simp only [spec_l1Both.l0]
    rw [if_neg (by omega)]
  | succ d ih =>
    intro w k hw hk
    obtain ⟨m, rfl⟩ : ∃ m, k = m + 1 := ⟨k - 1, by omega⟩
    have hlt := sumN_lt w (fun i => a.testBit i && b.testBit i)
    have hp : 2 ^ w ≤ 2 ^ 7 := Nat.pow_le_pow_right (by decide) (by omega)
    have e1 : wrap64 ((w : Int) + 1) = ((w + 1 : Nat) : Int) := by rw [w64 (by omega) (by omega)]; simp
    have key : ∀ x y : Bool, wrap64 (((sumN w (fun i => a.testBit i && b.testBit i) : Nat) : Int) + shl .i64 (wrap64 ((if x = true then 1 else 0) * (if y = true then 1 else 0))) (w : Int)) = ((sumN w (fun i => a.testBit i && b.testBit i) + (if (x && y) = true then 2 ^ w else 0) : Nat) : Int) := by
      intro x y
      generalize sumN w (fun i => a.testBit i && b.testBit i) = q at hlt
      have s0 : shl .i64 (wrap64 0) (w : Int) = 0 := by
        have := shl_nat 0 w (by omega) (by omega)
        rw [Nat.zero_mul] at this
        rw [show wrap64 0 = 0 from w64 (by omega) (by omega)]
        exact this
      have s1 : shl .i64 (wrap64 1) (w : Int) = ((2 ^ w : Nat) : Int) := by
        have := shl_nat 1 w (by omega) (by omega)
        rw [Nat.one_mul] at this
        rw [show wrap64 1 = 1 from w64 (by omega) (by omega)]
        exact this
      generalize 2 ^ w = e at s1 hlt hp
      cases x <;> cases y
      · show wrap64 ((q : Int) + shl .i64 (wrap64 0) (w : Int)) = _
        rw [s0, w64 (by omega) (by omega)]; simp
      · show wrap64 ((q : Int) + shl .i64 (wrap64 0) (w : Int)) = _
        rw [s0, w64 (by omega) (by omega)]; simp
      · show wrap64 ((q : Int) + shl .i64 (wrap64 0) (w : Int)) = _
        rw [s0, w64 (by omega) (by omega)]; simp
      · show wrap64 ((q : Int) + shl .i64 (wrap64 1) (w : Int)) = _
        rw [s1, w64 (by omega) (by omega)]; simp
    have key := key (a.testBit w) (b.testBit w)
    rw [show sumN w (fun i => a.testBit i && b.testBit i) + (if (a.testBit w && b.testBit w) = true then 2 ^ w else 0) = sumN (w + 1) (fun i => a.testBit i && b.testBit i) from rfl] at key
    simp only [spec_l1Both.l0]
    rw [if_pos (by omega), bit_nat a w (by omega)]
    simp only [Option.bind_some]
    rw [bit_nat b w (by omega)]
    simp only [Option.bind_some]
    rw [if_pos (by omega), key, e1]
    exact ih (w + 1) m (by omega) (by omega)
/-- What is in both sets. -/
theorem both_nat (a b k : Nat) (ha : a < 256) (hk : 9 ≤ k) : spec_l1Both.f k (a : Int) (b : Int) = some ((a &&& b : Nat) : Int) := by
  have h := both_l0 a b 8 0 k (by omega) (by omega)
  have e : sumN 8 (fun i => a.testBit i && b.testBit i) = a &&& b := by
    have h2 : a &&& b < 2 ^ 8 := Nat.lt_of_le_of_lt Nat.and_le_left ha
    rw [← sumN_bits 8 (a &&& b) h2]
    exact sumN_congr _ _ _ fun i _ => by rw [Nat.testBit_and]
  rw [e] at h
  unfold spec_l1Both.f
  simpa [sumN] using h
end Go.Proofs.Ytogifggjcdcodaa.L
namespace Go.Proofs.Ytogifggjcdcodaa.L
open Go.RowKit Go.Proofs.Ytogifggjcdcodaa.Hand Go.Proofs.YtogifggjcdcodaaW.PrintWords
set_option linter.unusedVariables false
set_option linter.unusedSimpArgs false
/-- Two rows of ranks are in the same order. -/
def Same (a b : List Int) : Prop := a.length = b.length ∧ ∀ i j : Nat, i < a.length → j < a.length → (rd a (i : Int) ≤ rd a (j : Int) ↔ rd b (i : Int) ≤ rd b (j : Int))
theorem Same.symm {a b : List Int} (h : Same a b) : Same b a := ⟨h.1.symm, fun i j hi hj => (h.2 i j (by rw [h.1]; exact hi) (by rw [h.1]; exact hj)).symm⟩
end Go.Proofs.Ytogifggjcdcodaa.L
namespace Go.Proofs.Ytogifggjcdcodaa.L
open Go.RowKit Go.Proofs.Ytogifggjcdcodaa.B Go.Proofs.Ytogifggjcdcodaa.U Go.Proofs.Ytogifggjcdcodaa.Hand Go.Proofs.YtogifggjcdcodaaW.PrintWords Go.Proofs.YtogifggjcdcodaaW.PrintLast Go.Proofs.YtogifggjcdcodaaW.PrintMore
set_option linter.unusedVariables false
set_option linter.unusedSimpArgs false
theorem par (x : Nat) : x % 2 = if x.testBit 0 = true then 1 else 0 := by
  rw [Nat.testBit_zero]
  rcases Nat.mod_two_eq_zero_or_one x with h | h <;> simp [h]
theorem or_add (a b : Nat) : (a ||| b) + (a &&& b) = a + b := by
  induction a using Nat.strongRecOn generalizing b with
  | _ a ih =>
    rcases Nat.eq_zero_or_pos a with rfl | h
    · simp
    · have h1 := ih (a / 2) (by omega) (b / 2)
      have e1 : (a ||| b) / 2 = a / 2 ||| b / 2 := Nat.or_div_two
      have e2 : (a &&& b) / 2 = a / 2 &&& b / 2 := Nat.and_div_two
      have e3 : (a ||| b) % 2 + (a &&& b) % 2 = a % 2 + b % 2 := by
        have t1 := par (a ||| b)
        have t2 := par (a &&& b)
        have t3 := par a
        have t4 := par b
        rw [t1, t2, t3, t4, Nat.testBit_or, Nat.testBit_and]
        cases a.testBit 0 <;> cases b.testBit 0 <;> rfl
      have d1 := Nat.div_add_mod (a ||| b) 2
      have d2 := Nat.div_add_mod (a &&& b) 2
      omega
theorem allW_pow {t : Int} (h : okT t = true) : (allW t).toNat + 1 = 2 ^ (nW t).toNat ∧ (nW t).toNat ≤ 8 ∧ 2 ≤ (nW t).toNat := by
  rcases okT_cases h with rfl | rfl | rfl <;> decide
/-- What is not in a set of the worlds below n. -/
theorem sub_xor (n s : Nat) (h : s < 2 ^ n) : (2 ^ n - 1) - s = (2 ^ n - 1) ^^^ s := by
  apply Nat.eq_of_testBit_eq
  intro i
  rw [Nat.testBit_xor, show 2 ^ n - 1 - s = 2 ^ n - (s + 1) by omega, Nat.testBit_two_pow_sub_succ h, Nat.testBit_two_pow_sub_one]
  by_cases hi : i < n
  · simp [hi]
  · have : s.testBit i = false := Nat.testBit_lt_two_pow (Nat.lt_of_lt_of_le h (Nat.pow_le_pow_right (by decide) (by omega)))
    simp [hi, this]
/-- The rest of a set. -/
theorem rest_eq (t : Int) (s : Nat) (ht : okT t = true) (h : (s : Int) ≤ allW t) : wrap64 (allW t - (s : Int)) = (((allW t).toNat ^^^ s : Nat) : Int) := by
  obtain ⟨h1, h2, h3⟩ := allW_pow ht
  have hr := allW_range ht
  rw [w64 (by omega) (by omega)]
  have e : (allW t).toNat = 2 ^ (nW t).toNat - 1 := by omega
  have := sub_xor (nW t).toNat s (by omega)
  rw [e, ← this]
  omega
theorem either_nat (a b k : Nat) (ha : a < 256) (hb : b < 256) (hk : 9 ≤ k) : spec_l1Either.f k (a : Int) (b : Int) = some ((a ||| b : Nat) : Int) := by
  unfold spec_l1Either.f
  rw [both_nat a b k ha hk]
  simp only [Option.bind_some]
  have h := or_add a b
  have h2 : a &&& b ≤ a := Nat.and_le_left
  rw [w64 (n := (a : Int) + b) (by omega) (by omega), w64 (by omega) (by omega)]
  congr 1; omega
theorem bit_step (q i : Nat) (P : Nat → Bool) (hi : i ≤ 8) (hP : P i = true) : wrap64 ((sumN i P : Nat) + shl .i64 1 (i : Int)) = ((sumN (i + 1) P : Nat) : Int) := by
  have hlt := sumN_lt i P
  have hp : 2 ^ i ≤ 2 ^ 8 := Nat.pow_le_pow_right (by decide) hi
  have s1 : shl .i64 1 (i : Int) = ((2 ^ i : Nat) : Int) := by
    have := shl_nat 1 i (by omega) (by omega)
    rw [Nat.one_mul] at this
    exact this
  have e : sumN (i + 1) P = sumN i P + 2 ^ i := by simp [sumN, hP]
  rw [s1, e]
  generalize 2 ^ i = m at *
  rw [w64 (by omega) (by omega)]; simp
end Go.Proofs.Ytogifggjcdcodaa.L
namespace Go.Proofs.Ytogifggjcdcodaa.L
open Go.RowKit Go.Proofs.Ytogifggjcdcodaa.B Go.Proofs.Ytogifggjcdcodaa.U Go.Proofs.Ytogifggjcdcodaa.Hand Go.Proofs.YtogifggjcdcodaaW.PrintWords Go.Proofs.YtogifggjcdcodaaW.PrintLast Go.Proofs.YtogifggjcdcodaaW.PrintMore
set_option linter.unusedVariables false
set_option linter.unusedSimpArgs false
theorem bt_byte (s : ByteArray) (i : Nat) : bt s (i : Int) = ((byteAt s i : Nat) : Int) := by
  unfold bt byteAt
  simp only [Int.toNat_natCast]
  split <;> rfl
theorem byteAt_end (s : ByteArray) (i : Nat) (h : s.size ≤ i) : byteAt s i = 0 := by
  unfold byteAt; rw [dif_neg (by omega)]
theorem read_l0 (t : Int) (ht : okT t = true) (s : ByteArray) (i : Nat) (hi : i < s.size) (hsz : s.size ≤ 2000000) (j : Nat) (hj : j ≤ 2) (hb : ((bt s (i : Int)) - 97) % 256 = (j : Int)) : ∀ (d w k : Nat), w + d = (nW t).toNat → d < k →
    spec_l1Read.l0 k t s (i : Int) (sumN w (fun x => x.testBit j) : Nat) w = some (((thingSet (nW t).toNat j : Nat) : Int), ((i + 1 : Nat) : Int)) := by
  obtain ⟨n1, n2, n3⟩ := nW_pos ht
  have hpos : 0 ≤ t := by rcases okT_cases ht with rfl | rfl | rfl <;> omega
  intro d
  induction d with
  | zero =>
    intro w k hw hk
    obtain ⟨m, rfl⟩ : ∃ m, k = m + 1 := ⟨k - 1, by omega⟩
    simp only [spec_l1Read.l0]
    rw [if_pos hpos, n3, if_neg (by omega), next64 i (by omega)]
    unfold thingSet
    rw [show w = (nW t).toNat by omega]
  | succ d ih =>
    intro w k hw hk
    obtain ⟨m, rfl⟩ : ∃ m, k = m + 1 := ⟨k - 1, by omega⟩
    have ih1 := ih (w + 1) m (by omega) (by omega)
    simp only [spec_l1Read.l0]
    rw [if_pos hpos, n3, if_pos (by omega), if_pos (by omega), if_pos (by omega), if_pos (by omega), hb, shr_nat w j (by omega), tmod2, next64 w (by omega)]
    cases h : w.testBit j with
    | true =>
      rw [if_pos rfl, bit_step 0 w (fun x => x.testBit j) (by omega) h]
      exact ih1
    | false =>
      have s0 : shl .i64 0 (w : Int) = 0 := by
        have := shl_nat 0 w (by omega) (by omega)
        rw [Nat.zero_mul] at this
        exact this
      have hlt := sumN_lt w (fun x => x.testBit j)
      have hp : 2 ^ w ≤ 2 ^ 8 := Nat.pow_le_pow_right (by decide) (by omega)
      rw [if_neg (by simp), s0, w64 (by omega) (by omega), Int.add_zero]
      rw [sumN_skip w _ h] at ih1
      exact ih1
theorem thingSet_lt (n i : Nat) : thingSet n i < 2 ^ n := sumN_lt _ _
/-- What the reference's reading hands back. -/
def readE (r : Nat × Bool × Nat) : Int × Int := if r.2.1 = true then ((r.1 : Int), (r.2.2 : Int)) else (-1, -1)
set_option maxHeartbeats 4000000 in
theorem read_eq (t : Nat) (ht : okT (t : Int) = true) (s : ByteArray) (hsz : s.size ≤ 2000000) : ∀ (d i k : Nat), i ≤ s.size → s.size - i < d → 4 * d + 30 ≤ k →
    spec_l1Read.f k (t : Int) s (i : Int) = some (readE (sent t s d i)) ∧ ((sent t s d i).2.1 = true → (((sent t s d i).1 : Nat) : Int) ≤ allW (t : Int) ∧ i < (sent t s d i).2.2 ∧ (sent t s d i).2.2 ≤ s.size) := by
  obtain ⟨p1, p2, p3⟩ := allW_pow ht
  have hA := allW_range ht
  have ht3 : 1 ≤ t ∧ t ≤ 3 := by rcases okT_cases ht with h | h | h <;> omega
  intro d
  induction d with
  | zero => intro i k h1 h2; omega
  | succ d ih =>
    intro i k hi hd hk
    obtain ⟨k, rfl⟩ : ∃ m, k = m + 1 := ⟨k - 1, by omega⟩
    by_cases hend : i = s.size
    · have hb0 := byteAt_end s i (by omega)
      have e : sent t s (d + 1) i = (0, false, nextAt s i) := by simp [sent, hb0]
      rw [e]
      refine ⟨?_, fun h => by cases h⟩
      simp only [spec_l1Read.f]
      rw [if_pos (by omega)]; rfl
    · have hlt : i < s.size := by omega
      have e1 : nextAt s i = i + 1 := by unfold nextAt; rw [if_pos hlt]
      have hb := bt_byte s i
      have hb256 := byteAt_lt s i
      have ih1 := fun k hk => ih (i + 1) k (by omega) (by omega) hk
      simp only [spec_l1Read.f]
      rw [if_neg (by omega), l1All_eq _ ht]
      simp only [Option.bind_some]
      rw [if_pos (by omega), if_pos (by omega), hb, next64 i (by omega)]
      by_cases c1 : byteAt s i = 49
      · have e : sent t s (d + 1) i = ((allW (t : Int)).toNat, true, i + 1) := by simp [sent, c1, e1]
        rw [e, if_pos (by omega)]
        refine ⟨?_, fun _ => ⟨by simp only []; omega, by simp only []; omega, by simp only []; omega⟩⟩
        unfold readE
        rw [if_pos rfl]
        simp only []
        rw [show (((allW (t : Int)).toNat : Nat) : Int) = allW (t : Int) by omega]
      rw [if_neg (by omega)]
      by_cases c2 : byteAt s i = 48
      · have e : sent t s (d + 1) i = (0, true, i + 1) := by simp [sent, c2, e1]
        rw [e, if_pos (by omega)]
        exact ⟨rfl, fun _ => ⟨by simp only []; omega, by simp only []; omega, by simp only []; omega⟩⟩
      rw [if_neg (by omega)]
      obtain ⟨k, rfl⟩ : ∃ m, k = m + 1 := ⟨k - 1, by omega⟩
      have hflag : (if ((byteAt s i : Nat) : Int) ≥ 97 then (spec_l1Read.j0 (k + 1) (t : Int) s (i : Int) (allW (t : Int)) (decide (((((byteAt s i : Nat) : Int) - 97) % 256) < (t : Int)))) else (spec_l1Read.j0 (k + 1) (t : Int) s (i : Int) (allW (t : Int)) false)) =
          spec_l1Read.j0 (k + 1) (t : Int) s (i : Int) (allW (t : Int)) (decide (97 ≤ byteAt s i ∧ byteAt s i - 97 < t)) := by
        by_cases c : 97 ≤ byteAt s i
        · rw [if_pos (by omega)]; congr 1; rw [decide_eq_decide]; omega
        · rw [if_neg (by omega)]; congr 1; symm; rw [decide_eq_false_iff_not]; omega
      rw [hflag]
      by_cases c3 : 97 ≤ byteAt s i ∧ byteAt s i - 97 < t
      · have e : sent t s (d + 1) i = (thingSet (nW (t : Int)).toNat (byteAt s i - 97), true, i + 1) := by
          simp only [sent]
          rw [if_neg c2, if_neg c1, if_pos (by omega), e1, decide_eq_true c3.2]
        rw [e, decide_eq_true c3]
        have hlt2 := thingSet_lt (nW (t : Int)).toNat (byteAt s i - 97)
        have h0 := read_l0 (t : Int) ht s i hlt hsz (byteAt s i - 97) (by omega) (by omega) (nW (t : Int)).toNat 0 k (by omega) (by omega)
        refine ⟨?_, fun _ => ⟨by simp only []; omega, by simp only []; omega, by simp only []; omega⟩⟩
        simp only [spec_l1Read.j0, if_true]
        exact h0
      rw [decide_eq_false c3]
      simp only [spec_l1Read.j0]
      rw [if_neg (by simp), if_pos (by omega), if_pos (by omega), hb, next64 i (by omega)]
      by_cases c4 : byteAt s i = 33
      · obtain ⟨r1, r2⟩ := ih1 k (by omega)
        have e : sent t s (d + 1) i = ((allW (t : Int)).toNat ^^^ (sent t s d (i + 1)).1, (sent t s d (i + 1)).2.1, (sent t s d (i + 1)).2.2) := by
          simp only [sent]
          rw [if_neg c2, if_neg c1, if_neg (by omega), if_pos c4, e1]
        rw [e, if_pos (by omega), r1]
        generalize sent t s d (i + 1) = R at *
        obtain ⟨a, o, p⟩ := R
        simp only [Option.bind_some] at *
        cases o with
        | false => simp [readE]
        | true =>
          obtain ⟨q1, q2, q3⟩ := r2 rfl
          have hx := Nat.xor_lt_two_pow (n := (nW (t : Int)).toNat) (show (allW (t : Int)).toNat < _ by omega) (show a < _ by omega)
          have hr := rest_eq (t : Int) a ht q1
          refine ⟨?_, fun _ => ⟨by omega, by omega, q3⟩⟩
          unfold readE
          rw [if_pos rfl, if_pos rfl]
          simp only []
          rw [if_neg (by omega), hr]
      rw [if_neg (by omega)]
      by_cases c5 : byteAt s i = 40
      · obtain ⟨r1, r2⟩ := ih1 k (by omega)
        rw [if_pos (by omega), r1]
        have e : sent t s (d + 1) i = (if (sent t s d (i + 1)).2.1 = false then (0, false, (sent t s d (i + 1)).2.2) else
            if (sent t s d (nextAt s (sent t s d (i + 1)).2.2)).2.1 = false then (0, false, (sent t s d (nextAt s (sent t s d (i + 1)).2.2)).2.2)
            else if byteAt s (sent t s d (nextAt s (sent t s d (i + 1)).2.2)).2.2 = 41 then
              (if byteAt s (sent t s d (i + 1)).2.2 = 38 then ((sent t s d (i + 1)).1 &&& (sent t s d (nextAt s (sent t s d (i + 1)).2.2)).1, true, nextAt s (sent t s d (nextAt s (sent t s d (i + 1)).2.2)).2.2)
              else if byteAt s (sent t s d (i + 1)).2.2 = 124 then ((sent t s d (i + 1)).1 ||| (sent t s d (nextAt s (sent t s d (i + 1)).2.2)).1, true, nextAt s (sent t s d (nextAt s (sent t s d (i + 1)).2.2)).2.2)
              else if byteAt s (sent t s d (i + 1)).2.2 = 62 then (((allW (t : Int)).toNat ^^^ (sent t s d (i + 1)).1) ||| (sent t s d (nextAt s (sent t s d (i + 1)).2.2)).1, true, nextAt s (sent t s d (nextAt s (sent t s d (i + 1)).2.2)).2.2)
              else (0, false, nextAt s (sent t s d (nextAt s (sent t s d (i + 1)).2.2)).2.2))
            else (0, false, nextAt s (sent t s d (nextAt s (sent t s d (i + 1)).2.2)).2.2)) := by
          simp only [sent]
          rw [if_neg c2, if_neg c1, if_neg (by omega), if_neg c4, if_pos c5, e1]
        rw [e]
        clear e
        generalize sent t s d (i + 1) = R at *
        obtain ⟨a, o, p⟩ := R
        obtain ⟨k, rfl⟩ : ∃ m, k = m + 1 := ⟨k - 1, by omega⟩
        cases o with
        | false => simp [readE, spec_l1Read.j2]
        | true =>
          obtain ⟨q1, q2, q3⟩ := r2 rfl
          simp only [] at q1 q2 q3
          simp only [readE, if_true, Option.bind_some]
          rw [if_neg (by omega)]
          by_cases hpe : p = s.size
          · have en : nextAt s p = p := by unfold nextAt; rw [if_neg (by omega)]
            have ee : (sent t s d p).2.1 = false := by
              cases d with
              | zero => rfl
              | succ d => simp [sent, byteAt_end s p (by omega)]
            rw [decide_eq_true (show (p : Int) ≥ (s.size : Int) by omega), en]
            simp [ee, spec_l1Read.j2]
          · have en : nextAt s p = p + 1 := by unfold nextAt; rw [if_pos (by omega)]
            obtain ⟨u1, u2⟩ := ih (p + 1) k (by omega) (by omega) (by omega)
            rw [decide_eq_false (show ¬ (p : Int) ≥ (s.size : Int) by omega), en]
            simp only [spec_l1Read.j2]
            rw [if_neg (by simp), next64 p (by omega), u1]
            generalize sent t s d (p + 1) = R2 at *
            obtain ⟨c, o2, p2'⟩ := R2
            obtain ⟨k, rfl⟩ : ∃ m, k = m + 1 := ⟨k - 1, by omega⟩
            cases o2 with
            | false => simp [readE, spec_l1Read.j3]
            | true =>
              obtain ⟨v1, v2, v3⟩ := u2 rfl
              simp only [] at v1 v2 v3
              simp only [readE, if_true, Option.bind_some]
              rw [if_neg (by omega)]
              by_cases hp2 : p2' = s.size
              · rw [if_pos (by omega)]
                simp [byteAt_end s p2' (by omega), spec_l1Read.j3]
              · have en2 : nextAt s p2' = p2' + 1 := by unfold nextAt; rw [if_pos (by omega)]
                rw [if_neg (by omega), if_pos (by omega), if_pos (by omega), bt_byte s p2', en2]
                by_cases h41 : byteAt s p2' = 41
                · rw [show ((((byteAt s p2' : Nat) : Int)) != 41) = false by simp; omega]
                  simp only [spec_l1Read.j3]
                  rw [if_neg (by simp), if_pos (by omega), if_pos (by omega), bt_byte s p, next64 p2' (by omega)]
                  simp only [Bool.true_eq_false, if_false]
                  rw [if_pos h41]
                  have hand : a &&& c ≤ a := Nat.and_le_left
                  have hor := Nat.or_lt_two_pow (n := (nW (t : Int)).toNat) (show a < _ by omega) (show c < _ by omega)
                  have hx := Nat.xor_lt_two_pow (n := (nW (t : Int)).toNat) (show (allW (t : Int)).toNat < _ by omega) (show a < _ by omega)
                  have hor2 := Nat.or_lt_two_pow (n := (nW (t : Int)).toNat) hx (show c < _ by omega)
                  have ha256 : a < 256 := by omega
                  have hc256 : c < 256 := by omega
                  have hx256 : (allW (t : Int)).toNat ^^^ a < 256 := by omega
                  by_cases g38 : byteAt s p = 38
                  · rw [if_pos (by omega), both_nat a c k ha256 (by omega)]
                    simp only [Option.bind_some]
                    rw [if_pos g38]
                    exact ⟨rfl, fun _ => ⟨by (try dsimp only); omega, by (try dsimp only); omega, by (try dsimp only); omega⟩⟩
                  rw [if_neg (by omega), if_neg g38]
                  by_cases g124 : byteAt s p = 124
                  · rw [if_pos (by omega), either_nat a c k ha256 hc256 (by omega)]
                    simp only [Option.bind_some]
                    rw [if_pos g124]
                    exact ⟨rfl, fun _ => ⟨by (try dsimp only); omega, by (try dsimp only); omega, by (try dsimp only); omega⟩⟩
                  rw [if_neg (by omega), if_neg g124]
                  by_cases g62 : byteAt s p = 62
                  · rw [if_pos (by omega), rest_eq (t : Int) a ht q1, either_nat _ c k hx256 hc256 (by omega)]
                    simp only [Option.bind_some]
                    rw [if_pos g62]
                    exact ⟨rfl, fun _ => ⟨by (try dsimp only); omega, by (try dsimp only); omega, by (try dsimp only); omega⟩⟩
                  rw [if_neg (by omega), if_neg g62]
                  exact ⟨rfl, fun h => by cases h⟩
                · rw [show ((((byteAt s p2' : Nat) : Int)) != 41) = true by simp; omega]
                  simp [spec_l1Read.j3, h41]
      · have e : sent t s (d + 1) i = (if 97 ≤ byteAt s i ∧ byteAt s i ≤ 99 then (thingSet (nW (t : Int)).toNat (byteAt s i - 97), false, i + 1) else (0, false, i + 1)) := by
          simp only [sent]
          rw [if_neg c2, if_neg c1, e1]
          by_cases cc : 97 ≤ byteAt s i ∧ byteAt s i ≤ 99
          · rw [if_pos (by omega), if_pos cc, decide_eq_false (by omega)]
          · rw [if_neg (by omega), if_neg c4, if_neg c5, if_neg cc]
        have e2 : (sent t s (d + 1) i).2.1 = false := by rw [e]; split <;> rfl
        rw [if_neg (by omega)]
        refine ⟨?_, fun h => by rw [e2] at h; cases h⟩
        unfold readE
        rw [e2]; rfl
/-- HoldsIn. -/
def holE (t : Int) (s : ByteArray) : Int × Bool := if okT t = true ∧ s.size ≤ 120 then holdsAt t s else (-1, false)
theorem sHoldsIn_eq (t : Int) (s : ByteArray) (k : Nat) (hk : 1000 ≤ k) : spec_HoldsIn.f k t s = some (holE t s) := by
  unfold spec_HoldsIn.f holE
  rw [l1In_13]
  simp only [Option.bind_some]
  obtain ⟨k, rfl⟩ : ∃ m, k = m + 1 := ⟨k - 1, by omega⟩
  cases ht : okT t with
  | false => simp [spec_HoldsIn.j0]
  | true =>
    rw [if_pos rfl]
    simp only [spec_HoldsIn.j0]
    by_cases hs : s.size ≤ 120
    · rw [if_neg (by simp; omega), if_pos (by simp [hs])]
      obtain ⟨n, rfl⟩ : ∃ n : Nat, t = (n : Int) := ⟨t.toNat, by rcases okT_cases ht with h | h | h <;> omega⟩
      obtain ⟨r1, r2⟩ := read_eq n ht s (by omega) (s.size + 1) 0 k (by omega) (by omega) (by omega)
      rw [show (0 : Int) = ((0 : Nat) : Int) from rfl, r1]
      unfold holdsAt
      rw [Int.toNat_natCast]
      generalize sent n s (s.size + 1) 0 = R at *
      obtain ⟨a, o, p⟩ := R
      simp only [Option.bind_some]
      cases o with
      | false => simp [readE]
      | true =>
        simp only [readE, if_true]
        by_cases hp : p = s.size
        · rw [if_pos (by omega), if_pos (by simp [hp])]
        · rw [if_neg (by omega), if_neg (by simp [hp])]
    · rw [if_pos (by simp; omega), if_neg (by simp [hs])]
theorem HoldsIn_eq (t : Int) (s : ByteArray) : impl_HoldsIn.f t s = some (holE t s) := by
  unfold impl_HoldsIn.f holE
  rw [areThings_eq]
  simp only [Option.bind_some]
  cases ht : okT t with
  | false => simp
  | true =>
    rw [if_pos rfl]
    by_cases hs : s.size ≤ 120
    · rw [if_neg (by omega), if_pos (by simp [hs]), show impl_holdsIn.f t s = some (holdsAt t s) by unfold impl_holdsIn.f; rw [if_pos ⟨ht, hs⟩]]
      rfl
    · rw [if_pos (by omega), if_neg (by simp [hs])]
end Go.Proofs.Ytogifggjcdcodaa.L
namespace Go.Proofs.Ytogifggjcdcodaa.Pure
open Go.RowKit Go.Proofs.Ytogifggjcdcodaa.B Go.Proofs.Ytogifggjcdcodaa.U Go.Proofs.Ytogifggjcdcodaa.Hand Go.Proofs.Ytogifggjcdcodaa.L Go.Proofs.YtogifggjcdcodaaW.PrintWords Go.Proofs.YtogifggjcdcodaaW.PrintLast Go.Proofs.YtogifggjcdcodaaW.PrintMore
set_option linter.unusedVariables false
set_option linter.unusedSimpArgs false
theorem FnExactHoldsIn : laws_FnExactHoldsIn.Pure := by
  intro t s _ _
  obtain ⟨k, hk⟩ : ∃ k : Nat, 1000 ≤ k := ⟨_, Nat.le_refl _⟩
  refine ⟨k, ?_⟩
  unfold laws_FnExactHoldsIn.f
  by_cases hl : (s.size : Int) > 1048576
  · rw [if_pos hl]
  · rw [if_neg hl, sHoldsIn_eq t s k (by omega)]
    simp only [Option.bind_some]
    rw [HoldsIn_eq t s]
    simp only [Option.bind_some]
    rw [if_pos trivial, if_neg (by simp)]
end Go.Proofs.Ytogifggjcdcodaa.Pure
