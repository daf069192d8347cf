/- The law FnHoldsIn, for all arguments. -/
import Derived.Test.YtcmhilebiojfaaaHm
import Derived.Test.YtcmhilebiojfaaaHandF
import Derived.Test.YtcmhilebiojfaaaSx1
import Derived.Test.YtcmhilebiojfaaaSx2
import Derived.Test.YtcmhilebiojfaaaSx3
import Derived.Test.YtcmhilebiojfaaaSx4
import Derived.Test.YtcmhilebiojfaaaSx5
namespace Go.Proofs.Ytcmhilebiojfaaa.L
open Go.RowKit Go.Proofs.Ytcmhilebiojfaaa.B Go.Proofs.Ytcmhilebiojfaaa.S Go.Proofs.Ytcmhilebiojfaaa.Hand Go.Proofs.YtcmhilebiojfaaaW.PrintWords Go.Proofs.YtcmhilebiojfaaaW.PrintLast Go.Proofs.YtcmhilebiojfaaaW.PrintMore
set_option linter.unusedVariables false
set_option linter.unusedSimpArgs false
theorem l1In_eq (a b c : Int) : spec_l1In.f a b c = some (decide (b ≤ a) && decide (a ≤ c)) := by
  unfold spec_l1In.f
  by_cases h : a ≥ b
  · rw [if_pos h]; simp [show b ≤ a from h]
  · rw [if_neg h]; simp [show ¬ b ≤ a from h]
theorem l1In_13 (a : Int) : spec_l1In.f a 1 3 = some (okT a) := l1In_eq a 1 3
theorem l1All_eq (a : Int) (h : okT a = true) : spec_l1All.f a = some (allW a) := by
  unfold spec_l1All.f allF; rw [if_pos h]
theorem SetOk_eq (t s : Int) : impl_SetOk.f t s = some (okS t s) := by
  unfold impl_SetOk.f
  rw [isSet_eq]; rfl
theorem WorldsOf_eq (t : Int) : impl_WorldsOf.f t = some (nW t) := by
  unfold impl_WorldsOf.f nW
  rw [areThings_eq]
  simp only [Option.bind_some]
  cases h : okT t with
  | false => simp
  | true => rcases okT_cases h with rfl | rfl | rfl <;> decide +kernel
theorem alive_eq : laws_alive.f = some true := by
  unfold laws_alive.f
  rw [WorldsOf_eq, WorldsOf_eq]
  decide +kernel
theorem whole_eq (t : Int) (h : okT t = true) : laws_whole.f t = some (allW t) := by
  unfold laws_whole.f allF; rw [if_pos h]
end Go.Proofs.Ytcmhilebiojfaaa.L
namespace Go.Proofs.Ytcmhilebiojfaaa.L
open Go.RowKit Go.Proofs.Ytcmhilebiojfaaa.B Go.Proofs.Ytcmhilebiojfaaa.S Go.Proofs.Ytcmhilebiojfaaa.Hand Go.Proofs.YtcmhilebiojfaaaW.PrintWords Go.Proofs.YtcmhilebiojfaaaW.PrintLast Go.Proofs.YtcmhilebiojfaaaW.PrintMore
set_option linter.unusedVariables false
set_option linter.unusedSimpArgs false
theorem xor_i64 (a b : Nat) (ha : a < 2 ^ 62) (hb : b < 2 ^ 62) : bits .xor .i64 a b = ((a ^^^ b : Nat) : Int) := by
  have hx : a ^^^ b < 2 ^ 62 := Nat.xor_lt_two_pow ha hb
  simp only [bits, BitVec.ofInt_natCast, BitVec.toNat_xor, BitVec.toNat_ofNat]
  have e : IntKind.i64.bits = 64 := rfl
  rw [e, Nat.mod_eq_of_lt (by omega), Nat.mod_eq_of_lt (by omega)]
  exact wraps_i64 _ (by omega) (by omega)
theorem xor_nonneg (x y : Int) (hx : 0 ≤ x) (hx2 : x < 4611686018427387904) (hy : 0 ≤ y) (hy2 : y < 4611686018427387904) : 0 ≤ bits .xor .i64 x y := by
  obtain ⟨a, rfl⟩ := Int.eq_ofNat_of_zero_le hx
  obtain ⟨b, rfl⟩ := Int.eq_ofNat_of_zero_le hy
  rw [xor_i64 a b (by omega) (by omega)]
  omega
/-- A reader's bytes. -/
structure Rd (b : List Int) : Prop where
  byte : ∀ x, x ∈ b → 0 ≤ x ∧ x ≤ 255
  len : b.length ≤ 2000
theorem Rd.at_ {b : List Int} (h : Rd b) (i : Int) : 0 ≤ rd b i ∧ rd b i ≤ 255 := by
  unfold rd
  rw [List.getD_eq_getElem?_getD]
  by_cases e : i.toNat < b.length
  · rw [List.getElem?_eq_getElem e]; exact h.byte _ (List.getElem_mem e)
  · rw [List.getElem?_eq_none (by omega)]; simp
theorem pick_ok {b : List Int} (hb : Rd b) (p n : Int) (hp : 0 ≤ p) (hp2 : p ≤ 1000000) (hn : 1 ≤ n) (hn2 : n ≤ 1000000) :
    ∃ v, 0 ≤ v ∧ v < n ∧ ∀ k, 1 ≤ k → spec_l20Rd_pick.f k b p n = some (v, p + 1) := by
  have e1 : wrap64 (p + 1) = p + 1 := w64 (by omega) (by omega)
  have e2 : wrap64 (p + 1 - 1) = p := by rw [w64 (by omega) (by omega)]; omega
  by_cases hl : (b.length : Int) = 0
  · refine ⟨0, by omega, by omega, fun k hk => ?_⟩
    obtain ⟨m, rfl⟩ : ∃ m, k = m + 1 := ⟨k - 1, by omega⟩
    unfold spec_l20Rd_pick.f
    rw [if_neg (by omega), e1]
    simp only [spec_l20Rd_pick.j0]
    rw [if_pos (by rw [hl]; rfl)]
  · have hlen : 0 < (b.length : Int) := by omega
    have hlen2 : (b.length : Int) ≤ 2000 := by have := hb.len; omega
    have hle : ¬ (((b.length : Int) == 0) = true) := fun h => hl (beq_iff_eq.1 h)
    by_cases hlt : p < (b.length : Int)
    · have hr := hb.at_ p
      refine ⟨Int.tmod (rd b p) n, Int.tmod_nonneg _ hr.1, Int.tmod_lt_of_pos _ (by omega), fun k hk => ?_⟩
      obtain ⟨m, rfl⟩ : ∃ m, k = m + 1 := ⟨k - 1, by omega⟩
      unfold spec_l20Rd_pick.f
      rw [if_neg (by omega), e1]
      simp only [spec_l20Rd_pick.j0]
      rw [if_neg hle, e2, if_pos hlt, if_pos hp, if_neg (by omega), w64 (n := rd b p) (by omega) (by omega)]
    · have m1 : 0 ≤ Int.tmod p (b.length : Int) := Int.tmod_nonneg _ hp
      have m2 : Int.tmod p (b.length : Int) < (b.length : Int) := Int.tmod_lt_of_pos _ hlen
      have e3 : wrap64 (wrap64 (p * 7) + 3) = p * 7 + 3 := by rw [w64 (n := p * 7) (by omega) (by omega), w64 (by omega) (by omega)]
      have m3 : 0 ≤ Int.tmod (p * 7 + 3) (b.length : Int) := Int.tmod_nonneg _ (by omega)
      have m4 : Int.tmod (p * 7 + 3) (b.length : Int) < (b.length : Int) := Int.tmod_lt_of_pos _ hlen
      have a1 := hb.at_ (Int.tmod p (b.length : Int))
      have a2 := hb.at_ (Int.tmod (p * 7 + 3) (b.length : Int))
      have d1 : 0 ≤ Int.tdiv p (b.length : Int) := Int.tdiv_nonneg hp (by omega)
      have d2 : Int.tdiv p (b.length : Int) ≤ p := by
        rw [Int.tdiv_eq_ediv_of_nonneg hp]
        exact Int.ediv_le_self _ hp
      generalize hA : rd b (Int.tmod p (b.length : Int)) = A at a1
      generalize hB : rd b (Int.tmod (p * 7 + 3) (b.length : Int)) = B at a2
      generalize hD : Int.tdiv p (b.length : Int) = D at d1 d2
      have eY : wrap64 (wrap64 (wrap64 (wrap64 (wrap64 A * 131) + wrap64 (wrap64 B * 1117)) + wrap64 (p * 29)) + wrap64 (wrap64 D * 53)) = A * 131 + B * 1117 + p * 29 + D * 53 := by
        rw [w64 (n := A) (by omega) (by omega), w64 (n := B) (by omega) (by omega), w64 (n := D) (by omega) (by omega), w64 (n := A * 131) (by omega) (by omega), w64 (n := B * 1117) (by omega) (by omega), w64 (n := p * 29) (by omega) (by omega), w64 (n := D * 53) (by omega) (by omega), w64 (n := A * 131 + B * 1117) (by omega) (by omega), w64 (n := A * 131 + B * 1117 + p * 29) (by omega) (by omega), w64 (by omega) (by omega)]
      generalize hY : A * 131 + B * 1117 + p * 29 + D * 53 = Y at eY
      have y1 : 0 ≤ Y := by omega
      have y2 : Y ≤ 200000000 := by omega
      have eq : Int.tdiv Y 64 = Y / 64 := Int.tdiv_eq_ediv_of_nonneg y1
      have hx : 0 ≤ Go.bits .xor .i64 Y (wrap64 (Int.tdiv Y 64)) := by
        rw [eq, w64 (by omega) (by omega)]
        exact xor_nonneg _ _ y1 (by omega) (by omega) (by omega)
      refine ⟨Int.tmod (Go.bits .xor .i64 Y (wrap64 (Int.tdiv Y 64))) n, Int.tmod_nonneg _ hx, Int.tmod_lt_of_pos _ (by omega), fun k hk => ?_⟩
      obtain ⟨m, rfl⟩ : ∃ m, k = m + 1 := ⟨k - 1, by omega⟩
      unfold spec_l20Rd_pick.f
      rw [if_neg (by omega), e1]
      simp only [spec_l20Rd_pick.j0]
      rw [if_neg hle, e2, if_neg hlt, if_neg hl, if_pos m1, if_pos m2, e3, if_pos m3, if_pos m4, if_neg (by omega), hA, hB, hD, eY]
theorem odd_ok {b : List Int} (hb : Rd b) (p n : Int) (hp : 0 ≤ p) (hp2 : p ≤ 1000000) (hn : 0 ≤ n) (hn2 : n ≤ 1000000) :
    ∃ (v : Bool) (p' : Int), p ≤ p' ∧ p' ≤ p + 1 ∧ ∀ k, 1 ≤ k → spec_l20Rd_odd.f k b p n = some (v, p') := by
  by_cases h : n > 0
  · obtain ⟨v, h0, h1, hv⟩ := pick_ok hb p n hp hp2 (by omega) hn2
    exact ⟨v == wrap64 (n - 1), p + 1, by omega, by omega, fun k hk => by unfold spec_l20Rd_odd.f; rw [if_pos h, hv k hk]; rfl⟩
  · exact ⟨false, p, by omega, by omega, fun k hk => by unfold spec_l20Rd_odd.f; rw [if_neg h]⟩
theorem things_ok {b : List Int} (hb : Rd b) (p n : Int) (hp : 0 ≤ p) (hp2 : p ≤ 900000) (hn : 0 ≤ n) (hn2 : n ≤ 1000000) :
    ∃ t p' : Int, p ≤ p' ∧ p' ≤ p + 2 ∧ -1 ≤ t ∧ t ≤ 4 ∧ ∀ k, 1 ≤ k → spec_l20Things.f k b p n = some (t, p') := by
  obtain ⟨v, p1, a1, a2, hv⟩ := odd_ok hb p n hp (by omega) hn hn2
  cases v with
  | true =>
    obtain ⟨i, i0, i1, hi⟩ := pick_ok hb p1 3 (by omega) (by omega) (by omega) (by omega)
    have hr : -1 ≤ rd [0, 4, -1] i ∧ rd [0, 4, -1] i ≤ 4 := by
      rcases (show i = 0 ∨ i = 1 ∨ i = 2 by omega) with rfl | rfl | rfl <;> decide
    refine ⟨rd [0, 4, -1] i, p1 + 1, by omega, by omega, hr.1, hr.2, fun k hk => ?_⟩
    unfold spec_l20Things.f
    rw [hv k hk]
    simp only [Option.bind_some, if_true]
    rw [hi k hk]
    simp only [Option.bind_some]
    rw [if_pos i0, if_pos (by simp; omega)]
  | false =>
    obtain ⟨i, i0, i1, hi⟩ := pick_ok hb p1 5 (by omega) (by omega) (by omega) (by omega)
    have hr : -1 ≤ rd [1, 2, 2, 3, 3] i ∧ rd [1, 2, 2, 3, 3] i ≤ 4 := by
      rcases (show i = 0 ∨ i = 1 ∨ i = 2 ∨ i = 3 ∨ i = 4 by omega) with rfl | rfl | rfl | rfl | rfl <;> decide
    refine ⟨rd [1, 2, 2, 3, 3] i, p1 + 1, by omega, by omega, hr.1, hr.2, fun k hk => ?_⟩
    unfold spec_l20Things.f
    rw [hv k hk]
    simp only [Option.bind_some]
    rw [if_neg (by simp), hi k hk]
    simp only [Option.bind_some]
    rw [if_pos i0, if_pos (by simp; omega)]
theorem open_ok (l0 : List Int) (hb : ∀ x ∈ l0, (Lit.int .u8 x).wf = true) : ∃ b, Rd b ∧ spec_l20Open.f l0 = some (b, 0) := by
  have hx : ∀ x ∈ l0, 0 ≤ x ∧ x ≤ 255 := fun x hx => by
    have := hb x hx
    simp [Lit.wf, IntKind.min, IntKind.max, IntKind.bits, IntKind.signed] at this
    omega
  unfold spec_l20Open.f
  by_cases h : (l0.length : Int) > 2000
  · rw [if_pos h, if_pos (by omega)]
    exact ⟨l0.take 2000, ⟨fun x hm => hx x (List.mem_of_mem_take hm), by simp; omega⟩, rfl⟩
  · rw [if_neg h]
    exact ⟨l0, ⟨hx, by omega⟩, rfl⟩
end Go.Proofs.Ytcmhilebiojfaaa.L
namespace Go.Proofs.Ytcmhilebiojfaaa.L
open Go.RowKit Go.Proofs.Ytcmhilebiojfaaa.B Go.Proofs.Ytcmhilebiojfaaa.S Go.Proofs.Ytcmhilebiojfaaa.Hand Go.Proofs.YtcmhilebiojfaaaW.PrintWords Go.Proofs.YtcmhilebiojfaaaW.PrintLast Go.Proofs.YtcmhilebiojfaaaW.PrintMore
set_option linter.unusedVariables false
set_option linter.unusedSimpArgs false
theorem bit_nat (a w : Nat) (hw : w ≤ 62) : spec_l1Bit.f (a : Int) (w : Int) = some (if a.testBit w = true then 1 else 0) := by
  unfold spec_l1Bit.f
  rw [if_pos (by omega), shr_nat a w hw, tmod2]
theorem both_l0 (a b : Nat) : ∀ (d w k : Nat), w + d = 8 → d < k →
    spec_l1Both.l0 k a b (sumN w (fun i => a.testBit i && b.testBit i) : Nat) w = some ((sumN 8 (fun i => a.testBit i && b.testBit i) : Nat) : Int) := by
  intro d
  induction d with
  | zero =>
    intro w k hw hk
    obtain ⟨m, rfl⟩ : ∃ m, k = m + 1 := ⟨k - 1, by omega⟩
    obtain rfl : w = 8 := by omega
    simp only [spec_l1Both.l0]
    rw [if_neg (by omega)]
  | succ d ih =>
    intro w k hw hk
    obtain ⟨m, rfl⟩ : ∃ m, k = m + 1 := ⟨k - 1, by omega⟩
    have hlt := sumN_lt w (fun i => a.testBit i && b.testBit i)
    have hp : 2 ^ w ≤ 2 ^ 7 := Nat.pow_le_pow_right (by decide) (by omega)
    have e1 : wrap64 ((w : Int) + 1) = ((w + 1 : Nat) : Int) := by rw [w64 (by omega) (by omega)]; simp
    have key : ∀ x y : Bool, wrap64 (((sumN w (fun i => a.testBit i && b.testBit i) : Nat) : Int) + shl .i64 (wrap64 ((if x = true then 1 else 0) * (if y = true then 1 else 0))) (w : Int)) = ((sumN w (fun i => a.testBit i && b.testBit i) + (if (x && y) = true then 2 ^ w else 0) : Nat) : Int) := by
      intro x y
      generalize sumN w (fun i => a.testBit i && b.testBit i) = q at hlt
      have s0 : shl .i64 (wrap64 0) (w : Int) = 0 := by
        have := shl_nat 0 w (by omega) (by omega)
        rw [Nat.zero_mul] at this
        rw [show wrap64 0 = 0 from w64 (by omega) (by omega)]
        exact this
      have s1 : shl .i64 (wrap64 1) (w : Int) = ((2 ^ w : Nat) : Int) := by
        have := shl_nat 1 w (by omega) (by omega)
        rw [Nat.one_mul] at this
        rw [show wrap64 1 = 1 from w64 (by omega) (by omega)]
        exact this
      generalize 2 ^ w = e at s1 hlt hp
      cases x <;> cases y
      · show wrap64 ((q : Int) + shl .i64 (wrap64 0) (w : Int)) = _
        rw [s0, w64 (by omega) (by omega)]; simp
      · show wrap64 ((q : Int) + shl .i64 (wrap64 0) (w : Int)) = _
        rw [s0, w64 (by omega) (by omega)]; simp
      · show wrap64 ((q : Int) + shl .i64 (wrap64 0) (w : Int)) = _
        rw [s0, w64 (by omega) (by omega)]; simp
      · show wrap64 ((q : Int) + shl .i64 (wrap64 1) (w : Int)) = _
        rw [s1, w64 (by omega) (by omega)]; simp
    have key := key (a.testBit w) (b.testBit w)
    rw [show sumN w (fun i => a.testBit i && b.testBit i) + (if (a.testBit w && b.testBit w) = true then 2 ^ w else 0) = sumN (w + 1) (fun i => a.testBit i && b.testBit i) from rfl] at key
    simp only [spec_l1Both.l0]
    rw [if_pos (by omega), bit_nat a w (by omega)]
    simp only [Option.bind_some]
    rw [bit_nat b w (by omega)]
    simp only [Option.bind_some]
    rw [if_pos (by omega), key, e1]
    exact ih (w + 1) m (by omega) (by omega)
/-- What is in both sets. -/
theorem both_nat (a b k : Nat) (ha : a < 256) (hk : 9 ≤ k) : spec_l1Both.f k (a : Int) (b : Int) = some ((a &&& b : Nat) : Int) := by
  have h := both_l0 a b 8 0 k (by omega) (by omega)
  have e : sumN 8 (fun i => a.testBit i && b.testBit i) = a &&& b := by
    have h2 : a &&& b < 2 ^ 8 := Nat.lt_of_le_of_lt Nat.and_le_left ha
    rw [← sumN_bits 8 (a &&& b) h2]
    exact sumN_congr _ _ _ fun i _ => by rw [Nat.testBit_and]
  rw [e] at h
  unfold spec_l1Both.f
  simpa [sumN] using h
end Go.Proofs.Ytcmhilebiojfaaa.L
namespace Go.Proofs.Ytcmhilebiojfaaa.L
open Go.RowKit Go.Proofs.Ytcmhilebiojfaaa.Hand Go.Proofs.YtcmhilebiojfaaaW.PrintWords
set_option linter.unusedVariables false
set_option linter.unusedSimpArgs false
/-- Two rows of ranks are in the same order. -/
def Same (a b : List Int) : Prop := a.length = b.length ∧ ∀ i j : Nat, i < a.length → j < a.length → (rd a (i : Int) ≤ rd a (j : Int) ↔ rd b (i : Int) ≤ rd b (j : Int))
theorem Same.symm {a b : List Int} (h : Same a b) : Same b a := ⟨h.1.symm, fun i j hi hj => (h.2 i j (by rw [h.1]; exact hi) (by rw [h.1]; exact hj)).symm⟩
end Go.Proofs.Ytcmhilebiojfaaa.L
namespace Go.Proofs.Ytcmhilebiojfaaa.L
open Go.RowKit Go.Proofs.Ytcmhilebiojfaaa.B Go.Proofs.Ytcmhilebiojfaaa.S Go.Proofs.Ytcmhilebiojfaaa.Hand Go.Proofs.YtcmhilebiojfaaaW.PrintWords Go.Proofs.YtcmhilebiojfaaaW.PrintLast Go.Proofs.YtcmhilebiojfaaaW.PrintMore
set_option linter.unusedVariables false
set_option linter.unusedSimpArgs false
theorem par (x : Nat) : x % 2 = if x.testBit 0 = true then 1 else 0 := by
  rw [Nat.testBit_zero]
  rcases Nat.mod_two_eq_zero_or_one x with h | h <;> simp [h]
theorem or_add (a b : Nat) : (a ||| b) + (a &&& b) = a + b := by
  induction a using Nat.strongRecOn generalizing b with
  | _ a ih =>
    rcases Nat.eq_zero_or_pos a with rfl | h
    · simp
    · have h1 := ih (a / 2) (by omega) (b / 2)
      have e1 : (a ||| b) / 2 = a / 2 ||| b / 2 := Nat.or_div_two
      have e2 : (a &&& b) / 2 = a / 2 &&& b / 2 := Nat.and_div_two
      have e3 : (a ||| b) % 2 + (a &&& b) % 2 = a % 2 + b % 2 := by
        have t1 := par (a ||| b)
        have t2 := par (a &&& b)
        have t3 := par a
        have t4 := par b
        rw [t1, t2, t3, t4, Nat.testBit_or, Nat.testBit_and]
        cases a.testBit 0 <;> cases b.testBit 0 <;> rfl
      have d1 := Nat.div_add_mod (a ||| b) 2
      have d2 := Nat.div_add_mod (a &&& b) 2
      omega
theorem allW_pow {t : Int} (h : okT t = true) : (allW t).toNat + 1 = 2 ^ (nW t).toNat ∧ (nW t).toNat ≤ 8 ∧ 2 ≤ (nW t).toNat := by
  rcases okT_cases h with rfl | rfl | rfl <;> decide
/-- What is not in a set of the worlds below n. -/
theorem sub_xor (n s : Nat) (h : s < 2 ^ n) : (2 ^ n - 1) - s = (2 ^ n - 1) ^^^ s := by
  apply Nat.eq_of_testBit_eq
  intro i
  rw [Nat.testBit_xor, show 2 ^ n - 1 - s = 2 ^ n - (s + 1) by omega, Nat.testBit_two_pow_sub_succ h, Nat.testBit_two_pow_sub_one]
  by_cases hi : i < n
  · simp [hi]
  · have : s.testBit i = false := Nat.testBit_lt_two_pow (Nat.lt_of_lt_of_le h (Nat.pow_le_pow_right (by decide) (by omega)))
    simp [hi, this]
/-- The rest of a set. -/
theorem rest_eq (t : Int) (s : Nat) (ht : okT t = true) (h : (s : Int) ≤ allW t) : wrap64 (allW t - (s : Int)) = (((allW t).toNat ^^^ s : Nat) : Int) := by
  obtain ⟨h1, h2, h3⟩ := allW_pow ht
  have hr := allW_range ht
  rw [w64 (by omega) (by omega)]
  have e : (allW t).toNat = 2 ^ (nW t).toNat - 1 := by omega
  have := sub_xor (nW t).toNat s (by omega)
  rw [e, ← this]
  omega
theorem either_nat (a b k : Nat) (ha : a < 256) (hb : b < 256) (hk : 9 ≤ k) : spec_l1Either.f k (a : Int) (b : Int) = some ((a ||| b : Nat) : Int) := by
  unfold spec_l1Either.f
  rw [both_nat a b k ha hk]
  simp only [Option.bind_some]
  have h := or_add a b
  have h2 : a &&& b ≤ a := Nat.and_le_left
  rw [w64 (n := (a : Int) + b) (by omega) (by omega), w64 (by omega) (by omega)]
  congr 1; omega
theorem bit_step (q i : Nat) (P : Nat → Bool) (hi : i ≤ 8) (hP : P i = true) : wrap64 ((sumN i P : Nat) + shl .i64 1 (i : Int)) = ((sumN (i + 1) P : Nat) : Int) := by
  have hlt := sumN_lt i P
  have hp : 2 ^ i ≤ 2 ^ 8 := Nat.pow_le_pow_right (by decide) hi
  have s1 : shl .i64 1 (i : Int) = ((2 ^ i : Nat) : Int) := by
    have := shl_nat 1 i (by omega) (by omega)
    rw [Nat.one_mul] at this
    exact this
  have e : sumN (i + 1) P = sumN i P + 2 ^ i := by simp [sumN, hP]
  rw [s1, e]
  generalize 2 ^ i = m at *
  rw [w64 (by omega) (by omega)]; simp
end Go.Proofs.Ytcmhilebiojfaaa.L
namespace Go.Proofs.Ytcmhilebiojfaaa.L
open Go.RowKit Go.Proofs.Ytcmhilebiojfaaa.B Go.Proofs.Ytcmhilebiojfaaa.S Go.Proofs.Ytcmhilebiojfaaa.Hand Go.Proofs.YtcmhilebiojfaaaW.PrintWords Go.Proofs.YtcmhilebiojfaaaW.PrintLast Go.Proofs.YtcmhilebiojfaaaW.PrintMore
set_option linter.unusedVariables false
set_option linter.unusedSimpArgs false
theorem bt_byte (s : ByteArray) (i : Nat) : bt s (i : Int) = ((byteAt s i : Nat) : Int) := by
  unfold bt byteAt
  simp only [Int.toNat_natCast]
  split <;> rfl
theorem byteAt_end (s : ByteArray) (i : Nat) (h : s.size ≤ i) : byteAt s i = 0 := by
  unfold byteAt; rw [dif_neg (by omega)]
theorem read_l0 (t : Int) (ht : okT t = true) (s : ByteArray) (i : Nat) (hi : i < s.size) (hsz : s.size ≤ 2000000) (j : Nat) (hj : j ≤ 2) (hb : ((bt s (i : Int)) - 97) % 256 = (j : Int)) : ∀ (d w k : Nat), w + d = (nW t).toNat → d < k →
    spec_l1Read.l0 k t s (i : Int) (sumN w (fun x => x.testBit j) : Nat) w = some (((thingSet (nW t).toNat j : Nat) : Int), ((i + 1 : Nat) : Int)) := by
  obtain ⟨n1, n2, n3⟩ := nW_pos ht
  have hpos : 0 ≤ t := by rcases okT_cases ht with rfl | rfl | rfl <;> omega
  intro d
  induction d with
  | zero =>
    intro w k hw hk
    obtain ⟨m, rfl⟩ : ∃ m, k = m + 1 := ⟨k - 1, by omega⟩
    simp only [spec_l1Read.l0]
    rw [if_pos hpos, n3, if_neg (by omega), next64 i (by omega)]
    unfold thingSet
    rw [show w = (nW t).toNat by omega]
  | succ d ih =>
    intro w k hw hk
    obtain ⟨m, rfl⟩ : ∃ m, k = m + 1 := ⟨k - 1, by omega⟩
    have ih1 := ih (w + 1) m (by omega) (by omega)
    simp only [spec_l1Read.l0]
    rw [if_pos hpos, n3, if_pos (by omega), if_pos (by omega), if_pos (by omega), if_pos (by omega), hb, shr_nat w j (by omega), tmod2, next64 w (by omega)]
    cases h : w.testBit j with
    | true =>
      rw [if_pos rfl, bit_step 0 w (fun x => x.testBit j) (by omega) h]
      exact ih1
    | false =>
      have s0 : shl .i64 0 (w : Int) = 0 := by
        have := shl_nat 0 w (by omega) (by omega)
        rw [Nat.zero_mul] at this
        exact this
      have hlt := sumN_lt w (fun x => x.testBit j)
      have hp : 2 ^ w ≤ 2 ^ 8 := Nat.pow_le_pow_right (by decide) (by omega)
      rw [if_neg (by simp), s0, w64 (by omega) (by omega), Int.add_zero]
      rw [sumN_skip w _ h] at ih1
      exact ih1
theorem thingSet_lt (n i : Nat) : thingSet n i < 2 ^ n := sumN_lt _ _
/-- What the reference's reading hands back. -/
def readE (r : Nat × Bool × Nat) : Int × Int := if r.2.1 = true then ((r.1 : Int), (r.2.2 : Int)) else (-1, -1)
set_option maxHeartbeats 4000000 in
theorem read_eq (t : Nat) (ht : okT (t : Int) = true) (s : ByteArray) (hsz : s.size ≤ 2000000) : ∀ (d i k : Nat), i ≤ s.size → s.size - i < d → 4 * d + 30 ≤ k →
    spec_l1Read.f k (t : Int) s (i : Int) = some (readE (sent t s d i)) ∧ ((sent t s d i).2.1 = true → (((sent t s d i).1 : Nat) : Int) ≤ allW (t : Int) ∧ i < (sent t s d i).2.2 ∧ (sent t s d i).2.2 ≤ s.size) := by
  obtain ⟨p1, p2, p3⟩ := allW_pow ht
  have hA := allW_range ht
  have ht3 : 1 ≤ t ∧ t ≤ 3 := by rcases okT_cases ht with h | h | h <;> omega
  intro d
  induction d with
  | zero => intro i k h1 h2; omega
  | succ d ih =>
    intro i k hi hd hk
    obtain ⟨k, rfl⟩ : ∃ m, k = m + 1 := ⟨k - 1, by omega⟩
    by_cases hend : i = s.size
    · have hb0 := byteAt_end s i (by omega)
      have e : sent t s (d + 1) i = (0, false, nextAt s i) := by simp [sent, hb0]
      rw [e]
      refine ⟨?_, fun h => by cases h⟩
      simp only [spec_l1Read.f]
      rw [if_pos (by omega)]; rfl
    · have hlt : i < s.size := by omega
      have e1 : nextAt s i = i + 1 := by unfold nextAt; rw [if_pos hlt]
      have hb := bt_byte s i
      have hb256 := byteAt_lt s i
      have ih1 := fun k hk => ih (i + 1) k (by omega) (by omega) hk
      simp only [spec_l1Read.f]
      rw [if_neg (by omega), l1All_eq _ ht]
      simp only [Option.bind_some]
      rw [if_pos (by omega), if_pos (by omega), hb, next64 i (by omega)]
      by_cases c1 : byteAt s i = 49
      · have e : sent t s (d + 1) i = ((allW (t : Int)).toNat, true, i + 1) := by simp [sent, c1, e1]
        rw [e, if_pos (by omega)]
        refine ⟨?_, fun _ => ⟨by simp only []; omega, by simp only []; omega, by simp only []; omega⟩⟩
        unfold readE
        rw [if_pos rfl]
        simp only []
        rw [show (((allW (t : Int)).toNat : Nat) : Int) = allW (t : Int) by omega]
      rw [if_neg (by omega)]
      by_cases c2 : byteAt s i = 48
      · have e : sent t s (d + 1) i = (0, true, i + 1) := by simp [sent, c2, e1]
        rw [e, if_pos (by omega)]
        exact ⟨rfl, fun _ => ⟨by simp only []; omega, by simp only []; omega, by simp only []; omega⟩⟩
      rw [if_neg (by omega)]
      obtain ⟨k, rfl⟩ : ∃ m, k = m + 1 := ⟨k - 1, by omega⟩
      have hflag : (if ((byteAt s i : Nat) : Int) ≥ 97 then (spec_l1Read.j0 (k + 1) (t : Int) s (i : Int) (allW (t : Int)) (decide (((((byteAt s i : Nat) : Int) - 97) % 256) < (t : Int)))) else (spec_l1Read.j0 (k + 1) (t : Int) s (i : Int) (allW (t : Int)) false)) =
          spec_l1Read.j0 (k + 1) (t : Int) s (i : Int) (allW (t : Int)) (decide (97 ≤ byteAt s i ∧ byteAt s i - 97 < t)) := by
        by_cases c : 97 ≤ byteAt s i
        · rw [if_pos (by omega)]; congr 1; rw [decide_eq_decide]; omega
        · rw [if_neg (by omega)]; congr 1; symm; rw [decide_eq_false_iff_not]; omega
      rw [hflag]
      by_cases c3 : 97 ≤ byteAt s i ∧ byteAt s i - 97 < t
      · have e : sent t s (d + 1) i = (thingSet (nW (t : Int)).toNat (byteAt s i - 97), true, i + 1) := by
          simp only [sent]
          rw [if_neg c2, if_neg c1, if_pos (by omega), e1, decide_eq_true c3.2]
        rw [e, decide_eq_true c3]
        have hlt2 := thingSet_lt (nW (t : Int)).toNat (byteAt s i - 97)
        have h0 := read_l0 (t : Int) ht s i hlt hsz (byteAt s i - 97) (by omega) (by omega) (nW (t : Int)).toNat 0 k (by omega) (by omega)
        refine ⟨?_, fun _ => ⟨by simp only []; omega, by simp only []; omega, by simp only []; omega⟩⟩
        simp only [spec_l1Read.j0, if_true]
        exact h0
      rw [decide_eq_false c3]
      simp only [spec_l1Read.j0]
      rw [if_neg (by simp), if_pos (by omega), if_pos (by omega), hb, next64 i (by omega)]
      by_cases c4 : byteAt s i = 33
      · obtain ⟨r1, r2⟩ := ih1 k (by omega)
        have e : sent t s (d + 1) i = ((allW (t : Int)).toNat ^^^ (sent t s d (i + 1)).1, (sent t s d (i + 1)).2.1, (sent t s d (i + 1)).2.2) := by
          simp only [sent]
          rw [if_neg c2, if_neg c1, if_neg (by omega), if_pos c4, e1]
        rw [e, if_pos (by omega), r1]
        generalize sent t s d (i + 1) = R at *
        obtain ⟨a, o, p⟩ := R
        simp only [Option.bind_some] at *
        cases o with
        | false => simp [readE]
        | true =>
          obtain ⟨q1, q2, q3⟩ := r2 rfl
          have hx := Nat.xor_lt_two_pow (n := (nW (t : Int)).toNat) (show (allW (t : Int)).toNat < _ by omega) (show a < _ by omega)
          have hr := rest_eq (t : Int) a ht q1
          refine ⟨?_, fun _ => ⟨by omega, by omega, q3⟩⟩
          unfold readE
          rw [if_pos rfl, if_pos rfl]
          simp only []
          rw [if_neg (by omega), hr]
      rw [if_neg (by omega)]
      by_cases c5 : byteAt s i = 40
      · obtain ⟨r1, r2⟩ := ih1 k (by omega)
        rw [if_pos (by omega), r1]
        have e : sent t s (d + 1) i = (if (sent t s d (i + 1)).2.1 = false then (0, false, (sent t s d (i + 1)).2.2) else
            if (sent t s d (nextAt s (sent t s d (i + 1)).2.2)).2.1 = false then (0, false, (sent t s d (nextAt s (sent t s d (i + 1)).2.2)).2.2)
            else if byteAt s (sent t s d (nextAt s (sent t s d (i + 1)).2.2)).2.2 = 41 then
              (if byteAt s (sent t s d (i + 1)).2.2 = 38 then ((sent t s d (i + 1)).1 &&& (sent t s d (nextAt s (sent t s d (i + 1)).2.2)).1, true, nextAt s (sent t s d (nextAt s (sent t s d (i + 1)).2.2)).2.2)
              else if byteAt s (sent t s d (i + 1)).2.2 = 124 then ((sent t s d (i + 1)).1 ||| (sent t s d (nextAt s (sent t s d (i + 1)).2.2)).1, true, nextAt s (sent t s d (nextAt s (sent t s d (i + 1)).2.2)).2.2)
              else if byteAt s (sent t s d (i + 1)).2.2 = 62 then (((allW (t : Int)).toNat ^^^ (sent t s d (i + 1)).1) ||| (sent t s d (nextAt s (sent t s d (i + 1)).2.2)).1, true, nextAt s (sent t s d (nextAt s (sent t s d (i + 1)).2.2)).2.2)
              else (0, false, nextAt s (sent t s d (nextAt s (sent t s d (i + 1)).2.2)).2.2))
            else (0, false, nextAt s (sent t s d (nextAt s (sent t s d (i + 1)).2.2)).2.2)) := by
          simp only [sent]
          rw [if_neg c2, if_neg c1, if_neg (by omega), if_neg c4, if_pos c5, e1]
        rw [e]
        clear e
        generalize sent t s d (i + 1) = R at *
        obtain ⟨a, o, p⟩ := R
        obtain ⟨k, rfl⟩ : ∃ m, k = m + 1 := ⟨k - 1, by omega⟩
        cases o with
        | false => simp [readE, spec_l1Read.j2]
        | true =>
          obtain ⟨q1, q2, q3⟩ := r2 rfl
          simp only [] at q1 q2 q3
          simp only [readE, if_true, Option.bind_some]
          rw [if_neg (by omega)]
          by_cases hpe : p = s.size
          · have en : nextAt s p = p := by unfold nextAt; rw [if_neg (by omega)]
            have ee : (sent t s d p).2.1 = false := by
              cases d with
              | zero => rfl
              | succ d => simp [sent, byteAt_end s p (by omega)]
            rw [decide_eq_true (show (p : Int) ≥ (s.size : Int) by omega), en]
            simp [ee, spec_l1Read.j2]
          · have en : nextAt s p = p + 1 := by unfold nextAt; rw [if_pos (by omega)]
            obtain ⟨u1, u2⟩ := ih (p + 1) k (by omega) (by omega) (by omega)
            rw [decide_eq_false (show ¬ (p : Int) ≥ (s.size : Int) by omega), en]
            simp only [spec_l1Read.j2]
            rw [if_neg (by simp), next64 p (by omega), u1]
            generalize sent t s d (p + 1) = R2 at *
            obtain ⟨c, o2, p2'⟩ := R2
            obtain ⟨k, rfl⟩ : ∃ m, k = m + 1 := ⟨k - 1, by omega⟩
            cases o2 with
            | false => simp [readE, spec_l1Read.j3]
            | true =>
              obtain ⟨v1, v2, v3⟩ := u2 rfl
              simp only [] at v1 v2 v3
              simp only [readE, if_true, Option.bind_some]
              rw [if_neg (by omega)]
              by_cases hp2 : p2' = s.size
              · rw [if_pos (by omega)]
                simp [byteAt_end s p2' (by omega), spec_l1Read.j3]
              · have en2 : nextAt s p2' = p2' + 1 := by unfold nextAt; rw [if_pos (by omega)]
                rw [if_neg (by omega), if_pos (by omega), if_pos (by omega), bt_byte s p2', en2]
                by_cases h41 : byteAt s p2' = 41
                · rw [show ((((byteAt s p2' : Nat) : Int)) != 41) = false by simp; omega]
                  simp only [spec_l1Read.j3]
                  rw [if_neg (by simp), if_pos (by omega), if_pos (by omega), bt_byte s p, next64 p2' (by omega)]
                  simp only [Bool.true_eq_false, if_false]
                  rw [if_pos h41]
                  have hand : a &&& c ≤ a := Nat.and_le_left
                  have hor := Nat.or_lt_two_pow (n := (nW (t : Int)).toNat) (show a < _ by omega) (show c < _ by omega)
                  have hx := Nat.xor_lt_two_pow (n := (nW (t : Int)).toNat) (show (allW (t : Int)).toNat < _ by omega) (show a < _ by omega)
                  have hor2 := Nat.or_lt_two_pow (n := (nW (t : Int)).toNat) hx (show c < _ by omega)
                  have ha256 : a < 256 := by omega
                  have hc256 : c < 256 := by omega
                  have hx256 : (allW (t : Int)).toNat ^^^ a < 256 := by omega
                  by_cases g38 : byteAt s p = 38
                  · rw [if_pos (by omega), both_nat a c k ha256 (by omega)]
                    simp only [Option.bind_some]
                    rw [if_pos g38]
                    exact ⟨rfl, fun _ => ⟨by (try dsimp only); omega, by (try dsimp only); omega, by (try dsimp only); omega⟩⟩
                  rw [if_neg (by omega), if_neg g38]
                  by_cases g124 : byteAt s p = 124
                  · rw [if_pos (by omega), either_nat a c k ha256 hc256 (by omega)]
                    simp only [Option.bind_some]
                    rw [if_pos g124]
                    exact ⟨rfl, fun _ => ⟨by (try dsimp only); omega, by (try dsimp only); omega, by (try dsimp only); omega⟩⟩
                  rw [if_neg (by omega), if_neg g124]
                  by_cases g62 : byteAt s p = 62
                  · rw [if_pos (by omega), rest_eq (t : Int) a ht q1, either_nat _ c k hx256 hc256 (by omega)]
                    simp only [Option.bind_some]
                    rw [if_pos g62]
                    exact ⟨rfl, fun _ => ⟨by (try dsimp only); omega, by (try dsimp only); omega, by (try dsimp only); omega⟩⟩
                  rw [if_neg (by omega), if_neg g62]
                  exact ⟨rfl, fun h => by cases h⟩
                · rw [show ((((byteAt s p2' : Nat) : Int)) != 41) = true by simp; omega]
                  simp [spec_l1Read.j3, h41]
      · have e : sent t s (d + 1) i = (if 97 ≤ byteAt s i ∧ byteAt s i ≤ 99 then (thingSet (nW (t : Int)).toNat (byteAt s i - 97), false, i + 1) else (0, false, i + 1)) := by
          simp only [sent]
          rw [if_neg c2, if_neg c1, e1]
          by_cases cc : 97 ≤ byteAt s i ∧ byteAt s i ≤ 99
          · rw [if_pos (by omega), if_pos cc, decide_eq_false (by omega)]
          · rw [if_neg (by omega), if_neg c4, if_neg c5, if_neg cc]
        have e2 : (sent t s (d + 1) i).2.1 = false := by rw [e]; split <;> rfl
        rw [if_neg (by omega)]
        refine ⟨?_, fun h => by rw [e2] at h; cases h⟩
        unfold readE
        rw [e2]; rfl
/-- HoldsIn. -/
def holE (t : Int) (s : ByteArray) : Int × Bool := if okT t = true ∧ s.size ≤ 120 then holdsAt t s else (-1, false)
theorem sHoldsIn_eq (t : Int) (s : ByteArray) (k : Nat) (hk : 1000 ≤ k) : spec_HoldsIn.f k t s = some (holE t s) := by
  unfold spec_HoldsIn.f holE
  rw [l1In_13]
  simp only [Option.bind_some]
  obtain ⟨k, rfl⟩ : ∃ m, k = m + 1 := ⟨k - 1, by omega⟩
  cases ht : okT t with
  | false => simp [spec_HoldsIn.j0]
  | true =>
    rw [if_pos rfl]
    simp only [spec_HoldsIn.j0]
    by_cases hs : s.size ≤ 120
    · rw [if_neg (by simp; omega), if_pos (by simp [hs])]
      obtain ⟨n, rfl⟩ : ∃ n : Nat, t = (n : Int) := ⟨t.toNat, by rcases okT_cases ht with h | h | h <;> omega⟩
      obtain ⟨r1, r2⟩ := read_eq n ht s (by omega) (s.size + 1) 0 k (by omega) (by omega) (by omega)
      rw [show (0 : Int) = ((0 : Nat) : Int) from rfl, r1]
      unfold holdsAt
      rw [Int.toNat_natCast]
      generalize sent n s (s.size + 1) 0 = R at *
      obtain ⟨a, o, p⟩ := R
      simp only [Option.bind_some]
      cases o with
      | false => simp [readE]
      | true =>
        simp only [readE, if_true]
        by_cases hp : p = s.size
        · rw [if_pos (by omega), if_pos (by simp [hp])]
        · rw [if_neg (by omega), if_neg (by simp [hp])]
    · rw [if_pos (by simp; omega), if_neg (by simp [hs])]
theorem HoldsIn_eq (t : Int) (s : ByteArray) : impl_HoldsIn.f t s = some (holE t s) := by
  unfold impl_HoldsIn.f holE
  rw [areThings_eq]
  simp only [Option.bind_some]
  cases ht : okT t with
  | false => simp
  | true =>
    rw [if_pos rfl]
    by_cases hs : s.size ≤ 120
    · rw [if_neg (by omega), if_pos (by simp [hs]), show impl_holdsIn.f t s = some (holdsAt t s) by unfold impl_holdsIn.f; rw [if_pos ⟨ht, hs⟩]]
      rfl
    · rw [if_pos (by omega), if_neg (by simp [hs])]
end Go.Proofs.Ytcmhilebiojfaaa.L
namespace Go.Proofs.Ytcmhilebiojfaaa.L
open Go.RowKit Go.Proofs.Ytcmhilebiojfaaa.B Go.Proofs.Ytcmhilebiojfaaa.S Go.Proofs.Ytcmhilebiojfaaa.Hand Go.Proofs.YtcmhilebiojfaaaW.PrintWords Go.Proofs.YtcmhilebiojfaaaW.PrintLast Go.Proofs.YtcmhilebiojfaaaW.PrintMore
set_option linter.unusedVariables false
set_option linter.unusedSimpArgs false
/-- A text stands inside another one, from a place on. -/
def Inside (s s' : ByteArray) (o : Nat) : Prop := s.size + o ≤ s'.size ∧ ∀ x, x < s.size → byteAt s' (x + o) = byteAt s x
theorem sent_shift (t : Nat) (s s' : ByteArray) (o : Nat) (hs : Inside s s' o) : ∀ (d i : Nat), (sent t s d i).2.1 = true → ∀ d', d ≤ d' → sent t s' d' (i + o) = ((sent t s d i).1, true, (sent t s d i).2.2 + o) := by
  obtain ⟨hsz, hs⟩ := hs
  have nx : ∀ x, x < s.size → nextAt s' (x + o) = x + 1 + o := by
    intro x hx; unfold nextAt; rw [if_pos (by omega)]; omega
  have nx0 : ∀ x, x < s.size → nextAt s x = x + 1 := by
    intro x hx; unfold nextAt; rw [if_pos hx]
  intro d
  induction d with
  | zero => intro i h; cases h
  | succ d ih =>
    intro i h d' hd
    obtain ⟨d', rfl⟩ : ∃ m, d' = m + 1 := ⟨d' - 1, by omega⟩
    have hd' : d ≤ d' := by omega
    have hi : i < s.size := by
      apply Classical.byContradiction; intro c
      have b0 := byteAt_end s i (by omega)
      simp [sent, b0] at h
    have hb := hs i hi
    have n2 := nx i hi
    have n1 := nx0 i hi
    simp only [sent] at h ⊢
    rw [hb, n2]; rw [n1] at h ⊢
    by_cases c1 : byteAt s i = 48
    · rw [if_pos c1, if_pos c1]
    rw [if_neg c1] at h
    rw [if_neg c1, if_neg c1]
    by_cases c2 : byteAt s i = 49
    · rw [if_pos c2, if_pos c2]
    rw [if_neg c2] at h
    rw [if_neg c2, if_neg c2]
    by_cases c3 : byteAt s i = 97 ∨ byteAt s i = 98 ∨ byteAt s i = 99
    · rw [if_pos c3] at h
      rw [if_pos c3, if_pos c3]
      simp only [] at h
      rw [h]
    rw [if_neg c3] at h
    rw [if_neg c3, if_neg c3]
    by_cases c4 : byteAt s i = 33
    · rw [if_pos c4] at h
      rw [if_pos c4, if_pos c4]
      simp only [] at h
      rw [ih (i + 1) h d' hd']
    rw [if_neg c4] at h
    rw [if_neg c4, if_neg c4]
    by_cases c5 : byteAt s i = 40
    · rw [if_pos c5] at h
      rw [if_pos c5, if_pos c5]
      have ih1 := ih (i + 1)
      generalize sent t s d (i + 1) = R at *
      obtain ⟨a, ok, p⟩ := R
      simp only [] at h ih1 ⊢
      cases ok with
      | false => simp at h
      | true =>
        rw [ih1 rfl d' hd']
        simp only [Bool.true_eq_false, if_false] at h ⊢
        have hp : p < s.size := by
          apply Classical.byContradiction; intro c
          have b0 := byteAt_end s p (by omega)
          have e : byteAt s p ≠ 38 ∧ byteAt s p ≠ 124 ∧ byteAt s p ≠ 62 := by omega
          rw [if_neg e.1, if_neg e.2.1, if_neg e.2.2] at h
          repeat' split at h
          all_goals cases h
        rw [nx p hp, hs p hp]
        rw [nx0 p hp] at h ⊢
        have ih2 := ih (p + 1)
        generalize sent t s d (p + 1) = R at *
        obtain ⟨b, ok, q⟩ := R
        simp only [] at h ih2 ⊢
        cases ok with
        | false => simp at h
        | true =>
          rw [ih2 rfl d' hd']
          simp only [Bool.true_eq_false, if_false] at h ⊢
          by_cases c6 : byteAt s q = 41
          · have hq : q < s.size := by
              apply Classical.byContradiction; intro c
              have b0 := byteAt_end s q (by omega)
              omega
            rw [if_pos c6] at h
            rw [nx q hq, hs q hq, nx0 q hq, if_pos c6, if_pos c6]
            by_cases g1 : byteAt s p = 38
            · rw [if_pos g1, if_pos g1]
            rw [if_neg g1] at h
            rw [if_neg g1, if_neg g1]
            by_cases g2 : byteAt s p = 124
            · rw [if_pos g2, if_pos g2]
            rw [if_neg g2] at h
            rw [if_neg g2, if_neg g2]
            by_cases g3 : byteAt s p = 62
            · rw [if_pos g3, if_pos g3]
            rw [if_neg g3] at h
            cases h
          · rw [if_neg c6] at h; cases h
    · rw [if_neg c5] at h; cases h
theorem holdsAt_ok {t : Int} {s : ByteArray} (h : (holE t s).2 = true) : okT t = true ∧ s.size ≤ 120 ∧ (sent t.toNat s (s.size + 1) 0).2.1 = true ∧ (sent t.toNat s (s.size + 1) 0).2.2 = s.size ∧ (holE t s).1 = ((sent t.toNat s (s.size + 1) 0).1 : Nat) ∧ (holE t s).1 ≤ allW t := by
  unfold holE at h ⊢
  by_cases hc : okT t = true ∧ s.size ≤ 120
  · rw [if_pos hc] at h ⊢
    unfold holdsAt at h ⊢
    by_cases h2 : (sent t.toNat s (s.size + 1) 0).2.1 = true ∧ (sent t.toNat s (s.size + 1) 0).2.2 = s.size
    · rw [if_pos h2]
      have e : ((t.toNat : Nat) : Int) = t := by rcases okT_cases hc.1 with h | h | h <;> omega
      have := (read_eq t.toNat (by rw [e]; exact hc.1) s (by omega) (s.size + 1) 0 (4 * (s.size + 1) + 30) (by omega) (by omega) (Nat.le_refl _)).2 h2.1
      rw [e] at this
      exact ⟨hc.1, hc.2, h2.1, h2.2, rfl, this.1⟩
    · rw [if_neg h2] at h; cases h
  · rw [if_neg hc] at h; cases h
theorem byteAt_append_left (a b : ByteArray) (i : Nat) (h : i < a.size) : byteAt (a ++ b) i = byteAt a i := by
  unfold byteAt
  rw [dif_pos (by rw [ByteArray.size_append]; omega), dif_pos h, ByteArray.getElem_append_left h]
theorem byteAt_append_right (a b : ByteArray) (i : Nat) : byteAt (a ++ b) (i + a.size) = byteAt b i := by
  unfold byteAt
  by_cases h : i < b.size
  · rw [dif_pos (by rw [ByteArray.size_append]; omega), dif_pos h, ByteArray.getElem_append_right (by omega)]
    simp
  · rw [dif_neg (by rw [ByteArray.size_append]; omega), dif_neg h]
theorem inside_right (a b : ByteArray) : Inside b (a ++ b) a.size := ⟨by rw [ByteArray.size_append]; omega, fun x hx => byteAt_append_right a b x⟩
theorem sent_33 (t : Nat) (s : ByteArray) (d i : Nat) (h : byteAt s i = 33) : sent t s (d + 1) i = ((allW t).toNat ^^^ (sent t s d (nextAt s i)).1, (sent t s d (nextAt s i)).2.1, (sent t s d (nextAt s i)).2.2) := by
  simp only [sent]
  rw [h, if_neg (by decide), if_neg (by decide), if_neg (by decide), if_pos rfl]
/-- Not. -/
theorem hol_not {t : Int} {s x : ByteArray} (hx1 : x.size = 1) (hx : byteAt x 0 = 33) (h : (holE t s).2 = true) : holE t (x ++ s) = if s.size < 120 then (allW t - (holE t s).1, true) else (-1, false) := by
  obtain ⟨h1, h2, h3, h4, h5, h6⟩ := holdsAt_ok h
  have hA := allW_range h1
  have hsz : (x ++ s).size = 1 + s.size := by rw [ByteArray.size_append, hx1]
  have hin := inside_right x s
  rw [hx1] at hin
  have hsh := sent_shift t.toNat s (x ++ s) 1 hin (s.size + 1) 0 h3 (s.size + 1) (Nat.le_refl _)
  rw [h4, Nat.zero_add] at hsh
  have e : ((t.toNat : Nat) : Int) = t := by rcases okT_cases h1 with h | h | h <;> omega
  have hs0 : sent t.toNat (x ++ s) ((x ++ s).size + 1) 0 = ((allW t).toNat ^^^ (sent t.toNat s (s.size + 1) 0).1, true, s.size + 1) := by
    have b0 : byteAt (x ++ s) 0 = 33 := by rw [byteAt_append_left _ _ _ (by omega)]; exact hx
    have n0 : nextAt (x ++ s) 0 = 1 := by unfold nextAt; rw [if_pos (by omega)]
    rw [hsz, show 1 + s.size + 1 = (s.size + 1) + 1 by omega, sent_33 _ _ _ _ b0, n0, hsh, e]
  rw [h5]
  rw [h5] at h6
  generalize (sent t.toNat s (s.size + 1) 0).1 = a at *
  have hr := rest_eq t a h1 h6
  rw [w64 (by omega) (by omega)] at hr
  unfold holE
  rw [hsz]
  by_cases hc : s.size < 120
  · rw [if_pos ⟨h1, by omega⟩, if_pos hc]
    unfold holdsAt
    rw [hs0, hsz, if_pos ⟨rfl, by (try dsimp only); omega⟩]
    simp only []
    rw [hr]
  · rw [if_neg (by omega), if_neg hc]
end Go.Proofs.Ytcmhilebiojfaaa.L
namespace Go.Proofs.Ytcmhilebiojfaaa.L
open Go.RowKit Go.Proofs.Ytcmhilebiojfaaa.B Go.Proofs.Ytcmhilebiojfaaa.S Go.Proofs.Ytcmhilebiojfaaa.Hand Go.Proofs.YtcmhilebiojfaaaW.PrintWords Go.Proofs.YtcmhilebiojfaaaW.PrintLast Go.Proofs.YtcmhilebiojfaaaW.PrintMore
set_option linter.unusedVariables false
set_option linter.unusedSimpArgs false
theorem sz33 : (⟨#[33]⟩ : ByteArray).size = 1 := rfl
theorem sz38 : (⟨#[38]⟩ : ByteArray).size = 1 := rfl
theorem sz40 : (⟨#[40]⟩ : ByteArray).size = 1 := rfl
theorem sz41 : (⟨#[41]⟩ : ByteArray).size = 1 := rfl
theorem sz62 : (⟨#[62]⟩ : ByteArray).size = 1 := rfl
theorem sz124 : (⟨#[124]⟩ : ByteArray).size = 1 := rfl
/-- The greatest text at a depth, and how many places are read for it at most. -/
def zS : Nat → Nat
  | 0 => 1
  | n + 1 => 2 * zS n + 3
def zP : Nat → Nat
  | 0 => 2
  | n + 1 => 2 * zP n + 2
theorem leaf_size (i : Int) (h0 : 0 ≤ i) (h1 : i < 6) : (rdOf ByteArray.empty ([(⟨#[97]⟩ : ByteArray), (⟨#[98]⟩ : ByteArray), (⟨#[99]⟩ : ByteArray), (⟨#[97]⟩ : ByteArray), (⟨#[48]⟩ : ByteArray), (⟨#[49]⟩ : ByteArray)] : List ByteArray) i).size = 1 := by
  rcases (show i = 0 ∨ i = 1 ∨ i = 2 ∨ i = 3 ∨ i = 4 ∨ i = 5 by omega) with rfl | rfl | rfl | rfl | rfl | rfl <;> rfl
theorem leaf_n (t v : Int) (v0 : 0 ≤ v) (v1 : v < 8) : ∃ n, wrap64 ((mx (mn t 3) 1) + (wrap64 ((wrap64 (Int.tdiv v 7)) * 3))) = n ∧ 1 ≤ n ∧ n ≤ 6 := by
  have h0 : 0 ≤ Int.tdiv v 7 := Int.tdiv_nonneg v0 (by decide)
  have h1 : Int.tdiv v 7 ≤ 1 := by rw [Int.tdiv_eq_ediv_of_nonneg v0]; omega
  have hm : 1 ≤ mx (mn t 3) 1 ∧ mx (mn t 3) 1 ≤ 3 := by unfold mx mn; (repeat' split) <;> omega
  rw [w64 (n := Int.tdiv v 7) (by omega) (by omega), w64 (n := Int.tdiv v 7 * 3) (by omega) (by omega), w64 (by omega) (by omega)]
  exact ⟨_, rfl, by omega, by omega⟩
theorem leaf_ok {b : List Int} (hb : Rd b) (t a p : Int) (hp : 0 ≤ p) (hp2 : p ≤ 900000) :
    ∃ s : ByteArray, s.size = 1 ∧ ∀ k, 3 ≤ k → spec_l20Sentence.j0 k t a true b p = some (s, p + 1 + 1) := by
  obtain ⟨v, v0, v1, hv⟩ := pick_ok hb p 8 hp (by omega) (by omega) (by omega)
  obtain ⟨n, en, n0, n1⟩ := leaf_n t v v0 v1
  obtain ⟨i, i0, i1, hi⟩ := pick_ok hb (p + 1) n (by omega) (by omega) n0 (by omega)
  refine ⟨_, leaf_size i i0 (by omega), fun k hk => ?_⟩
  obtain ⟨m, rfl⟩ : ∃ m, k = m + 1 := ⟨k - 1, by omega⟩
  simp only [spec_l20Sentence.j0, if_true, Option.bind_some]
  rw [hv m (by omega)]
  simp only [Option.bind_some]
  rw [en, hi m (by omega)]
  simp only [Option.bind_some]
  rw [if_pos i0, if_pos (by simp; omega)]
theorem sentence_ok {b : List Int} (hb : Rd b) (t : Int) : ∀ (n : Nat), n ≤ 3 → ∀ (p : Int), 0 ≤ p → p ≤ 900000 - 100 * n →
    ∃ (s : ByteArray) (p' : Int), 1 ≤ s.size ∧ s.size ≤ zS n ∧ p ≤ p' ∧ p' ≤ p + zP n ∧ ∀ k, 2 * n + 10 ≤ k → spec_l20Sentence.f k b p t n = some (s, p') := by
  intro n
  induction n with
  | zero =>
    intro _ p hp hp2
    obtain ⟨s, hs, hj⟩ := leaf_ok hb t 0 p hp (by omega)
    refine ⟨s, p + 1 + 1, by omega, by unfold zS; omega, by omega, by unfold zP; omega, fun k hk => ?_⟩
    obtain ⟨m, rfl⟩ : ∃ m, k = m + 1 := ⟨k - 1, by omega⟩
    simp only [spec_l20Sentence.f]
    rw [if_pos (by simp)]
    exact hj m (by omega)
  | succ n ih =>
    intro hn p hp hp2
    have hz : zS n ≤ 13 := by
      rcases (show n = 0 ∨ n = 1 ∨ n = 2 by omega) with rfl | rfl | rfl <;> decide
    have hzp : zP n ≤ 14 := by
      rcases (show n = 0 ∨ n = 1 ∨ n = 2 by omega) with rfl | rfl | rfl <;> decide
    have hzq : 2 ≤ zP n := by
      rcases (show n = 0 ∨ n = 1 ∨ n = 2 by omega) with rfl | rfl | rfl <;> decide
    have ew : wrap64 (((n + 1 : Nat) : Int) - 1) = (n : Int) := by rw [w64 (by omega) (by omega)]; simp
    obtain ⟨v, v0, v1, hv⟩ := pick_ok hb p 3 hp (by omega) (by omega) (by omega)
    have start : ∀ k, spec_l20Sentence.f (k + 2) b p t ((n + 1 : Nat) : Int) = spec_l20Sentence.j0 (k + 1) t ((n + 1 : Nat) : Int) (v == 0) b (p + 1) := by
      intro k
      rw [spec_l20Sentence.f, if_neg (by omega), hv (k + 1) (by omega)]
      rfl
    cases hv0 : (v == 0) with
    | true =>
      obtain ⟨s, hs, hj⟩ := leaf_ok hb t ((n + 1 : Nat) : Int) (p + 1) (by omega) (by omega)
      refine ⟨s, p + 1 + 1 + 1, by omega, by unfold zS; omega, by omega, by unfold zP; omega, fun k hk => ?_⟩
      obtain ⟨m, rfl⟩ : ∃ m, k = m + 2 := ⟨k - 2, by omega⟩
      rw [start m, hv0]
      exact hj (m + 1) (by omega)
    | false =>
      obtain ⟨c, c0, c1, hc⟩ := pick_ok hb (p + 1) 4 (by omega) (by omega) (by omega) (by omega)
      obtain ⟨s1, p1, a1, a2, a3, a4, h1⟩ := ih (by omega) (p + 1 + 1) (by omega) (by omega)
      obtain ⟨s2, p2, b1, b2, b3, b4, h2⟩ := ih (by omega) p1 (by omega) (by omega)
      by_cases e0 : c = 0
      · refine ⟨(⟨#[33]⟩ : ByteArray) ++ s1, p1, ?_, ?_, by omega, by unfold zP; omega, fun k hk => ?_⟩
        · rw [ByteArray.size_append, sz33]; omega
        · rw [ByteArray.size_append, sz33]; unfold zS; omega
        obtain ⟨m, rfl⟩ : ∃ m, k = m + 2 := ⟨k - 2, by omega⟩
        rw [start m, hv0]
        simp only [spec_l20Sentence.j0]
        rw [if_neg (by simp), hc m (by omega)]
        simp only [Option.bind_some]
        rw [if_pos e0, ew, h1 m (by omega)]
        simp only [Option.bind_some]
        rw [if_pos (by omega)]
      · have fin : ∀ x : ByteArray, x.size = 1 → ((((⟨#[40]⟩ : ByteArray) ++ s1) ++ x) ++ s2 ++ (⟨#[41]⟩ : ByteArray)).size = s1.size + s2.size + 3 := by
          intro x hx
          simp only [ByteArray.size_append, sz40, sz41, hx]; omega
        by_cases e1 : c = 1
        · refine ⟨((((⟨#[40]⟩ : ByteArray) ++ s1) ++ (⟨#[38]⟩ : ByteArray)) ++ s2) ++ (⟨#[41]⟩ : ByteArray), p2, ?_, ?_, by omega, by unfold zP; omega, fun k hk => ?_⟩
          rotate_left 2
          · obtain ⟨m, rfl⟩ : ∃ m, k = m + 2 := ⟨k - 2, by omega⟩
            rw [start m, hv0]
            simp only [spec_l20Sentence.j0]
            rw [if_neg (by simp), hc m (by omega)]
            simp only [Option.bind_some]
            rw [if_neg e0, if_pos e1, ew, h1 m (by omega)]
            simp only [Option.bind_some]
            rw [if_pos (by omega), if_pos (by rw [ByteArray.size_append, sz40]; omega), h2 m (by omega)]
            simp only [Option.bind_some]
            rw [if_pos (by simp only [ByteArray.size_append, sz40, sz38]; omega), if_pos (by simp only [ByteArray.size_append, sz40, sz38]; omega)]
          · rw [fin _ sz38]; omega
          · rw [fin _ sz38]; unfold zS; omega
        · by_cases e2 : c = 2
          · refine ⟨((((⟨#[40]⟩ : ByteArray) ++ s1) ++ (⟨#[124]⟩ : ByteArray)) ++ s2) ++ (⟨#[41]⟩ : ByteArray), p2, ?_, ?_, by omega, by unfold zP; omega, fun k hk => ?_⟩
            rotate_left 2
            · obtain ⟨m, rfl⟩ : ∃ m, k = m + 2 := ⟨k - 2, by omega⟩
              rw [start m, hv0]
              simp only [spec_l20Sentence.j0]
              rw [if_neg (by simp), hc m (by omega)]
              simp only [Option.bind_some]
              rw [if_neg e0, if_neg e1, if_pos e2, ew, h1 m (by omega)]
              simp only [Option.bind_some]
              rw [if_pos (by omega), if_pos (by rw [ByteArray.size_append, sz40]; omega), h2 m (by omega)]
              simp only [Option.bind_some]
              rw [if_pos (by simp only [ByteArray.size_append, sz40, sz124]; omega), if_pos (by simp only [ByteArray.size_append, sz40, sz124]; omega)]
            · rw [fin _ sz124]; omega
            · rw [fin _ sz124]; unfold zS; omega
          · refine ⟨((((⟨#[40]⟩ : ByteArray) ++ s1) ++ (⟨#[62]⟩ : ByteArray)) ++ s2) ++ (⟨#[41]⟩ : ByteArray), p2, ?_, ?_, by omega, by unfold zP; omega, fun k hk => ?_⟩
            rotate_left 2
            · obtain ⟨m, rfl⟩ : ∃ m, k = m + 2 := ⟨k - 2, by omega⟩
              rw [start m, hv0]
              simp only [spec_l20Sentence.j0]
              rw [if_neg (by simp), hc m (by omega)]
              simp only [Option.bind_some]
              rw [if_neg e0, if_neg e1, if_neg e2, ew, h1 m (by omega)]
              simp only [Option.bind_some]
              rw [if_pos (by omega), if_pos (by rw [ByteArray.size_append, sz40]; omega), h2 m (by omega)]
              simp only [Option.bind_some]
              rw [if_pos (by simp only [ByteArray.size_append, sz40, sz62]; omega), if_pos (by simp only [ByteArray.size_append, sz40, sz62]; omega)]
            · rw [fin _ sz62]; omega
            · rw [fin _ sz62]; unfold zS; omega
end Go.Proofs.Ytcmhilebiojfaaa.L
namespace Go.Proofs.Ytcmhilebiojfaaa.L
open Go.RowKit Go.Proofs.Ytcmhilebiojfaaa.B Go.Proofs.Ytcmhilebiojfaaa.S Go.Proofs.Ytcmhilebiojfaaa.Hand Go.Proofs.YtcmhilebiojfaaaW.PrintWords Go.Proofs.YtcmhilebiojfaaaW.PrintLast Go.Proofs.YtcmhilebiojfaaaW.PrintMore
set_option linter.unusedVariables false
set_option linter.unusedSimpArgs false
def senOk (t s : Int) : Bool := match impl_SentenceOf.f 2000 t s with
  | none => false
  | some x => !decide (x.toList = ([] : List UInt8)) && decide (holE t x = (s, true))
set_option maxRecDepth 100000 in
theorem sen1 : ∀ s : Fin 4, senOk 1 ((s.val : Nat) : Int) = true := by decide +kernel
set_option maxRecDepth 100000 in
theorem sen2 : ∀ s : Fin 16, senOk 2 ((s.val : Nat) : Int) = true := by decide +kernel
set_option maxRecDepth 100000 in
theorem sen3_0 : ∀ s : Fin 32, senOk 3 ((s.val + 0 : Nat) : Int) = true := by decide +kernel
set_option maxRecDepth 100000 in
theorem sen3_1 : ∀ s : Fin 32, senOk 3 ((s.val + 32 : Nat) : Int) = true := by decide +kernel
set_option maxRecDepth 100000 in
theorem sen3_2 : ∀ s : Fin 32, senOk 3 ((s.val + 64 : Nat) : Int) = true := by decide +kernel
set_option maxRecDepth 100000 in
theorem sen3_3 : ∀ s : Fin 32, senOk 3 ((s.val + 96 : Nat) : Int) = true := by decide +kernel
set_option maxRecDepth 100000 in
theorem sen3_4 : ∀ s : Fin 32, senOk 3 ((s.val + 128 : Nat) : Int) = true := by decide +kernel
set_option maxRecDepth 100000 in
theorem sen3_5 : ∀ s : Fin 32, senOk 3 ((s.val + 160 : Nat) : Int) = true := by decide +kernel
set_option maxRecDepth 100000 in
theorem sen3_6 : ∀ s : Fin 32, senOk 3 ((s.val + 192 : Nat) : Int) = true := by decide +kernel
set_option maxRecDepth 100000 in
theorem sen3_7 : ∀ s : Fin 32, senOk 3 ((s.val + 224 : Nat) : Int) = true := by decide +kernel
theorem sen3 (n : Nat) (h : n < 256) : senOk 3 (n : Int) = true := by
  rcases (show 0 ≤ n ∧ n < 32 ∨ 32 ≤ n ∧ n < 64 ∨ 64 ≤ n ∧ n < 96 ∨ 96 ≤ n ∧ n < 128 ∨ 128 ≤ n ∧ n < 160 ∨ 160 ≤ n ∧ n < 192 ∨ 192 ≤ n ∧ n < 224 ∨ 224 ≤ n ∧ n < 256 by omega) with h | h | h | h | h | h | h | h
  · have := sen3_0 ⟨n - 0, by omega⟩
    rwa [show (n - 0) + 0 = n by omega] at this
  · have := sen3_1 ⟨n - 32, by omega⟩
    rwa [show (n - 32) + 32 = n by omega] at this
  · have := sen3_2 ⟨n - 64, by omega⟩
    rwa [show (n - 64) + 64 = n by omega] at this
  · have := sen3_3 ⟨n - 96, by omega⟩
    rwa [show (n - 96) + 96 = n by omega] at this
  · have := sen3_4 ⟨n - 128, by omega⟩
    rwa [show (n - 128) + 128 = n by omega] at this
  · have := sen3_5 ⟨n - 160, by omega⟩
    rwa [show (n - 160) + 160 = n by omega] at this
  · have := sen3_6 ⟨n - 192, by omega⟩
    rwa [show (n - 192) + 192 = n by omega] at this
  · have := sen3_7 ⟨n - 224, by omega⟩
    rwa [show (n - 224) + 224 = n by omega] at this
theorem sen_all {t s : Int} (h : okS t s = true) : senOk t s = true := by
  obtain ⟨a1, a2, a3, a4⟩ := okS_cases h
  obtain ⟨n, rfl⟩ := Int.eq_ofNat_of_zero_le a2
  rcases okT_cases a1 with rfl | rfl | rfl
  · have : (n : Int) ≤ 3 := a3
    exact sen1 ⟨n, by omega⟩
  · have : (n : Int) ≤ 15 := a3
    exact sen2 ⟨n, by omega⟩
  · exact sen3 n (by omega)
theorem sentence_of {t s : Int} (h : okS t s = true) : ∃ x : ByteArray, impl_SentenceOf.f 2000 t s = some x ∧ x.toList ≠ ([] : List UInt8) ∧ holE t x = (s, true) := by
  have hk := sen_all h
  unfold senOk at hk
  cases hx : impl_SentenceOf.f 2000 t s with
  | none => rw [hx] at hk; cases hk
  | some x =>
    rw [hx] at hk
    simp only [Bool.and_eq_true, Bool.not_eq_true', decide_eq_true_eq, decide_eq_false_iff_not] at hk
    exact ⟨x, rfl, hk.1, hk.2⟩
end Go.Proofs.Ytcmhilebiojfaaa.L
namespace Go.Proofs.Ytcmhilebiojfaaa.Pure
open Go.RowKit Go.Proofs.Ytcmhilebiojfaaa.B Go.Proofs.Ytcmhilebiojfaaa.S Go.Proofs.Ytcmhilebiojfaaa.Hand Go.Proofs.Ytcmhilebiojfaaa.L Go.Proofs.YtcmhilebiojfaaaW.PrintWords Go.Proofs.YtcmhilebiojfaaaW.PrintLast Go.Proofs.YtcmhilebiojfaaaW.PrintMore
set_option linter.unusedVariables false
set_option linter.unusedSimpArgs false
theorem odds (i : Int) (h0 : 0 ≤ i) (h1 : i < 5) : (rdOf ByteArray.empty ([(⟨#[]⟩ : ByteArray), (⟨#[99]⟩ : ByteArray), (⟨#[40]⟩ : ByteArray), (⟨#[38]⟩ : ByteArray), (⟨#[33]⟩ : ByteArray)] : List ByteArray) i).size ≤ 1 := by
  rcases (show i = 0 ∨ i = 1 ∨ i = 2 ∨ i = 3 ∨ i = 4 by omega) with rfl | rfl | rfl | rfl | rfl <;> decide
theorem draw_ok (l0 : List Int) (hb : ∀ x ∈ l0, (Lit.int .u8 x).wf = true) : ∃ (t : Int) (s : ByteArray), s.size ≤ 100 ∧ ∀ k, 100 ≤ k → spec_DrawHoldsIn.f k l0 = some (t, s) := by
  obtain ⟨b, hB, ho⟩ := open_ok l0 hb
  obtain ⟨t, p1, q1, q2, t0, t1, ht⟩ := things_ok hB 0 14 (by omega) (by omega) (by omega) (by omega)
  obtain ⟨s, p2, a1, a2, a3, a4, hs⟩ := sentence_ok hB t 3 (by omega) p1 (by omega) (by omega)
  have z1 : zS 3 = 29 := rfl
  have z2 : zP 3 = 30 := rfl
  obtain ⟨o, p3, o1, o2, hodd⟩ := odd_ok hB p2 4 (by omega) (by omega) (by omega) (by omega)
  obtain ⟨i, i0, i1, hi⟩ := pick_ok hB p3 (s.size : Int) (by omega) (by omega) (by omega) (by omega)
  obtain ⟨j, j0, j1, hj⟩ := pick_ok hB (p3 + 1) 5 (by omega) (by omega) (by omega) (by omega)
  have hjs := odds j j0 j1
  have ew : wrap64 (i + 1) = i + 1 := w64 (by omega) (by omega)
  have hx1 : (s.extract 0 i.toNat).size ≤ 29 := by rw [ByteArray.size_extract]; omega
  have hx2 : (s.extract (i + 1).toNat s.size).size ≤ 29 := by rw [ByteArray.size_extract]; omega
  have hs2 := fun k (hk : 100 ≤ k) => hs k (by omega)
  rw [show (((3 : Nat) : Nat) : Int) = 3 from rfl] at hs2
  cases ho2 : o with
  | true =>
    refine ⟨t, ((s.extract 0 i.toNat) ++ (rdOf ByteArray.empty ([(⟨#[]⟩ : ByteArray), (⟨#[99]⟩ : ByteArray), (⟨#[40]⟩ : ByteArray), (⟨#[38]⟩ : ByteArray), (⟨#[33]⟩ : ByteArray)] : List ByteArray) j)) ++ (s.extract (i + 1).toNat s.size), ?_, fun k hk => ?_⟩
    · rw [ByteArray.size_append, ByteArray.size_append]; omega
    · unfold spec_DrawHoldsIn.f
      rw [ho]
      simp only [Option.bind_some]
      rw [ht k (by omega)]
      simp only [Option.bind_some]
      rw [hs2 k (by omega)]
      simp only [Option.bind_some]
      rw [hodd k (by omega)]
      simp only [Option.bind_some]
      rw [if_pos ho2, hi k (by omega)]
      simp only [Option.bind_some]
      rw [if_pos i0, if_pos (by omega), hj k (by omega)]
      simp only [Option.bind_some]
      rw [if_pos j0, if_pos (by simp; omega), if_pos (by omega), ew, if_pos (by omega), if_pos (by omega), if_pos (by rw [ByteArray.size_append]; omega)]
  | false =>
    refine ⟨t, s, by omega, fun k hk => ?_⟩
    unfold spec_DrawHoldsIn.f
    rw [ho]
    simp only [Option.bind_some]
    rw [ht k (by omega)]
    simp only [Option.bind_some]
    rw [hs2 k (by omega)]
    simp only [Option.bind_some]
    rw [hodd k (by omega)]
    simp only [Option.bind_some]
    rw [ho2, if_neg (by simp)]
theorem FnHoldsIn : laws_FnHoldsIn.Pure := by
  intro l0 _ _ hb
  refine ⟨2001, ?_⟩
  unfold laws_FnHoldsIn.f
  by_cases hl : (l0.length : Int) > 1048576
  · rw [if_pos hl]
  rw [if_neg hl]
  obtain ⟨t, s, hsz, hd⟩ := draw_ok l0 hb
  rw [hd 2001 (by omega)]
  simp only [Option.bind_some]
  rw [HoldsIn_eq, sHoldsIn_eq t s 2001 (by omega)]
  simp only [Option.bind_some]
  rw [if_pos trivial]
  simp only [laws_FnHoldsIn.j0]
  rw [if_neg (by simp)]
  cases h1 : (holE t s).2 with
  | false =>
    have e : (holE t s).1 = -1 := by
      unfold holE at h1 ⊢
      by_cases hc : okT t = true ∧ s.size ≤ 120
      · rw [if_pos hc] at h1 ⊢
        unfold holdsAt at h1 ⊢
        by_cases h2 : (sent t.toNat s (s.size + 1) 0).2.1 = true ∧ (sent t.toNat s (s.size + 1) 0).2.2 = s.size
        · rw [if_pos h2] at h1; cases h1
        · rw [if_neg h2]
      · rw [if_neg hc]
    rw [if_neg (by simp), if_pos e]
    simp [alive_eq]
  | true =>
    obtain ⟨g1, g2, g3, g4, g5, g6⟩ := holdsAt_ok h1
    have hA := allW_range g1
    have hs : okS t (holE t s).1 = true := by unfold okS; rw [g1]; simp; omega
    have hn := hol_not (x := (⟨#[33]⟩ : ByteArray)) sz33 (by rfl) h1
    obtain ⟨x, e1, e3, e4⟩ := sentence_of hs
    rw [if_pos rfl, if_pos (by omega), HoldsIn_eq, hn, e1]
    simp only [Option.bind_some]
    rw [HoldsIn_eq, e4, SetOk_eq, hs]
    simp only [Option.bind_some, if_true]
    by_cases hc : s.size < 120
    · rw [if_pos hc]
      simp only [if_true]
      rw [whole_eq t g1]
      simp only [Option.bind_some]
      rw [if_pos (by rw [w64 (by omega) (by omega)])]
      simp
    · rw [if_neg hc]; simp
end Go.Proofs.Ytcmhilebiojfaaa.Pure
