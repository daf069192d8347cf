/- The contracts of this session's own, first part: the texts HandBits to HandFrom, joined. -/
import Derived.Test.YtcmhilebiojfaaaHandF
import Derived.Test.YtcmhilebiojfaaaHandAll
import Derived.Test.YtcmhilebiojfaaaBx
import Derived.Test.YtcmhilebiojfaaaBx1
import Derived.Test.YtcmhilebiojfaaaBx2
import Derived.Lib.Walk
import Derived.Lib.Hide
import Derived.Deep.LoopGhost
import Derived.Deep.QuietTactic
import Derived.BigQuiet
import Derived.Shelf.Abstract
/- More words of sets as numbers: what is in one and not in the other, what is in just one; no condition beyond the size. -/
namespace Go.Proofs.Ytcmhilebiojfaaa.Hand
open Go.RowKit Go.Proofs.YtcmhilebiojfaaaW.PrintWords Go.Proofs.YtcmhilebiojfaaaW.PrintLast Go.Proofs.YtcmhilebiojfaaaW.PrintMore
set_option linter.unusedVariables false

/-- What is in a and not in b. -/
def minus (a b : Nat) : Nat := a ^^^ (a &&& b)
theorem minus_testBit (a b i : Nat) : (minus a b).testBit i = (a.testBit i && !b.testBit i) := by
  unfold minus
  rw [Nat.testBit_xor, Nat.testBit_and]
  cases a.testBit i <;> cases b.testBit i <;> rfl
theorem minus_lt {a b n : Nat} (h : a < 2 ^ n) : minus a b < 2 ^ n := Nat.xor_lt_two_pow h (Nat.lt_of_le_of_lt Nat.and_le_left h)
theorem minus_zero (a b : Nat) : minus a b = 0 ↔ a &&& b = a := by
  unfold minus
  constructor
  · intro h
    have h2 : a ^^^ (a &&& b) ^^^ (a &&& b) = 0 ^^^ (a &&& b) := by rw [h]
    rw [Nat.xor_assoc, Nat.xor_self, Nat.xor_zero, Nat.zero_xor] at h2
    exact h2.symm
  · intro h; rw [h, Nat.xor_self]

theorem andNot_i64 (a b : Nat) (ha : a < 2 ^ 62) (hb : b < 2 ^ 62) : Go.bits .andNot .i64 (a : Int) (b : Int) = ((minus a b : Nat) : Int) := by
  unfold Go.bits
  have e : (BitVec.ofInt IntKind.i64.bits (a : Int) &&& ~~~ BitVec.ofInt IntKind.i64.bits (b : Int)).toNat = minus a b := by
    apply Nat.eq_of_testBit_eq
    intro i
    rw [BitVec.testBit_toNat, BitVec.getLsbD_and, BitVec.getLsbD_not, minus_testBit]
    simp only [BitVec.ofInt_natCast, BitVec.getLsbD_ofNat]
    have hw : IntKind.i64.bits = 64 := rfl
    by_cases h : i < 64
    · simp [hw, h]
    · have : a.testBit i = false := Nat.testBit_lt_two_pow (Nat.lt_of_lt_of_le ha (Nat.pow_le_pow_right (by decide) (by omega)))
      simp [this]
  have hl := minus_lt (b := b) ha
  simp only [e]
  exact wraps_i64 _ (by omega) (by omega)
theorem xor_i64 (a b : Nat) (ha : a < 2 ^ 62) (hb : b < 2 ^ 62) : Go.bits .xor .i64 (a : Int) (b : Int) = ((a ^^^ b : Nat) : Int) := by
  unfold Go.bits
  have e : (BitVec.ofInt IntKind.i64.bits (a : Int) ^^^ BitVec.ofInt IntKind.i64.bits (b : Int)).toNat = a ^^^ b := by
    have hw : IntKind.i64.bits = 64 := rfl
    rw [BitVec.toNat_xor]
    simp only [BitVec.ofInt_natCast, BitVec.toNat_ofNat, hw]
    rw [Nat.mod_eq_of_lt (by omega), Nat.mod_eq_of_lt (by omega)]
  have hl := Nat.xor_lt_two_pow ha hb
  simp only [e]
  exact wraps_i64 _ (by omega) (by omega)

end Go.Proofs.Ytcmhilebiojfaaa.Hand

/- areThings, isSet, allWorlds and surpriseOf come to just what the words below tell: isSet and areThings for all arguments, surpriseOf for at most 60 ranks. -/
namespace Go.Proofs.Ytcmhilebiojfaaa.Hand
open Go.RowKit Go.Proofs.Ytcmhilebiojfaaa.B Go.Proofs.YtcmhilebiojfaaaW.PrintWords Go.Proofs.YtcmhilebiojfaaaW.PrintLast Go.Proofs.YtcmhilebiojfaaaW.PrintMore
set_option linter.unusedVariables false
set_option linter.unusedSimpArgs false

theorem areThings_eq (a : Int) : impl_areThings.f a = some (okT a) := by
  unfold impl_areThings.f okT
  by_cases h : a ≥ 1
  · rw [if_pos h]; simp [show (1 : Int) ≤ a from h]
  · rw [if_neg h]; simp [show ¬ (1 : Int) ≤ a from h]

theorem allWorlds_eq (a : Int) (h : okT a = true) : impl_allWorlds.f a = some (allW a) := by
  unfold impl_allWorlds.f allF; rw [if_pos h]

theorem isSet_eq (t s : Int) : impl_isSet.f t s = some (okS t s) := by
  unfold impl_isSet.f okS
  rw [areThings_eq]
  simp only [Option.bind_some]
  cases h : okT t with
  | false => simp
  | true =>
    rw [allWorlds_eq t h]
    by_cases h0 : s ≥ 0
    · simp [h0, show (0 : Int) ≤ s from h0]
    · simp [h0, show ¬ (0 : Int) ≤ s from h0]

theorem okS_cases {t s : Int} (h : okS t s = true) : okT t = true ∧ 0 ≤ s ∧ s ≤ allW t ∧ s ≤ 255 := by
  unfold okS at h
  simp only [Bool.and_eq_true, decide_eq_true_eq] at h
  obtain ⟨h1, h2, h3⟩ := h
  have : allW t ≤ 255 := by rcases okT_cases h1 with rfl | rfl | rfl <;> decide
  exact ⟨h1, h2, h3, by omega⟩

theorem allW_nat {t : Int} (h : okT t = true) : impl_allWorlds.f t = some ((((allW t).toNat + 1 : Nat) : Int) - 1) ∧ (allW t).toNat + 1 ≤ 256 := by
  rcases okT_cases h with rfl | rfl | rfl <;> exact ⟨by decide, by decide⟩

theorem surpriseOf_l0 (a : Nat) (l : List Int) (ha : a < 2 ^ 62) (hl : l.length ≤ 60) : ∀ (d i k : Nat), i + d = l.length → d < k →
    impl_surpriseOf.l0 k a (leastN l a i) l (l.length : Int) i = some (least l a) := by
  intro d
  induction d with
  | zero =>
    intro i k hi hk
    obtain ⟨m, rfl⟩ : ∃ m, k = m + 1 := ⟨k - 1, by omega⟩
    obtain rfl : i = l.length := by omega
    simp only [impl_surpriseOf.l0]
    rw [if_neg (by omega)]; rfl
  | succ d ih =>
    intro i k hi hk
    obtain ⟨m, rfl⟩ : ∃ m, k = m + 1 := ⟨k - 1, by omega⟩
    have e1 : wrap64 ((i : Int) + 1) = ((i + 1 : Nat) : Int) := by rw [w64 (by omega) (by omega)]; simp
    have hb : bit (a : Int) i = a.testBit i := by unfold bit; simp
    have ih1 := ih (i + 1) m (by omega) (by omega)
    simp only [leastN, hb] at ih1
    simp only [impl_surpriseOf.l0]
    rw [if_pos (by omega), if_pos (by omega), if_pos (by omega), and_one a i ha (by omega), e1]
    cases ht : a.testBit i with
    | true => rw [ht] at ih1; simpa using ih1
    | false => rw [ht] at ih1; simpa using ih1

theorem surpriseOf_eq (l : List Int) (s : Int) (k : Nat) (h0 : 0 ≤ s) (h1 : s < 4611686018427387904) (hl : l.length ≤ 60) (hk : l.length < k) : impl_surpriseOf.f k l s = some (least l s) := by
  obtain ⟨a, rfl⟩ := Int.eq_ofNat_of_zero_le h0
  exact surpriseOf_l0 a l (by omega) hl l.length 0 k (by omega) hk

end Go.Proofs.Ytcmhilebiojfaaa.Hand

/- Words of ranks: is a list one; isRank tells just this, for all arguments. -/
namespace Go.Proofs.Ytcmhilebiojfaaa.Hand
open Go.RowKit Go.Proofs.Ytcmhilebiojfaaa.B Go.Proofs.YtcmhilebiojfaaaW.PrintWords Go.Proofs.YtcmhilebiojfaaaW.PrintLast Go.Proofs.YtcmhilebiojfaaaW.PrintMore
set_option linter.unusedVariables false
set_option linter.unusedSimpArgs false

theorem next64 (i : Nat) (h : i ≤ 4000000) : wrap64 ((i : Int) + 1) = ((i + 1 : Nat) : Int) := by rw [w64 (by omega) (by omega)]; simp

theorem rd_get (l : List Int) (i : Nat) (h : i < l.length) : l[i]? = some (rd l (i : Int)) := by
  unfold rd
  rw [Int.toNat_natCast, List.getD_eq_getElem?_getD, List.getElem?_eq_getElem h]; rfl

def mnL (m : Int) : List Int → Int
  | [] => m
  | x :: xs => mnL (mn m x) xs
def mxL (m : Int) : List Int → Int
  | [] => m
  | x :: xs => mxL (mx m x) xs

theorem drop_cons (l : List Int) (i : Nat) (h : i < l.length) : l.drop i = rd l (i : Int) :: l.drop (i + 1) := by
  rw [List.drop_eq_getElem_cons h]
  unfold rd
  rw [Int.toNat_natCast, List.getD_eq_getElem?_getD, List.getElem?_eq_getElem h]; rfl

theorem mnL_le : ∀ (l : List Int) (m : Int), mnL m l ≤ m ∧ ∀ x ∈ l, mnL m l ≤ x
  | [], m => ⟨Int.le_refl _, fun x hx => by cases hx⟩
  | y :: ys, m => by
    have ih := mnL_le ys (mn m y)
    have h1 : mn m y ≤ m ∧ mn m y ≤ y := by unfold mn; split <;> omega
    refine ⟨Int.le_trans ih.1 h1.1, fun x hx => ?_⟩
    rcases List.mem_cons.1 hx with rfl | hx
    · exact Int.le_trans ih.1 h1.2
    · exact ih.2 x hx
theorem mnL_mem : ∀ (l : List Int) (m : Int), mnL m l = m ∨ mnL m l ∈ l
  | [], m => .inl rfl
  | y :: ys, m => by
    rcases mnL_mem ys (mn m y) with h | h
    · have h1 : mn m y = m ∨ mn m y = y := by unfold mn; split <;> simp
      rcases h1 with h1 | h1
      · left; show mnL (mn m y) ys = m; rw [h, h1]
      · right; show mnL (mn m y) ys ∈ y :: ys; rw [h, h1]; exact List.mem_cons_self
    · right; exact List.mem_cons_of_mem _ h
theorem mxL_ge : ∀ (l : List Int) (m : Int), m ≤ mxL m l ∧ ∀ x ∈ l, x ≤ mxL m l
  | [], m => ⟨Int.le_refl _, fun x hx => by cases hx⟩
  | y :: ys, m => by
    have ih := mxL_ge ys (mx m y)
    have h1 : m ≤ mx m y ∧ y ≤ mx m y := by unfold mx; split <;> omega
    refine ⟨Int.le_trans h1.1 ih.1, fun x hx => ?_⟩
    rcases List.mem_cons.1 hx with rfl | hx
    · exact Int.le_trans h1.2 ih.1
    · exact ih.2 x hx
theorem mxL_mem : ∀ (l : List Int) (m : Int), mxL m l = m ∨ mxL m l ∈ l
  | [], m => .inl rfl
  | y :: ys, m => by
    rcases mxL_mem ys (mx m y) with h | h
    · have h1 : mx m y = m ∨ mx m y = y := by unfold mx; split <;> simp
      rcases h1 with h1 | h1
      · left; show mxL (mx m y) ys = m; rw [h, h1]
      · right; show mxL (mx m y) ys ∈ y :: ys; rw [h, h1]; exact List.mem_cons_self
    · right; exact List.mem_cons_of_mem _ h

/-- Is l a row of ranks. -/
def okR (t : Int) (l : List Int) : Bool := okT t && (decide ((l.length : Int) = nW t) && (l.all (fun x => decide (0 ≤ x) && decide (x ≤ 9)) && l.any (fun x => x == 0)))

theorem nW_pos {t : Int} (h : okT t = true) : 2 ≤ nW t ∧ nW t ≤ 8 ∧ shl .i64 1 t = nW t := by
  rcases okT_cases h with rfl | rfl | rfl <;> decide +kernel

theorem allW_range {t : Int} (h : okT t = true) : 3 ≤ allW t ∧ allW t ≤ 255 := by rcases okT_cases h with rfl | rfl | rfl <;> decide
theorem okR_cases {t : Int} {l : List Int} (h : okR t l = true) : okT t = true ∧ (l.length : Int) = nW t ∧ (∀ y ∈ l, 0 ≤ y ∧ y ≤ 9) ∧ (0 : Int) ∈ l ∧ 2 ≤ l.length ∧ l.length ≤ 8 := by
  unfold okR at h
  simp only [Bool.and_eq_true, decide_eq_true_eq, List.all_eq_true, List.any_eq_true, beq_iff_eq] at h
  obtain ⟨h1, h2, h3, x, hx, rfl⟩ := h
  have := nW_pos h1
  exact ⟨h1, h2, h3, hx, by omega, by omega⟩

theorem Min_l0 (l : List Int) (hl : l.length ≤ 2000000) : ∀ (d i k : Nat) (m : Int), i + d = l.length → d < k → slices_Min_int_int.l0 k l m i = some (mnL m (l.drop i)) := by
  intro d
  induction d with
  | zero =>
    intro i k m hi hk
    obtain ⟨q, rfl⟩ : ∃ q, k = q + 1 := ⟨k - 1, by omega⟩
    simp only [slices_Min_int_int.l0]
    rw [if_neg (by omega), List.drop_eq_nil_of_le (by omega)]; rfl
  | succ d ih =>
    intro i k m hi hk
    obtain ⟨q, rfl⟩ : ∃ q, k = q + 1 := ⟨k - 1, by omega⟩
    simp only [slices_Min_int_int.l0]
    rw [if_pos (by omega), if_pos (by omega), next64 i (by omega), ih (i + 1) q _ (by omega) (by omega), drop_cons l i (by omega)]; rfl
theorem Max_l0 (l : List Int) (hl : l.length ≤ 2000000) : ∀ (d i k : Nat) (m : Int), i + d = l.length → d < k → slices_Max_int_int.l0 k l m i = some (mxL m (l.drop i)) := by
  intro d
  induction d with
  | zero =>
    intro i k m hi hk
    obtain ⟨q, rfl⟩ : ∃ q, k = q + 1 := ⟨k - 1, by omega⟩
    simp only [slices_Max_int_int.l0]
    rw [if_neg (by omega), List.drop_eq_nil_of_le (by omega)]; rfl
  | succ d ih =>
    intro i k m hi hk
    obtain ⟨q, rfl⟩ : ∃ q, k = q + 1 := ⟨k - 1, by omega⟩
    simp only [slices_Max_int_int.l0]
    rw [if_pos (by omega), if_pos (by omega), next64 i (by omega), ih (i + 1) q _ (by omega) (by omega), drop_cons l i (by omega)]; rfl

theorem isRank_eq (t : Int) (l : List Int) (k : Nat) (hk : 20 ≤ k) : impl_isRank.f k t l = some (okR t l) := by
  unfold impl_isRank.f
  rw [areThings_eq]
  simp only [Option.bind_some]
  obtain ⟨q, rfl⟩ : ∃ q, k = q + 1 := ⟨k - 1, by omega⟩
  cases ht : okT t with
  | false =>
    rw [if_neg (by simp)]
    simp only [impl_isRank.j0, if_true]
    unfold okR; rw [ht]; rfl
  | true =>
    obtain ⟨n1, n2, n3⟩ := nW_pos ht
    have hpos : 0 ≤ t := by rcases okT_cases ht with rfl | rfl | rfl <;> omega
    rw [if_pos rfl, if_pos hpos, n3]
    simp only [impl_isRank.j0]
    by_cases hl : (l.length : Int) = nW t
    · rw [if_neg (by simp [hl])]
      have hlen : 2 ≤ l.length ∧ l.length ≤ 8 := by omega
      unfold slices_Min_int_int.f slices_Max_int_int.f
      rw [if_neg (by omega), if_pos (by omega), if_neg (by omega), if_pos (by omega)]
      have e1 := Min_l0 l (by omega) (l.length - 1) 1 q (rd l 0) (by omega) (by omega)
      have e2 := Max_l0 l (by omega) (l.length - 1) 1 q (rd l 0) (by omega) (by omega)
      rw [show ((1 : Nat) : Int) = 1 from rfl] at e1 e2
      rw [e1]
      simp only [Option.bind_some]
      have hc : l = rd l 0 :: l.drop 1 := by have := drop_cons l 0 (by omega); simpa using this
      have a1 := mnL_le (l.drop 1) (rd l 0)
      have a2 := mnL_mem (l.drop 1) (rd l 0)
      have a3 := mxL_ge (l.drop 1) (rd l 0)
      have a4 := mxL_mem (l.drop 1) (rd l 0)
      have b1 : ∀ x ∈ l, mnL (rd l 0) (l.drop 1) ≤ x ∧ x ≤ mxL (rd l 0) (l.drop 1) := by
        intro x hx
        rw [hc] at hx
        rcases List.mem_cons.1 hx with rfl | hx
        · exact ⟨a1.1, a3.1⟩
        · exact ⟨a1.2 x hx, a3.2 x hx⟩
      have b2 : mnL (rd l 0) (l.drop 1) ∈ l := by
        rw [hc]
        rcases a2 with h | h
        · have : mnL (rd (rd l 0 :: l.drop 1) 0) ((rd l 0 :: l.drop 1).drop 1) = mnL (rd l 0) (l.drop 1) := rfl
          rw [this, h]; exact List.mem_cons_self
        · exact List.mem_cons_of_mem _ h
      have b3 : mxL (rd l 0) (l.drop 1) ∈ l := by
        rw [hc]
        rcases a4 with h | h
        · have : mxL (rd (rd l 0 :: l.drop 1) 0) ((rd l 0 :: l.drop 1).drop 1) = mxL (rd l 0) (l.drop 1) := rfl
          rw [this, h]; exact List.mem_cons_self
        · exact List.mem_cons_of_mem _ h
      generalize mnL (rd l 0) (l.drop 1) = mi at b1 b2
      generalize hma : mxL (rd l 0) (l.drop 1) = ma at b1 b3 e2
      have hR : okR t l = (decide (mi = 0) && decide (ma ≤ 9)) := by
        unfold okR
        rw [ht, decide_eq_true hl, Bool.true_and, Bool.true_and, Bool.eq_iff_iff]
        simp only [Bool.and_eq_true, List.all_eq_true, List.any_eq_true, decide_eq_true_eq, beq_iff_eq]
        constructor
        · rintro ⟨h1, x, hx, rfl⟩
          have := b1 0 hx
          have := h1 mi b2
          have := h1 ma b3
          exact ⟨by omega, by omega⟩
        · rintro ⟨h1, h2⟩
          refine ⟨fun x hx => ?_, mi, b2, h1⟩
          have := b1 x hx
          omega
      rw [hR]
      by_cases h0 : mi = 0
      · rw [if_pos h0, e2]
        simp [h0]
      · rw [if_neg h0]
        simp [h0]
    · rw [if_pos (by simp [hl])]
      unfold okR; rw [ht, decide_eq_false hl]; rfl


end Go.Proofs.Ytcmhilebiojfaaa.Hand

/- setThat at a test of worlds, revisedBy and coreOf return just the sets that the words below tell; of setThat: where the test answers at each world and writes nothing; of the others: at ranks of as many worlds as there are. -/
namespace Go.Proofs.Ytcmhilebiojfaaa.Hand
open Go.RowKit Go.Proofs.Ytcmhilebiojfaaa.B Go.Proofs.YtcmhilebiojfaaaW.PrintWords Go.Proofs.YtcmhilebiojfaaaW.PrintLast Go.Proofs.YtcmhilebiojfaaaW.PrintMore
set_option linter.unusedVariables false
set_option linter.unusedSimpArgs false

/-- A test of worlds, as a function value that captured lb: at each world below n it answers, in every later world; it writes nothing. -/
def Tells (g : Nat) (lb : Array Value) (n : Nat) (p : Nat → Bool) (w : World) : Prop :=
  ∀ (W : World) (x : Nat), x < n → Below w.heap.size w W → Calls Try.prog g (#[.int .i64 x] ++ lb) W fun e w' => e = .returned (.bool (p x)) ∧ ∃ q, w' = W.drewN q

set_option maxHeartbeats 2000000 in
theorem setThat_1 (g : Nat) (lb : Array Value) (eg : ∀ args w, (callFunc g args).run Try.prog w = .ok (.enter g args) w) (p : Nat → Bool) (w : World) (hp : Tells g lb 2 p w) :
    Calls Try.prog 76 #[.int .i64 1, .func (.func g) #[] lb] w fun e w' => e = .returned (.int .i64 (sumN 2 p : Nat)) ∧ ∃ q, w' = w.drewN q := by
  have hpAt : ∀ (x q : Nat), x < 2 → Calls Try.prog g (#[.int .i64 x] ++ lb) (w.drewN q) fun e w' => e = .returned (.bool (p x)) ∧ ∃ q', w' = (w.drewN q).drewN q' := fun x q hx => hp _ x hx (pw_below_drewN (Below.refl _ w) q)
  clear hp
  go_enter Try.func76, Try.ntmps76
  go_wp2
  go_loopg [5, 9] 2 (fun gg s5 s9 wr => ∃ kk q : Nat, kk ≤ 2 ∧ 2 - kk ≤ gg ∧ s9 = .int .i64 kk ∧ s5 = .int .i64 (sumN kk p : Nat) ∧ wr = w.drewN q)
  case atStart => exact ⟨0, 0, by omega, by omega, rfl, rfl, rfl⟩
  case round =>
    obtain ⟨kk, q, hkk, hg, rfl, rfl, rfl⟩ := hrel
    by_cases hlt : kk < 2
    · have hltz : (kk : Int) < 2 := by omega
      have hk0 : (0 : Int) ≤ kk := by omega
      have hcall := hpAt kk q hlt
      cases hq : p kk with
      | true =>
        rw [hq] at hcall
        have HQ := Lib.hid hq
        clear hq
        go_wp2_with fail
        refine hcall.mono ?_
        rintro e w' ⟨rfl, q', rfl⟩
        go_wp2
        go_roundg (2 - (kk + 1))
        case measure => omega
        case rel => exact ⟨kk + 1, _, by omega, by omega, by go_num, by rw [or_step64 kk p (by omega) HQ.out], rfl⟩
      | false =>
        rw [hq] at hcall
        have HQ := Lib.hid hq
        clear hq
        go_wp2_with fail
        refine hcall.mono ?_
        rintro e w' ⟨rfl, q', rfl⟩
        go_wp2
        go_roundg (2 - (kk + 1))
        case measure => omega
        case rel => exact ⟨kk + 1, _, by omega, by omega, by go_num, by rw [sumN_skip kk p HQ.out], rfl⟩
    · have : kk = 2 := by omega
      subst this
      go_wp2
      go_ret
      exact ⟨rfl, q, rfl⟩

set_option maxHeartbeats 2000000 in
theorem setThat_2 (g : Nat) (lb : Array Value) (eg : ∀ args w, (callFunc g args).run Try.prog w = .ok (.enter g args) w) (p : Nat → Bool) (w : World) (hp : Tells g lb 4 p w) :
    Calls Try.prog 76 #[.int .i64 2, .func (.func g) #[] lb] w fun e w' => e = .returned (.int .i64 (sumN 4 p : Nat)) ∧ ∃ q, w' = w.drewN q := by
  have hpAt : ∀ (x q : Nat), x < 4 → Calls Try.prog g (#[.int .i64 x] ++ lb) (w.drewN q) fun e w' => e = .returned (.bool (p x)) ∧ ∃ q', w' = (w.drewN q).drewN q' := fun x q hx => hp _ x hx (pw_below_drewN (Below.refl _ w) q)
  clear hp
  go_enter Try.func76, Try.ntmps76
  go_wp2
  go_loopg [5, 9] 4 (fun gg s5 s9 wr => ∃ kk q : Nat, kk ≤ 4 ∧ 4 - kk ≤ gg ∧ s9 = .int .i64 kk ∧ s5 = .int .i64 (sumN kk p : Nat) ∧ wr = w.drewN q)
  case atStart => exact ⟨0, 0, by omega, by omega, rfl, rfl, rfl⟩
  case round =>
    obtain ⟨kk, q, hkk, hg, rfl, rfl, rfl⟩ := hrel
    by_cases hlt : kk < 4
    · have hltz : (kk : Int) < 4 := by omega
      have hk0 : (0 : Int) ≤ kk := by omega
      have hcall := hpAt kk q hlt
      cases hq : p kk with
      | true =>
        rw [hq] at hcall
        have HQ := Lib.hid hq
        clear hq
        go_wp2_with fail
        refine hcall.mono ?_
        rintro e w' ⟨rfl, q', rfl⟩
        go_wp2
        go_roundg (4 - (kk + 1))
        case measure => omega
        case rel => exact ⟨kk + 1, _, by omega, by omega, by go_num, by rw [or_step64 kk p (by omega) HQ.out], rfl⟩
      | false =>
        rw [hq] at hcall
        have HQ := Lib.hid hq
        clear hq
        go_wp2_with fail
        refine hcall.mono ?_
        rintro e w' ⟨rfl, q', rfl⟩
        go_wp2
        go_roundg (4 - (kk + 1))
        case measure => omega
        case rel => exact ⟨kk + 1, _, by omega, by omega, by go_num, by rw [sumN_skip kk p HQ.out], rfl⟩
    · have : kk = 4 := by omega
      subst this
      go_wp2
      go_ret
      exact ⟨rfl, q, rfl⟩

set_option maxHeartbeats 2000000 in
theorem setThat_3 (g : Nat) (lb : Array Value) (eg : ∀ args w, (callFunc g args).run Try.prog w = .ok (.enter g args) w) (p : Nat → Bool) (w : World) (hp : Tells g lb 8 p w) :
    Calls Try.prog 76 #[.int .i64 3, .func (.func g) #[] lb] w fun e w' => e = .returned (.int .i64 (sumN 8 p : Nat)) ∧ ∃ q, w' = w.drewN q := by
  have hpAt : ∀ (x q : Nat), x < 8 → Calls Try.prog g (#[.int .i64 x] ++ lb) (w.drewN q) fun e w' => e = .returned (.bool (p x)) ∧ ∃ q', w' = (w.drewN q).drewN q' := fun x q hx => hp _ x hx (pw_below_drewN (Below.refl _ w) q)
  clear hp
  go_enter Try.func76, Try.ntmps76
  go_wp2
  go_loopg [5, 9] 8 (fun gg s5 s9 wr => ∃ kk q : Nat, kk ≤ 8 ∧ 8 - kk ≤ gg ∧ s9 = .int .i64 kk ∧ s5 = .int .i64 (sumN kk p : Nat) ∧ wr = w.drewN q)
  case atStart => exact ⟨0, 0, by omega, by omega, rfl, rfl, rfl⟩
  case round =>
    obtain ⟨kk, q, hkk, hg, rfl, rfl, rfl⟩ := hrel
    by_cases hlt : kk < 8
    · have hltz : (kk : Int) < 8 := by omega
      have hk0 : (0 : Int) ≤ kk := by omega
      have hcall := hpAt kk q hlt
      cases hq : p kk with
      | true =>
        rw [hq] at hcall
        have HQ := Lib.hid hq
        clear hq
        go_wp2_with fail
        refine hcall.mono ?_
        rintro e w' ⟨rfl, q', rfl⟩
        go_wp2
        go_roundg (8 - (kk + 1))
        case measure => omega
        case rel => exact ⟨kk + 1, _, by omega, by omega, by go_num, by rw [or_step64 kk p (by omega) HQ.out], rfl⟩
      | false =>
        rw [hq] at hcall
        have HQ := Lib.hid hq
        clear hq
        go_wp2_with fail
        refine hcall.mono ?_
        rintro e w' ⟨rfl, q', rfl⟩
        go_wp2
        go_roundg (8 - (kk + 1))
        case measure => omega
        case rel => exact ⟨kk + 1, _, by omega, by omega, by go_num, by rw [sumN_skip kk p HQ.out], rfl⟩
    · have : kk = 8 := by omega
      subst this
      go_wp2
      go_ret
      exact ⟨rfl, q, rfl⟩

theorem setThat_at (n : Nat) (t : Int) (h : t = 1 ∧ n = 2 ∨ t = 2 ∧ n = 4 ∨ t = 3 ∧ n = 8) (g : Nat) (lb : Array Value) (eg : ∀ args w, (callFunc g args).run Try.prog w = .ok (.enter g args) w) (p : Nat → Bool) (w : World) (hp : Tells g lb n p w) :
    Calls Try.prog 76 #[.int .i64 t, .func (.func g) #[] lb] w fun e w' => e = .returned (.int .i64 (sumN n p : Nat)) ∧ ∃ q, w' = w.drewN q := by
  rcases h with ⟨rfl, rfl⟩ | ⟨rfl, rfl⟩ | ⟨rfl, rfl⟩
  · exact setThat_1 g lb eg p w hp
  · exact setThat_2 g lb eg p w hp
  · exact setThat_3 g lb eg p w hp

end Go.Proofs.Ytcmhilebiojfaaa.Hand

/- surpriseOf, revisedBy return just the numbers that the words below tell, at ranks of as many worlds as there are and a set of them. -/
namespace Go.Proofs.Ytcmhilebiojfaaa.Hand
open Go.RowKit Go.Proofs.Ytcmhilebiojfaaa.B Go.Proofs.YtcmhilebiojfaaaW.PrintWords Go.Proofs.YtcmhilebiojfaaaW.PrintLast Go.Proofs.YtcmhilebiojfaaaW.PrintMore
set_option linter.unusedVariables false
set_option linter.unusedSimpArgs false

theorem rev_and (l : List Int) (s : Int) (h0 : 0 ≤ s) (h1 : s < 4611686018427387904) (hl : l.length ≤ 60) :
    Go.bits .and .i64 s (sumN l.length (fun x => rd l (x : Int) == least l s) : Nat) = rev l s := by
  obtain ⟨a, rfl⟩ := Int.eq_ofNat_of_zero_le h0
  have h2 := sumN_lt l.length (fun x => rd l (x : Int) == least l a)
  have h3 : 2 ^ l.length ≤ 2 ^ 60 := Nat.pow_le_pow_right (by decide) hl
  rw [and_i64 _ _ (by omega) (by omega), sumN_and]
  unfold rev bit
  rw [Int.toNat_natCast]

/-- The test of revisedBy: a world's rank is the least one. -/
theorem revTells (A1 : Option Addr) (c1 : Nat) (l1 : List Int) (m : Int) (n B1 B2 : Nat) (w w0 : World) (hb0 : Below w0.heap.size w0 w) (hn : n ≤ l1.length) (hr : Kd.C (Kd.int .i64) w0 A1 l1.length l1)
    (h1 : w.heap[B1]? = some (.cells #[.slice A1 l1.length c1] 22 (0, 0))) (h2 : w.heap[B2]? = some (.cells #[.int .i64 m] 3 (0, 0))) :
    Tells 77 #[.pointer (some ⟨B1, 0, none⟩), .pointer (some ⟨B2, 0, none⟩)] n (fun x => rd l1 (x : Int) == m) w := by
  intro W x hx hb
  obtain ⟨ad, e, hx0⟩ := Kd.at_int hr (x : Int) (by omega) (by omega)
  subst e
  have hx1 := (hb0.cell (World.block_lt_of_cell? w0 _ hx0)).trans hx0
  have hcx := (hb.cell (World.block_lt_of_cell? w _ hx1)).trans hx1
  rw [Int.toNat_natCast] at hcx
  have hc1 : W.cell? ⟨B1, 0, none⟩ = some (.slice (some ad) l1.length c1) := (hb.cell (p := ⟨B1, 0, none⟩) (blk_lt h1)).trans (blk_cell h1 0)
  have hc2 : W.cell? ⟨B2, 0, none⟩ = some (.int .i64 m) := (hb.cell (p := ⟨B2, 0, none⟩) (blk_lt h2)).trans (blk_cell h2 0)
  have p1 := eq_true (show (0 : Int) ≤ (x : Int) by omega)
  have p2 := eq_true (show (x : Int) < (l1.length : Int) by omega)
  clear hr hx0 hx1 h1 h2 hb hb0
  go_enter Try.func77, Try.ntmps77
  go_wp2
  go_quiet (fail)
  go_wp2
  go_ret
  exact ⟨rfl, _, rfl⟩

/-- revisedBy: where there are ranks of as many worlds as there are, and a set of them. -/
def impl_revisedBy.f (t : Int) (l : List Int) (s : Int) : Option Int :=
  if okT t = true ∧ (l.length : Int) = nW t ∧ 0 ≤ s ∧ s ≤ 255 then some (rev l s) else none

set_option maxHeartbeats 2000000 in
theorem impl_revisedBy.calls (a0 : Int) (A1 : Option Addr) (c1 : Nat) (l1 : List Int) (a2 : Int) (r : Int) (w : World) (hr1 : Kd.C (Kd.int .i64) w A1 l1.length l1) (hc1 : l1.length ≤ c1) (h : impl_revisedBy.f a0 l1 a2 = some r) :
    Calls Try.prog 63 #[.int .i64 a0, .slice A1 l1.length c1, .int .i64 a2] w fun e w' => e = .returned (.int .i64 r) ∧ Below w.heap.size w w' := by
  unfold impl_revisedBy.f at h
  by_cases hc : okT a0 = true ∧ (l1.length : Int) = nW a0 ∧ 0 ≤ a2 ∧ a2 ≤ 255
  · rw [if_pos hc] at h
    obtain ⟨ht, hl, h0, h1⟩ := hc
    have hn : a0 = 1 ∧ l1.length = 2 ∨ a0 = 2 ∧ l1.length = 4 ∨ a0 = 3 ∧ l1.length = 8 := by
      unfold nW at hl
      rw [if_pos ht] at hl
      rcases okT_cases ht with rfl | rfl | rfl
      · left; simp at hl; omega
      · right; left; simp at hl; omega
      · right; right; simp at hl; omega
    have HS := Lib.hid (surpriseOf_eq l1 a2 100 h0 (by omega) (by omega) (by omega))
    obtain rfl := Option.some.inj h
    have HN := Lib.hid hn
    have HR := Lib.hid hr1
    have HT := Lib.hid ht
    have HL := Lib.hid hl
    clear hn hr1 hl ht h
    go_enter Try.func63, Try.ntmps63
    go_wp2_with fail
    refine (impl_surpriseOf.calls 100 A1 c1 l1 a2 _ _ (Kd.C_alloc HR.out _) hc1 HS.out).mono ?_
    rintro e w1 ⟨rfl, hb1⟩
    have HB1 := Lib.hid hb1
    have HK1 := Lib.hid (blk_below (blk_new w (.cells #[.slice A1 l1.length c1] 22)) hb1)
    have hsz : w.heap.size + 1 ≤ w1.heap.size := by have := hb1.size; simpa using this
    clear hb1
    go_wp2_with fail
    refine (setThat_at l1.length a0 HN.out 77 #[.pointer (some ⟨w.heap.size, 0, none⟩), .pointer (some ⟨w1.heap.size, 0, none⟩)] (enters_of Try.func77 (by kernel_rfl) rfl) (fun x => rd l1 (x : Int) == least l1 a2) _
      (revTells A1 c1 l1 (least l1 a2) l1.length w.heap.size w1.heap.size _ w ?hb (Nat.le_refl _) HR.out ?h1 ?h2)).mono ?_
    case hb => exact ((Below.refl _ w).alloc (Nat.le_refl _) _).trans ((HB1.out.mono (by simp)).alloc (by omega) _)
    case h1 => exact (Below.heap_alloc _ _ _ (by omega)).trans HK1.out
    case h2 => exact blk_new w1 _
    rintro e w2 ⟨rfl, q, rfl⟩
    go_wp2
    go_ret
    refine ⟨?_, ?_⟩
    · rw [rev_and l1 a2 h0 (by omega) (by have := HN.out; omega)]; rfl
    · exact pw_below_drewN (((Below.refl _ w).alloc (Nat.le_refl _) _).trans ((HB1.out.mono (by simp)).alloc (by omega) _)) q
  · rw [if_neg hc] at h
    exact absurd h (by simp)

end Go.Proofs.Ytcmhilebiojfaaa.Hand

/- tableBy returns the row of what a function gives for each set, from the empty one on; MaxTable just the row that the words below tell, for all arguments. -/
namespace Go.Proofs.Ytcmhilebiojfaaa.Hand
open Go.RowKit Go.Proofs.Ytcmhilebiojfaaa.B Go.Proofs.YtcmhilebiojfaaaW.PrintWords Go.Proofs.YtcmhilebiojfaaaW.PrintLast Go.Proofs.YtcmhilebiojfaaaW.PrintMore
set_option linter.unusedVariables false
set_option linter.unusedSimpArgs false

/-- A function of sets, as a function value that captured lb: at each set below n it answers, in every later world; nothing that was there turns. -/
def Gives (g : Nat) (lb : Array Value) (n : Nat) (f : Nat → Int) (w : World) : Prop :=
  ∀ (W : World) (x : Nat), x < n → Below w.heap.size w W → Calls Try.prog g (#[.int .i64 x] ++ lb) W fun e w' => e = .returned (.int .i64 (f x)) ∧ Below W.heap.size W w'

theorem Gives.later {g : Nat} {lb : Array Value} {n : Nat} {f : Nat → Int} {w w1 : World} (h : Gives g lb n f w) (hb : Below w.heap.size w w1) : Gives g lb n f w1 :=
  fun W x hx hW => h W x hx (hb.trans (hW.mono hb.size))

theorem infoI : (Try.prog.info? 3).map (fun i => (i.zero, i.size, i.bytes)) = some (some (.int .i64 0), 1, 8) := by kernel_rfl

theorem range_snoc (k : Nat) (f : Nat → Int) : (List.range (k + 1)).map f = (List.range k).map f ++ [f k] := by
  rw [List.range_succ, List.map_append]; rfl

set_option maxHeartbeats 2000000 in
set_option maxRecDepth 100000 in
theorem tableBy_at (n : Nat) (t : Int) (hn : n ≤ 256) (ht : impl_allWorlds.f t = some ((n : Int) - 1)) (g : Nat) (lb : Array Value) (eg : ∀ args w, (callFunc g args).run Try.prog w = .ok (.enter g args) w) (f : Nat → Int) (w : World) (hp : Gives g lb n f w) :
    Calls Try.prog 61 #[.int .i64 t, .func (.func g) #[] lb] w fun e w' => ∃ v : Value, e = .returned v ∧ Kd.R (Kd.int .i64) 3 w' w.heap.size (fun _ => True) v ((List.range n).map f) ∧ Below w.heap.size w w' := by
  have HB := Aside0.mk (Below.refl w.heap.size w)
  have A6 := Aside0.mk ht
  have HP := Lib.hid hp
  clear hp ht
  obtain ⟨y288, hy288⟩ : ∃ y_ : List Int, y_ = (([] : List Int)) := ⟨_, rfl⟩
  have Ny288 := Aside0.mk hy288
  clear hy288
  go_enter Try.func61, Try.ntmps61
  go_wp2_with (first | ((with_reducible refine gate_dst (N := 7) rfl ?_); refine Kd.R_lit (Kd.int .i64) _ 3 ?hg (N := 7) ?hd (xs := ([] : List Int)) (inner := []) (ok := fun _ => True) (okp := fun _ => True) ?hr ?hp (fun _ hk => hk) trivial (Below.refl _ _) (Nat.le_refl _) (by simp) ?_; (case hd => rfl); (case hg => rfl); (case hr => first | (go_simp; done) | (go_simp; rfl)); (case hp => exact (Reps.none _ _)); intro v289 w3 ho4 hb hg_ hnew_; clear hg_ hnew_; (first | rw [← Ny288.out] at ho4 | (simp only [Int.reduceToNat] at ho4; rw [← Ny288.out] at ho4)); have n0_ := Aside0.mk (Kd.R_lower ho4 (below_size (by repeat (first | (with_reducible first | exact HB.out | apply below_alloc | apply pw_below_drewN | apply below_drew1) | exact HB.out)))); have n1_ := Aside0.mk (below_step (by repeat (first | (with_reducible first | exact HB.out | apply below_alloc | apply pw_below_drewN | apply below_drew1) | exact HB.out)) hb); clear HB; have HO290 := n0_; have HB := n1_; clear n0_ n1_; clear hb ho4) | (go_at_call 64; (with_reducible refine (impl_allWorlds.calls t _ _ A6.out).mono ?_); rintro e w' ⟨rfl, ⟨nd, rfl⟩⟩))
  go_loopg [5, 11] n (fun gg v5 v11 w' => ∃ kk : Nat, kk ≤ n ∧ n - kk ≤ gg ∧ v11 = .int .i64 kk ∧ Aside0 (Kd.R (Kd.int .i64) 3 w' w.heap.size (fun _ => True) v5 ((List.range kk).map f)) ∧ Aside0 (Below w.heap.size w w'))
  case atStart => exact ⟨0, by omega, by omega, rfl, ⟨by rw [show (List.range 0).map f = y288 from Ny288.out.symm]; (with_reducible repeat (first | apply Kd.R_alloc | apply Kd.R_drewN | apply Kd.R_drew)); exact HO290.out⟩, ⟨by repeat (first | (with_reducible first | exact HB.out | apply below_alloc | apply pw_below_drewN | apply below_drew1) | exact HB.out)⟩⟩
  case round =>
    obtain ⟨kk, hkk, hg, rfl, HO_5, HB⟩ := hrel
    by_cases hlt : kk < n
    · have hltz : (kk : Int) < (n : Int) := by omega
      have HC := Lib.hid (HP.out wr kk hlt HB.out)
      obtain ⟨y295, hy295⟩ : ∃ y_ : List Int, y_ = (List.range kk).map f ++ [f kk] := ⟨_, rfl⟩
      obtain ⟨x5_1, hx5⟩ : ∃ y_ : List Int, y_ = (List.range kk).map f := ⟨_, rfl⟩
      rw [← hx5] at hy295 HO_5
      have HL : Aside0 (x5_1.length < 17592186044416) := ⟨by rw [hx5]; simp; omega⟩
      have Nx5 := Aside0.mk hx5
      have Ny295 := Aside0.mk hy295
      clear hx5 hy295
      go_wp2_with fail
      refine HC.out.mono ?_
      rintro e w1 ⟨rfl, hb1⟩
      have n0_ := Aside0.mk (below_step HB.out hb1)
      have n1_ := Aside0.mk (Kd.R_below HO_5.out hb1)
      clear HB HO_5 hb1 HC
      have HB := n0_
      have HO_5 := n1_
      clear n0_ n1_
      go_wp2_with ((with_reducible refine gate_builtin (b := .append) (xs := #[.tmp 14, .tmp 18]) rfl ?_); at_builtin; refine Kd.R_append (Kd.int .i64) (w0 := w) w.heap.size rfl (.tmp 14) (.tmp 18) 22 3 (.int .i64 0) 8 rfl Try.underlying22 infoI rfl (by decide) (by omega) u5 x5_1 (f kk) [.int .i64 (f kk)] (fun _ => True) (fun _ => False) rfl rfl ?aP (fun _ hk => hk.elim) ?aF ?aO ?aB ?aS ?aL ?_; (case aP => exact rfl); (case aB => exact (by repeat (first | (with_reducible first | exact HB.out | apply below_alloc | apply pw_below_drewN | apply below_drew1) | exact HB.out))); (case aF => exact (fun _ _ => trivial)); (case aO => exact (by (with_reducible repeat (first | apply Kd.R_alloc | apply Kd.R_drewN | apply Kd.R_drew)); exact HO_5.out)); (case aS => exact (below_size (by repeat (first | (with_reducible first | exact HB.out | apply below_alloc | apply pw_below_drewN | apply below_drew1) | exact HB.out)))); (case aL => have := HL.out; omega); intro v296 w16 ho hb hg hat; rw [← Ny295.out] at ho; have n0_ := Aside0.mk (hb); have n1_ := Aside0.mk (ho); clear HB; clear HO_5; have HB := n0_; have HO297 := n1_; clear n0_ n1_; clear ho hb hg hat)
      go_roundg (n - (kk + 1))
      case measure => omega
      case rel => exact ⟨kk + 1, by omega, by omega, by go_num, ⟨by rw [range_snoc, ← Nx5.out, ← Ny295.out]; (with_reducible repeat (first | apply Kd.R_alloc | apply Kd.R_drewN | apply Kd.R_drew)); exact HO297.out⟩, ⟨by repeat (first | (with_reducible first | exact HB.out | apply below_alloc | apply pw_below_drewN | apply below_drew1) | exact HB.out)⟩⟩
    · have : kk = n := by omega
      subst this
      go_wp2
      go_ret
      exact ⟨_, rfl, by (with_reducible repeat (first | apply Kd.R_alloc | apply Kd.R_drewN | apply Kd.R_drew)); exact HO_5.out, by repeat (first | (with_reducible first | exact HB.out | apply below_alloc | apply pw_below_drewN | apply below_drew1) | exact HB.out)⟩

end Go.Proofs.Ytcmhilebiojfaaa.Hand

/- IndexFunc and ContainsFunc at a test of numbers tell the first place where it holds, and whether there is one; isTable tells just what the words below tell, for all arguments. -/
namespace Go.Proofs.Ytcmhilebiojfaaa.Hand
open Go.RowKit Go.Proofs.Ytcmhilebiojfaaa.B Go.Proofs.YtcmhilebiojfaaaW.PrintWords Go.Proofs.YtcmhilebiojfaaaW.PrintLast Go.Proofs.YtcmhilebiojfaaaW.PrintMore
set_option linter.unusedVariables false
set_option linter.unusedSimpArgs false

/-- A test of numbers, as a function value that captured lb: it answers at each number, in every later world; it writes nothing. -/
def Asks (g : Nat) (lb : Array Value) (p : Int → Bool) (w : World) : Prop :=
  ∀ (W : World) (x : Int), Below w.heap.size w W → Calls Try.prog g (#[.int .i64 x] ++ lb) W fun e w' => e = .returned (.bool (p x)) ∧ ∃ q, w' = W.drewN q

/-- The place of the first number at which the test holds, told from i on; -1 for none. -/
def idxP (p : Int → Bool) : List Int → Nat → Int
  | [], _ => -1
  | x :: xs, i => if p x = true then (i : Int) else idxP p xs (i + 1)

theorem idxP_any (p : Int → Bool) : ∀ (l : List Int) (i : Nat), decide (0 ≤ idxP p l i) = l.any p
  | [], i => by simp [idxP]
  | x :: xs, i => by
    cases h : p x with
    | true => simp [idxP, h]
    | false => simp [idxP, h, idxP_any p xs (i + 1)]

theorem drop_rd (l : List Int) (i : Nat) (h : i < l.length) : l.drop i = rd l (i : Int) :: l.drop (i + 1) := by
  rw [List.drop_eq_getElem_cons h]
  unfold rd
  rw [Int.toNat_natCast, List.getD_eq_getElem?_getD, List.getElem?_eq_getElem h]; rfl

set_option maxHeartbeats 2000000 in
theorem indexFunc_at (g : Nat) (lb : Array Value) (eg : ∀ args w, (callFunc g args).run Try.prog w = .ok (.enter g args) w) (p : Int → Bool) (A1 : Option Addr) (c1 : Nat) (l1 : List Int) (w : World)
    (hr1 : Kd.C (Kd.int .i64) w A1 l1.length l1) (hl : l1.length ≤ 1000000000) (hp : Asks g lb p w) :
    Calls Try.prog 78 #[.slice A1 l1.length c1, .func (.func g) #[] lb] w fun e w' => e = .returned (.int .i64 (idxP p l1 0)) ∧ ∃ q, w' = w.drewN q := by
  have hpAt : ∀ (x : Int) (q : Nat), Calls Try.prog g (#[.int .i64 x] ++ lb) (w.drewN q) fun e w' => e = .returned (.bool (p x)) ∧ ∃ q', w' = (w.drewN q).drewN q' := fun x q => hp _ x (pw_below_drewN (Below.refl _ w) q)
  have HR := Lib.hid hr1
  clear hp hr1
  go_enter Try.func78, Try.ntmps78
  go_wp2
  go_loopg [5, 8] l1.length (fun gg s5 s8 wr => ∃ kk q : Nat, kk ≤ l1.length ∧ l1.length - kk ≤ gg ∧ s8 = .int .i64 kk ∧ Aside0 (idxP p (l1.drop kk) kk = idxP p l1 0) ∧ wr = w.drewN q)
  case atStart => exact ⟨0, 0, by omega, by omega, rfl, ⟨by simp⟩, rfl⟩
  case round =>
    obtain ⟨kk, q, hkk, hg, rfl, HI, rfl⟩ := hrel
    by_cases hlt : kk < l1.length
    · have hltz : (kk : Int) < (l1.length : Int) := by omega
      have hk0 : (0 : Int) ≤ kk := by omega
      obtain ⟨ad, e, hx0⟩ := Kd.at_int HR.out (kk : Int) hk0 hltz
      subst e
      rw [Int.toNat_natCast] at hx0
      have hx1 : (w.drewN q).cell? (ad.add kk) = some (.int .i64 (rd l1 kk)) := hx0
      clear hx0
      have p1 := eq_true hk0
      have p2 := eq_true hltz
      have HI2 := Lib.hid HI.out
      clear HI
      have hcall := hpAt (rd l1 kk) q
      have HCALL := Lib.hid hcall
      clear hcall hpAt
      cases hq : p (rd l1 kk) with
      | true =>
        have HF : Hid (idxP p l1 0 = (kk : Int)) := by
          have := HI2.out
          rw [drop_rd l1 kk hlt] at this
          simp only [idxP, hq, if_true] at this
          exact this.symm
        have HQ := Lib.hid hq
        clear hq
        go_wp2_with fail
        have hc2 := HCALL.out
        rw [HQ.out] at hc2
        clear HCALL
        refine hc2.mono ?_
        clear hc2
        rintro e w' ⟨rfl, q', rfl⟩
        go_wp2
        go_ret
        exact ⟨by rw [HF.out]; rfl, _, rfl⟩
      | false =>
        have HF : Hid (idxP p (l1.drop (kk + 1)) (kk + 1) = idxP p l1 0) := by
          have := HI2.out
          rw [drop_rd l1 kk hlt] at this
          simp only [idxP, hq] at this
          exact this
        have HQ := Lib.hid hq
        clear hq
        go_wp2_with fail
        have hc2 := HCALL.out
        rw [HQ.out] at hc2
        clear HCALL
        refine hc2.mono ?_
        clear hc2
        rintro e w' ⟨rfl, q', rfl⟩
        go_wp2
        go_roundg (l1.length - (kk + 1))
        case measure => omega
        case rel => exact ⟨kk + 1, _, by omega, by omega, by go_num, ⟨HF.out⟩, rfl⟩
    · have : kk = l1.length := by omega
      subst this
      have HF : Hid (idxP p l1 0 = -1) := by
        have := HI.out
        rw [List.drop_length] at this
        exact this.symm
      clear HI
      go_wp2
      go_ret
      exact ⟨by rw [HF.out]; rfl, q, rfl⟩

set_option maxHeartbeats 2000000 in
theorem containsFunc_at (g : Nat) (lb : Array Value) (eg : ∀ args w, (callFunc g args).run Try.prog w = .ok (.enter g args) w) (p : Int → Bool) (A1 : Option Addr) (c1 : Nat) (l1 : List Int) (w : World)
    (hr1 : Kd.C (Kd.int .i64) w A1 l1.length l1) (hl : l1.length ≤ 1000000000) (hp : Asks g lb p w) :
    Calls Try.prog 65 #[.slice A1 l1.length c1, .func (.func g) #[] lb] w fun e w' => e = .returned (.bool (l1.any p)) ∧ ∃ q, w' = w.drewN q := by
  have HC := Lib.hid (indexFunc_at g lb eg p A1 c1 l1 w hr1 hl hp)
  have HA := Lib.hid (idxP_any p l1 0)
  clear hr1 hp
  go_enter Try.func65, Try.ntmps65
  go_wp2_with fail
  refine HC.out.mono ?_
  rintro e w' ⟨rfl, q', rfl⟩
  go_wp2
  go_ret
  exact ⟨by rw [← HA.out]; rfl, _, rfl⟩

/-- Is l a table. -/
def okTab (t : Int) (l : List Int) : Bool := (decide (1 ≤ t) && decide (t ≤ 2)) && (decide ((l.length : Int) = allW t + 1) && l.all (fun s => okS t s))
def impl_isTable.f (t : Int) (l : List Int) : Option Bool := some (okTab t l)

theorem tabAsks (t : Int) (B : Nat) (w : World) (h1 : w.heap[B]? = some (.cells #[.int .i64 t] 3 (0, 0))) :
    Asks 66 #[.pointer (some ⟨B, 0, none⟩)] (fun s => !okS t s) w := by
  intro W x hb
  have hc2 : W.cell? ⟨B, 0, none⟩ = some (.int .i64 t) := (hb.cell (p := ⟨B, 0, none⟩) (blk_lt h1)).trans (blk_cell h1 0)
  have HI := Lib.hid (isSet_eq t x)
  clear h1 hb
  go_enter Try.func66, Try.ntmps66
  go_wp2_with (go_at_call 42; refine (impl_isSet.calls t x _ _ HI.out).mono ?_; rintro e w' ⟨rfl, ⟨nd, rfl⟩⟩)
  go_ret
  exact ⟨rfl, _, rfl⟩

set_option maxHeartbeats 2000000 in
theorem impl_isTable.calls (a0 : Int) (A1 : Option Addr) (c1 : Nat) (l1 : List Int) (r : Bool) (w : World) (hr1 : Kd.C (Kd.int .i64) w A1 l1.length l1) (hc1 : l1.length ≤ c1) (h : impl_isTable.f a0 l1 = some r) :
    Calls Try.prog 36 #[.int .i64 a0, .slice A1 l1.length c1] w fun e w' => e = .returned (.bool r) ∧ Below w.heap.size w w' := by
  obtain rfl := Option.some.inj h
  clear h
  have HR := Lib.hid hr1
  clear hr1
  by_cases h1 : a0 < 1
  · have HF := Lib.hid (show okTab a0 l1 = false by unfold okTab; simp [show ¬ 1 ≤ a0 by omega])
    have d1 : decide (a0 < 1) = true := decide_eq_true h1
    clear h1
    go_enter Try.func36, Try.ntmps36
    go_wp2
    go_ret
    exact ⟨by rw [HF.out]; rfl, (Below.refl _ w).alloc (Nat.le_refl _) _⟩
  · have d1 : decide (a0 < 1) = false := decide_eq_false h1
    by_cases h2 : 2 < a0
    · have HF := Lib.hid (show okTab a0 l1 = false by unfold okTab; simp [show ¬ a0 ≤ 2 by omega])
      have d2 : decide (2 < a0) = true := decide_eq_true h2
      clear h1 h2
      go_enter Try.func36, Try.ntmps36
      go_wp2
      go_ret
      exact ⟨by rw [HF.out]; rfl, (Below.refl _ w).alloc (Nat.le_refl _) _⟩
    · have d2 : decide (2 < a0) = false := decide_eq_false h2
      have ht : okT a0 = true := by unfold okT; simp; omega
      have HN := Lib.hid (allWorlds_eq a0 ht)
      obtain ⟨ha1, ha2⟩ : 1 ≤ allW a0 ∧ allW a0 ≤ 255 := by rcases okT_cases ht with rfl | rfl | rfl <;> decide
      by_cases h3 : (l1.length : Int) = allW a0 + 1
      · have d3 : ((l1.length : Int) != allW a0 + 1) = false := by simp [h3]
        have HF : Hid (okTab a0 l1 = !(l1.any fun s => !okS a0 s)) := by
          unfold okTab
          rw [decide_eq_true (show (1 : Int) ≤ a0 by omega), decide_eq_true (show a0 ≤ 2 by omega), decide_eq_true h3, List.all_eq_not_any_not]
          rfl
        have hl : l1.length ≤ 1000000000 := by omega
        have HL := Lib.hid hl
        clear h1 h2 h3 ht hl
        go_enter Try.func36, Try.ntmps36
        go_wp2_with (go_at_call 64; refine (impl_allWorlds.calls a0 _ _ HN.out).mono ?_; rintro e w' ⟨rfl, ⟨nd, rfl⟩⟩)
        have hbw : Below w.heap.size w ((w.alloc (.cells #[.int .i64 a0] 3)).drewN nd) := pw_below_drewN ((Below.refl _ w).alloc (Nat.le_refl _) _) nd
        have HBW := Lib.hid hbw
        clear hbw
        refine (containsFunc_at 66 #[.pointer (some ⟨w.heap.size, 0, none⟩)] (enters_of Try.func66 (by kernel_rfl) rfl) (fun s => !okS a0 s) A1 c1 l1 ((w.alloc (.cells #[.int .i64 a0] 3)).drewN nd) (Kd.C_below HR.out HBW.out) HL.out
          (tabAsks a0 w.heap.size _ (show ((w.alloc (.cells #[.int .i64 a0] 3)).drewN nd).heap[w.heap.size]? = some (.cells #[.int .i64 a0] 3 (0, 0)) from blk_new w _))).mono ?_
        rintro e w2 ⟨rfl, q, rfl⟩
        go_wp2
        go_ret
        exact ⟨by rw [HF.out]; rfl, pw_below_drewN ((Below.refl _ w).alloc (Nat.le_refl _) _) (nd + q)⟩
      · have d3 : ((l1.length : Int) != allW a0 + 1) = true := by simp [h3]
        have HF := Lib.hid (show okTab a0 l1 = false by unfold okTab; simp [h3])
        clear h1 h2 h3 ht
        go_enter Try.func36, Try.ntmps36
        go_wp2_with (go_at_call 64; refine (impl_allWorlds.calls a0 _ _ HN.out).mono ?_; rintro e w' ⟨rfl, ⟨nd, rfl⟩⟩)
        go_ret
        exact ⟨by rw [HF.out]; rfl, pw_below_drewN ((Below.refl _ w).alloc (Nat.le_refl _) _) nd⟩

end Go.Proofs.Ytcmhilebiojfaaa.Hand

/- firstFault returns just the number that the words below tell, for rows of at most 256 sets. -/
namespace Go.Proofs.Ytcmhilebiojfaaa.Hand
open Go.RowKit Go.Proofs.Ytcmhilebiojfaaa.B Go.Proofs.YtcmhilebiojfaaaW.PrintWords Go.Proofs.YtcmhilebiojfaaaW.PrintLast Go.Proofs.YtcmhilebiojfaaaW.PrintMore
set_option linter.unusedVariables false
set_option linter.unusedSimpArgs false

/-- An entry, as a natural number. -/
def ent (l : List Int) (s : Nat) : Nat := (rd l (s : Int)).toNat
/-- Each entry is within its set. -/
def fault1 (l : List Int) : Bool := (List.range l.length).all fun s => ent l s &&& s == ent l s
/-- Only the empty set's entry is empty. -/
def fault2 (l : List Int) : Bool := (List.range l.length).all fun s => s == 0 || !(ent l s == 0)
/-- An entry and a set: what they have in common is the entry of what both sets have in common. -/
def fault3At (l : List Int) (a b : Nat) : Bool := ent l a &&& b == 0 || ent l a &&& b == ent l (a &&& b)
def fault3 (l : List Int) : Bool := (List.range l.length).all fun a => (List.range l.length).all fun b => fault3At l a b
/-- The least number of a postulate that is not fulfilled. -/
def fault (l : List Int) : Int := if fault1 l = true then (if fault2 l = true then (if fault3 l = true then 0 else 3) else 2) else 1

/-- The numbers from i on below n. -/
def from_ (i n : Nat) : List Nat := (List.range n).drop i
theorem from_zero (n : Nat) : from_ 0 n = List.range n := List.drop_zero
theorem from_cons (i n : Nat) (h : i < n) : from_ i n = i :: from_ (i + 1) n := by
  unfold from_
  rw [List.drop_eq_getElem_cons (by simpa using h)]
  simp
theorem from_end (n : Nat) : from_ n n = [] := by
  unfold from_; simp

theorem mem_rd (l : List Int) (i : Nat) (h : i < l.length) : rd l (i : Int) ∈ l := by
  unfold rd
  rw [Int.toNat_natCast, List.getD_eq_getElem?_getD, List.getElem?_eq_getElem h]
  exact List.getElem_mem h

theorem ff_l3 (l : List Int) (hl : l.length ≤ 256) (hp : ∀ x ∈ l, 0 ≤ x ∧ x ≤ 255) (a : Nat) (ha : a < l.length) (K : Nat) : ∀ (d b k : Nat), b + d = l.length → d + K < k →
    (∀ k', K ≤ k' → impl_firstFault.l2 k' l l (l.length : Int) ((a + 1 : Nat) : Int) = some (if (from_ (a + 1) l.length).all (fun a => (List.range l.length).all fun b => fault3At l a b) = true then 0 else 3)) →
    impl_firstFault.l3 k l (a : Int) (rd l (a : Int)) l (l.length : Int) (a : Int) (l.length : Int) (b : Int) =
      some (if ((from_ b l.length).all (fun b => fault3At l a b) && (from_ (a + 1) l.length).all (fun a => (List.range l.length).all fun b => fault3At l a b)) = true then 0 else 3) := by
  have hm := hp _ (mem_rd l a ha)
  obtain ⟨e, he⟩ := Int.eq_ofNat_of_zero_le hm.1
  have hE : ent l a = e := by unfold ent; rw [he]; simp
  intro d
  induction d with
  | zero =>
    intro b k hb hk h2
    obtain ⟨q, rfl⟩ : ∃ q, k = q + 1 := ⟨k - 1, by omega⟩
    obtain rfl : b = l.length := by omega
    simp only [impl_firstFault.l3]
    rw [if_neg (by omega), next64 a (by omega), h2 q (by omega), from_end]; simp
  | succ d ih =>
    intro b k hb hk h2
    obtain ⟨q, rfl⟩ : ∃ q, k = q + 1 := ⟨k - 1, by omega⟩
    have hab : a &&& b ≤ a := Nat.and_le_left
    have hIH := ih (b + 1) q (by omega) (by omega) h2
    rw [he] at hIH
    simp only [impl_firstFault.l3]
    rw [if_pos (by omega), he, and_i64 e b (by omega) (by omega), and_i64 a b (by omega) (by omega), from_cons b _ (by omega), next64 b (by omega), hIH]
    have hF : fault3At l a b = (e &&& b == 0 || e &&& b == ent l (a &&& b)) := by unfold fault3At; rw [hE]
    rw [List.all_cons, hF]
    by_cases hz : e &&& b = 0
    · rw [if_pos (by omega)]; simp [hz]
    · rw [if_neg (by omega), if_pos (by omega), if_pos (by omega)]
      have hm2 := hp _ (mem_rd l (a &&& b) (by omega))
      by_cases hy : e &&& b = ent l (a &&& b)
      · rw [if_pos (by unfold ent at hy; omega)]; simp [hy]
      · rw [if_neg (by unfold ent at hy; omega)]; simp [hy, hz]

theorem ff_l2 (l : List Int) (hl : l.length ≤ 256) (hp : ∀ x ∈ l, 0 ≤ x ∧ x ≤ 255) : ∀ (d a k : Nat), a + d = l.length → (d + 1) * (l.length + 3) < k →
    impl_firstFault.l2 k l l (l.length : Int) (a : Int) = some (if (from_ a l.length).all (fun a => (List.range l.length).all fun b => fault3At l a b) = true then 0 else 3) := by
  intro d
  induction d with
  | zero =>
    intro a k ha hk
    obtain ⟨q, rfl⟩ : ∃ q, k = q + 1 := ⟨k - 1, by omega⟩
    obtain rfl : a = l.length := by omega
    simp only [impl_firstFault.l2]
    rw [if_neg (by omega), from_end]; rfl
  | succ d ih =>
    intro a k ha hk
    obtain ⟨q, rfl⟩ : ∃ q, k = q + 1 := ⟨k - 1, by omega⟩
    simp only [impl_firstFault.l2]
    have e1 : (d + 1 + 1) * (l.length + 3) = (d + 1) * (l.length + 3) + (l.length + 3) := by rw [Nat.add_mul, Nat.one_mul]
    have h3 := ff_l3 l hl hp a (by omega) ((d + 1) * (l.length + 3) + 1) l.length 0 q (by omega) (by omega) (fun k' hk' => ih (a + 1) k' (by omega) (by omega))
    rw [if_pos (by omega), if_pos (by omega), if_pos (by omega), show (0 : Int) = ((0 : Nat) : Int) from rfl, h3, from_cons a _ (by omega), from_zero]; rfl

theorem ff_l1 (l : List Int) (hl : l.length ≤ 256) (hp : ∀ x ∈ l, 0 ≤ x ∧ x ≤ 255) (h0 : l.length = 0 ∨ ent l 0 = 0) : ∀ (d a k : Nat), a + d = l.length → d + (l.length + 1) * (l.length + 3) + 1 < k →
    impl_firstFault.l1 k l l (l.length : Int) (a : Int) = some (if (from_ a l.length).all (fun s => s == 0 || !(ent l s == 0)) = true then (if fault3 l = true then 0 else 3) else 2) := by
  intro d
  induction d with
  | zero =>
    intro a k ha hk
    obtain ⟨q, rfl⟩ : ∃ q, k = q + 1 := ⟨k - 1, by omega⟩
    obtain rfl : a = l.length := by omega
    simp only [impl_firstFault.l1]
    have h2 := ff_l2 l hl hp l.length 0 q (by omega) (by omega)
    rw [if_neg (by omega), from_end, show (0 : Int) = ((0 : Nat) : Int) from rfl, h2, from_zero]; rfl
  | succ d ih =>
    intro a k ha hk
    obtain ⟨q, rfl⟩ : ∃ q, k = q + 1 := ⟨k - 1, by omega⟩
    have hm := hp _ (mem_rd l a (by omega))
    simp only [impl_firstFault.l1]
    rw [if_pos (by omega), if_pos (by omega), if_pos (by omega), next64 a (by omega), ih (a + 1) q (by omega) (by omega), from_cons a _ (by omega), List.all_cons]
    have hx : ((rd l (a : Int) == 0) != ((a : Int) == 0)) = !(a == 0 || !(ent l a == 0)) := by
      by_cases hz : a = 0
      · subst hz
        have : ent l 0 = 0 := by rcases h0 with h | h; omega; exact h
        unfold ent at this
        have : rd l ((0 : Nat) : Int) = 0 := by omega
        rw [this]; rfl
      · have e1 : ((a : Int) == 0) = false := by simp; omega
        have e2 : (a == 0) = false := by simp [hz]
        have e3 : (rd l (a : Int) == 0) = (ent l a == 0) := by
          unfold ent
          rw [Bool.eq_iff_iff]; simp; omega
        rw [e1, e2, e3]; cases ent l a == 0 <;> rfl
    rw [hx]
    cases a == 0 || !(ent l a == 0) <;> simp

theorem ff_l0 (l : List Int) (hl : l.length ≤ 256) (hp : ∀ x ∈ l, 0 ≤ x ∧ x ≤ 255) : ∀ (d a k : Nat), a + d = l.length → (0 < a → ent l 0 = 0) → d + l.length + (l.length + 1) * (l.length + 3) + 2 < k →
    impl_firstFault.l0 k l l (l.length : Int) (a : Int) = some (if (from_ a l.length).all (fun s => ent l s &&& s == ent l s) = true then (if fault2 l = true then (if fault3 l = true then 0 else 3) else 2) else 1) := by
  intro d
  induction d with
  | zero =>
    intro a k ha h0 hk
    obtain ⟨q, rfl⟩ : ∃ q, k = q + 1 := ⟨k - 1, by omega⟩
    obtain rfl : a = l.length := by omega
    simp only [impl_firstFault.l0]
    have h1 := ff_l1 l hl hp (by rcases Nat.eq_zero_or_pos l.length with h | h; exact .inl h; exact .inr (h0 h)) l.length 0 q (by omega) (by omega)
    rw [if_neg (by omega), from_end, show (0 : Int) = ((0 : Nat) : Int) from rfl, h1, from_zero]; rfl
  | succ d ih =>
    intro a k ha h0 hk
    obtain ⟨q, rfl⟩ : ∃ q, k = q + 1 := ⟨k - 1, by omega⟩
    have hm := hp _ (mem_rd l a (by omega))
    obtain ⟨e, he⟩ := Int.eq_ofNat_of_zero_le hm.1
    have hE : ent l a = e := by unfold ent; rw [he]; simp
    simp only [impl_firstFault.l0]
    rw [if_pos (by omega), if_pos (by omega), if_pos (by omega), he, andNot_i64 e a (by omega) (by omega), next64 a (by omega), from_cons a _ (by omega), List.all_cons, hE]
    by_cases hz : minus e a = 0
    · have hz2 := (minus_zero e a).1 hz
      have h00 : 0 < a + 1 → ent l 0 = 0 := by
        intro _
        by_cases ha0 : a = 0
        · subst ha0; rw [hE, ← hz2]; simp
        · exact h0 (by omega)
      rw [if_pos (by omega), ih (a + 1) q (by omega) h00 (by omega)]
      simp [hz2]
    · have hz2 : ¬ e &&& a = e := fun h => hz ((minus_zero e a).2 h)
      rw [if_neg (by omega)]
      simp [hz2]

theorem firstFault_eq (l : List Int) (k : Nat) (hl : l.length ≤ 256) (hp : ∀ x ∈ l, 0 ≤ x ∧ x ≤ 255) (hk : 70000 ≤ k) : impl_firstFault.f k l = some (fault l) := by
  have e1 : (l.length + 1) * (l.length + 3) ≤ 257 * 259 := Nat.mul_le_mul (by omega) (by omega)
  have h := ff_l0 l hl hp l.length 0 k (by omega) (fun h => absurd h (by omega)) (by omega)
  unfold impl_firstFault.f
  rw [show (0 : Int) = ((0 : Nat) : Int) from rfl, h, from_zero]; rfl

end Go.Proofs.Ytcmhilebiojfaaa.Hand

/- TableFrom returns just the row of all revisions where there are ranks and at most two things, and nothing for others; for all arguments. -/
namespace Go.Proofs.Ytcmhilebiojfaaa.Hand
open Go.RowKit Go.Proofs.Ytcmhilebiojfaaa.B Go.Proofs.YtcmhilebiojfaaaW.PrintWords Go.Proofs.YtcmhilebiojfaaaW.PrintLast Go.Proofs.YtcmhilebiojfaaaW.PrintMore
set_option linter.unusedVariables false
set_option linter.unusedSimpArgs false

theorem fromGives (t : Int) (A1 : Option Addr) (c1 : Nat) (l1 : List Int) (B1 B2 n : Nat) (w w0 : World) (hb0 : Below w0.heap.size w0 w) (hr : Kd.C (Kd.int .i64) w0 A1 l1.length l1) (hc : l1.length ≤ c1)
    (ht : okT t = true) (hl : (l1.length : Int) = nW t) (hn : n ≤ 256)
    (h1 : w.heap[B1]? = some (.cells #[.int .i64 t] 3 (0, 0))) (h2 : w.heap[B2]? = some (.cells #[.slice A1 l1.length c1] 22 (0, 0))) :
    Gives 62 #[.pointer (some ⟨B1, 0, none⟩), .pointer (some ⟨B2, 0, none⟩)] n (fun s : Nat => rev l1 (s : Int)) w := by
  intro W x hx hb
  have hc1 : W.cell? ⟨B1, 0, none⟩ = some (.int .i64 t) := (hb.cell (p := ⟨B1, 0, none⟩) (blk_lt h1)).trans (blk_cell h1 0)
  have hc2 : W.cell? ⟨B2, 0, none⟩ = some (.slice A1 l1.length c1) := (hb.cell (p := ⟨B2, 0, none⟩) (blk_lt h2)).trans (blk_cell h2 0)
  have HC := Lib.hid (Kd.C_below (Kd.C_below hr hb0) hb)
  have HF := Lib.hid (show impl_revisedBy.f t l1 (x : Int) = some (rev l1 (x : Int)) by unfold impl_revisedBy.f; rw [if_pos ⟨ht, hl, by omega, by omega⟩])
  clear h1 h2 hb hb0 hr ht hl
  go_enter Try.func62, Try.ntmps62
  go_wp2_with fail
  refine (impl_revisedBy.calls t A1 c1 l1 x _ _ HC.out hc HF.out).mono ?_
  rintro e w' ⟨rfl, hb⟩
  have HB := Lib.hid hb
  clear hb
  go_wp2
  go_ret
  exact ⟨rfl, HB.out⟩

/-- TableFrom, where there is one. -/
def fromTab (t : Int) (l : List Int) : List Int := (List.range ((allW t).toNat + 1)).map (fun s : Nat => rev l (s : Int))
def impl_TableFrom.f (t : Int) (l : List Int) : Option (List Int) := some (if t ≤ 2 ∧ okR t l = true then fromTab t l else [])

set_option maxHeartbeats 2000000 in
theorem impl_TableFrom.calls (a0 : Int) (A1 : Option Addr) (c1 : Nat) (l1 : List Int) (r : List Int) (w : World) (hr1 : Kd.C (Kd.int .i64) w A1 l1.length l1) (hc1 : l1.length ≤ c1) (h : impl_TableFrom.f a0 l1 = some r) :
    Calls Try.prog 32 #[.int .i64 a0, .slice A1 l1.length c1] w fun e w' => ∃ v0_ : Value, e = .returned (v0_) ∧ Kd.R (Kd.int .i64) 3 w' w.heap.size (fun _ => True) v0_ r ∧ Below w.heap.size w w' := by
  obtain hr := Option.some.inj h
  clear h
  have HIS := fun b (hb : okR a0 l1 = b) => Lib.hid (show impl_isRank.f 100 a0 l1 = some b by rw [isRank_eq a0 l1 100 (by decide), hb])
  have HR := Lib.hid hr1
  clear hr1
  by_cases h1 : 2 < a0
  · rw [if_neg (by omega)] at hr
    subst hr
    have d1 : decide (2 < a0) = true := decide_eq_true h1
    clear HIS h1
    go_enter Try.func32, Try.ntmps32
    go_wp2
    go_ret
    exact ⟨_, rfl, Kd.R_nil _ _ _ _ _, ((Below.refl _ w).alloc (Nat.le_refl _) _).alloc (by simp) _⟩
  · have d1 : decide (2 < a0) = false := decide_eq_false h1
    have HBW := Lib.hid (show Below w.heap.size w ((w.alloc (.cells #[.int .i64 a0] 3)).alloc (.cells #[.slice A1 l1.length c1] 22)) from ((Below.refl _ w).alloc (Nat.le_refl _) _).alloc (by simp) _)
    cases hs : okR a0 l1 with
    | false =>
      rw [if_neg (by rw [hs]; simp)] at hr
      subst hr
      have HI := HIS false hs
      clear HIS h1 hs
      go_enter Try.func32, Try.ntmps32
      go_wp2_with fail
      refine (impl_isRank.calls 100 a0 A1 c1 l1 false _ (Kd.C_below HR.out HBW.out) hc1 HI.out).mono ?_
      rintro e w1 ⟨rfl, hb1⟩
      have HB1 := Lib.hid hb1
      clear hb1
      go_wp2
      go_ret
      exact ⟨_, rfl, Kd.R_nil _ _ _ _ _, below_step HBW.out HB1.out⟩
    | true =>
      have HI := HIS true hs
      clear HIS
      rw [if_pos ⟨by omega, hs⟩] at hr
      subst hr
      have hok := okR_cases hs
      have HN := Lib.hid (show impl_allWorlds.f a0 = some ((((allW a0).toNat + 1 : Nat) : Int) - 1) ∧ (allW a0).toNat + 1 ≤ 256 from allW_nat hok.1)
      have HOK := Lib.hid hok
      clear h1 hs hok
      go_enter Try.func32, Try.ntmps32
      go_wp2_with fail
      refine (impl_isRank.calls 100 a0 A1 c1 l1 true _ (Kd.C_below HR.out HBW.out) hc1 HI.out).mono ?_
      rintro e w1 ⟨rfl, hb1⟩
      have HB1 := Lib.hid hb1
      have HK1 := Lib.hid (blk_below ((Below.heap_alloc _ _ _ (by simp)).trans (blk_new w (.cells #[.int .i64 a0] 3))) hb1)
      have HK2 := Lib.hid (blk_below (blk_new (w.alloc (.cells #[.int .i64 a0] 3)) (.cells #[.slice A1 l1.length c1] 22)) hb1)
      have hsz : (w.alloc (.cells #[.int .i64 a0] 3)).heap.size = w.heap.size + 1 := by simp
      have HK3 := Lib.hid (show w1.heap[w.heap.size + 1]? = some (.cells #[.slice A1 l1.length c1] 22 (0, 0)) from by rw [← hsz]; exact HK2.out)
      have hcT : w1.cell? ⟨w.heap.size, 0, none⟩ = some (.int .i64 a0) := blk_cell HK1.out 0
      clear hb1 hsz
      go_wp2_with fail
      refine (tableBy_at ((allW a0).toNat + 1) a0 HN.out.2 HN.out.1 62 #[.pointer (some ⟨w.heap.size, 0, none⟩), .pointer (some ⟨w.heap.size + 1, 0, none⟩)] (enters_of Try.func62 (by kernel_rfl) rfl) (fun s : Nat => rev l1 (s : Int)) w1
          (fromGives a0 A1 c1 l1 w.heap.size (w.heap.size + 1) _ w1 w (below_step HBW.out HB1.out) HR.out hc1 HOK.out.1 HOK.out.2.1 HN.out.2 HK1.out HK3.out)).mono ?_
      rintro e w2 ⟨v, rfl, ho, hb⟩
      have HH := Lib.hid (And.intro ho hb)
      clear ho hb
      go_wp2
      go_ret
      have hbw : Below w.heap.size w w1 := below_step HBW.out HB1.out
      exact ⟨v, rfl, Kd.R_lower HH.out.1 hbw.size, below_step hbw HH.out.2⟩

end Go.Proofs.Ytcmhilebiojfaaa.Hand
