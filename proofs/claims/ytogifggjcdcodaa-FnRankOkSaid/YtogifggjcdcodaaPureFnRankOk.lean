/- The law of RankOk: all may be alike. For all bytes. -/
import Derived.Test.YtogifggjcdcodaaHm
import Derived.Test.YtogifggjcdcodaaPx1
import Derived.Test.YtogifggjcdcodaaPx2
import Derived.Test.YtogifggjcdcodaaPx3
import Derived.Test.YtogifggjcdcodaaPx4
import Derived.Test.YtogifggjcdcodaaPx5
import Derived.Test.YtogifggjcdcodaaHandF
import Derived.Test.YtogifggjcdcodaaPx9
/- Plain laws of the smallest functions: what the number of worlds, the sets and the tests of arguments come to; no condition beyond those that stand with each. -/
namespace Go.Proofs.Ytogifggjcdcodaa.L
open Go.RowKit Go.Proofs.Ytogifggjcdcodaa.B Go.Proofs.Ytogifggjcdcodaa.P Go.Proofs.Ytogifggjcdcodaa.Hand Go.Proofs.YtogifggjcdcodaaW.PrintWords Go.Proofs.YtogifggjcdcodaaW.PrintLast Go.Proofs.YtogifggjcdcodaaW.PrintMore
set_option linter.unusedVariables false
set_option linter.unusedSimpArgs false

theorem l1In_eq (a b c : Int) : spec_l1In.f a b c = some (decide (b ≤ a) && decide (a ≤ c)) := by
  unfold spec_l1In.f
  by_cases h : a ≥ b
  · rw [if_pos h]; simp [show b ≤ a from h]
  · rw [if_neg h]; simp [show ¬ b ≤ a from h]

theorem l1In_13 (a : Int) : spec_l1In.f a 1 3 = some (okT a) := l1In_eq a 1 3

theorem l1All_eq (a : Int) (h : okT a = true) : spec_l1All.f a = some (allW a) := by
  unfold spec_l1All.f allF; rw [if_pos h]


theorem sSetOk_eq (t s : Int) : spec_SetOk.f t s = some (okS t s) := by
  unfold spec_SetOk.f okS
  rw [l1In_13]
  simp only [Option.bind_some]
  cases h : okT t with
  | false => simp
  | true =>
    rw [l1All_eq t h]
    simp [l1In_eq]

theorem WorldsOf_eq (t : Int) : impl_WorldsOf.f t = some (nW t) := by
  unfold impl_WorldsOf.f nW
  rw [areThings_eq]
  simp only [Option.bind_some]
  cases h : okT t with
  | false => simp
  | true => rcases okT_cases h with rfl | rfl | rfl <;> decide +kernel

theorem sWorldsOf_eq (t : Int) : spec_WorldsOf.f t = some (nW t) := by
  unfold spec_WorldsOf.f nW
  rw [l1In_13]
  simp only [Option.bind_some]
  cases h : okT t with
  | false => simp
  | true => rcases okT_cases h with rfl | rfl | rfl <;> decide +kernel

theorem alive_eq : laws_alive.f = some true := by
  unfold laws_alive.f
  rw [WorldsOf_eq, WorldsOf_eq]
  decide +kernel


end Go.Proofs.Ytogifggjcdcodaa.L

/- Plain laws of the functions that draw: each draw answers, at every code of bytes, within the ranges that stand with it; the reader's place moves on by a few. -/
namespace Go.Proofs.Ytogifggjcdcodaa.L
open Go.RowKit Go.Proofs.Ytogifggjcdcodaa.B Go.Proofs.Ytogifggjcdcodaa.P Go.Proofs.Ytogifggjcdcodaa.Hand Go.Proofs.YtogifggjcdcodaaW.PrintWords Go.Proofs.YtogifggjcdcodaaW.PrintLast Go.Proofs.YtogifggjcdcodaaW.PrintMore
set_option linter.unusedVariables false
set_option linter.unusedSimpArgs false

theorem xor_i64 (a b : Nat) (ha : a < 2 ^ 62) (hb : b < 2 ^ 62) : bits .xor .i64 a b = ((a ^^^ b : Nat) : Int) := by
  have hx : a ^^^ b < 2 ^ 62 := Nat.xor_lt_two_pow ha hb
  simp only [bits, BitVec.ofInt_natCast, BitVec.toNat_xor, BitVec.toNat_ofNat]
  have e : IntKind.i64.bits = 64 := rfl
  rw [e, Nat.mod_eq_of_lt (by omega), Nat.mod_eq_of_lt (by omega)]
  exact wraps_i64 _ (by omega) (by omega)

theorem xor_nonneg (x y : Int) (hx : 0 ≤ x) (hx2 : x < 4611686018427387904) (hy : 0 ≤ y) (hy2 : y < 4611686018427387904) : 0 ≤ bits .xor .i64 x y := by
  obtain ⟨a, rfl⟩ := Int.eq_ofNat_of_zero_le hx
  obtain ⟨b, rfl⟩ := Int.eq_ofNat_of_zero_le hy
  rw [xor_i64 a b (by omega) (by omega)]
  omega

/-- A reader's bytes. -/
structure Rd (b : List Int) : Prop where
  byte : ∀ x, x ∈ b → 0 ≤ x ∧ x ≤ 255
  len : b.length ≤ 2000

theorem Rd.at_ {b : List Int} (h : Rd b) (i : Int) : 0 ≤ rd b i ∧ rd b i ≤ 255 := by
  unfold rd
  rw [List.getD_eq_getElem?_getD]
  by_cases e : i.toNat < b.length
  · rw [List.getElem?_eq_getElem e]; exact h.byte _ (List.getElem_mem e)
  · rw [List.getElem?_eq_none (by omega)]; simp

theorem pick_ok {b : List Int} (hb : Rd b) (p n : Int) (hp : 0 ≤ p) (hp2 : p ≤ 1000000) (hn : 1 ≤ n) (hn2 : n ≤ 1000000) :
    ∃ v, 0 ≤ v ∧ v < n ∧ ∀ k, 1 ≤ k → spec_l20Rd_pick.f k b p n = some (v, p + 1) := by
  have e1 : wrap64 (p + 1) = p + 1 := w64 (by omega) (by omega)
  have e2 : wrap64 (p + 1 - 1) = p := by rw [w64 (by omega) (by omega)]; omega
  by_cases hl : (b.length : Int) = 0
  · refine ⟨0, by omega, by omega, fun k hk => ?_⟩
    obtain ⟨m, rfl⟩ : ∃ m, k = m + 1 := ⟨k - 1, by omega⟩
    unfold spec_l20Rd_pick.f
    rw [if_neg (by omega), e1]
    simp only [spec_l20Rd_pick.j0]
    rw [if_pos (by rw [hl]; rfl)]
  · have hlen : 0 < (b.length : Int) := by omega
    have hlen2 : (b.length : Int) ≤ 2000 := by have := hb.len; omega
    have hle : ¬ (((b.length : Int) == 0) = true) := fun h => hl (beq_iff_eq.1 h)
    by_cases hlt : p < (b.length : Int)
    · have hr := hb.at_ p
      refine ⟨Int.tmod (rd b p) n, Int.tmod_nonneg _ hr.1, Int.tmod_lt_of_pos _ (by omega), fun k hk => ?_⟩
      obtain ⟨m, rfl⟩ : ∃ m, k = m + 1 := ⟨k - 1, by omega⟩
      unfold spec_l20Rd_pick.f
      rw [if_neg (by omega), e1]
      simp only [spec_l20Rd_pick.j0]
      rw [if_neg hle, e2, if_pos hlt, if_pos hp, if_neg (by omega), w64 (n := rd b p) (by omega) (by omega)]
    · have m1 : 0 ≤ Int.tmod p (b.length : Int) := Int.tmod_nonneg _ hp
      have m2 : Int.tmod p (b.length : Int) < (b.length : Int) := Int.tmod_lt_of_pos _ hlen
      have e3 : wrap64 (wrap64 (p * 7) + 3) = p * 7 + 3 := by rw [w64 (n := p * 7) (by omega) (by omega), w64 (by omega) (by omega)]
      have m3 : 0 ≤ Int.tmod (p * 7 + 3) (b.length : Int) := Int.tmod_nonneg _ (by omega)
      have m4 : Int.tmod (p * 7 + 3) (b.length : Int) < (b.length : Int) := Int.tmod_lt_of_pos _ hlen
      have a1 := hb.at_ (Int.tmod p (b.length : Int))
      have a2 := hb.at_ (Int.tmod (p * 7 + 3) (b.length : Int))
      have d1 : 0 ≤ Int.tdiv p (b.length : Int) := Int.tdiv_nonneg hp (by omega)
      have d2 : Int.tdiv p (b.length : Int) ≤ p := by
        rw [Int.tdiv_eq_ediv_of_nonneg hp]
        exact Int.ediv_le_self _ hp
      generalize hA : rd b (Int.tmod p (b.length : Int)) = A at a1
      generalize hB : rd b (Int.tmod (p * 7 + 3) (b.length : Int)) = B at a2
      generalize hD : Int.tdiv p (b.length : Int) = D at d1 d2
      have eY : wrap64 (wrap64 (wrap64 (wrap64 (wrap64 A * 131) + wrap64 (wrap64 B * 1117)) + wrap64 (p * 29)) + wrap64 (wrap64 D * 53)) = A * 131 + B * 1117 + p * 29 + D * 53 := by
        rw [w64 (n := A) (by omega) (by omega), w64 (n := B) (by omega) (by omega), w64 (n := D) (by omega) (by omega), w64 (n := A * 131) (by omega) (by omega), w64 (n := B * 1117) (by omega) (by omega), w64 (n := p * 29) (by omega) (by omega), w64 (n := D * 53) (by omega) (by omega), w64 (n := A * 131 + B * 1117) (by omega) (by omega), w64 (n := A * 131 + B * 1117 + p * 29) (by omega) (by omega), w64 (by omega) (by omega)]
      generalize hY : A * 131 + B * 1117 + p * 29 + D * 53 = Y at eY
      have y1 : 0 ≤ Y := by omega
      have y2 : Y ≤ 200000000 := by omega
      have eq : Int.tdiv Y 64 = Y / 64 := Int.tdiv_eq_ediv_of_nonneg y1
      have hx : 0 ≤ Go.bits .xor .i64 Y (wrap64 (Int.tdiv Y 64)) := by
        rw [eq, w64 (by omega) (by omega)]
        exact xor_nonneg _ _ y1 (by omega) (by omega) (by omega)
      refine ⟨Int.tmod (Go.bits .xor .i64 Y (wrap64 (Int.tdiv Y 64))) n, Int.tmod_nonneg _ hx, Int.tmod_lt_of_pos _ (by omega), fun k hk => ?_⟩
      obtain ⟨m, rfl⟩ : ∃ m, k = m + 1 := ⟨k - 1, by omega⟩
      unfold spec_l20Rd_pick.f
      rw [if_neg (by omega), e1]
      simp only [spec_l20Rd_pick.j0]
      rw [if_neg hle, e2, if_neg hlt, if_neg hl, if_pos m1, if_pos m2, e3, if_pos m3, if_pos m4, if_neg (by omega), hA, hB, hD, eY]

theorem odd_ok {b : List Int} (hb : Rd b) (p n : Int) (hp : 0 ≤ p) (hp2 : p ≤ 1000000) (hn : 0 ≤ n) (hn2 : n ≤ 1000000) :
    ∃ (v : Bool) (p' : Int), p ≤ p' ∧ p' ≤ p + 1 ∧ ∀ k, 1 ≤ k → spec_l20Rd_odd.f k b p n = some (v, p') := by
  by_cases h : n > 0
  · obtain ⟨v, h0, h1, hv⟩ := pick_ok hb p n hp hp2 (by omega) hn2
    exact ⟨v == wrap64 (n - 1), p + 1, by omega, by omega, fun k hk => by unfold spec_l20Rd_odd.f; rw [if_pos h, hv k hk]; rfl⟩
  · exact ⟨false, p, by omega, by omega, fun k hk => by unfold spec_l20Rd_odd.f; rw [if_neg h]⟩

theorem things_ok {b : List Int} (hb : Rd b) (p n : Int) (hp : 0 ≤ p) (hp2 : p ≤ 900000) (hn : 0 ≤ n) (hn2 : n ≤ 1000000) :
    ∃ t p' : Int, p ≤ p' ∧ p' ≤ p + 2 ∧ -1 ≤ t ∧ t ≤ 4 ∧ ∀ k, 1 ≤ k → spec_l20Things.f k b p n = some (t, p') := by
  obtain ⟨v, p1, a1, a2, hv⟩ := odd_ok hb p n hp (by omega) hn hn2
  cases v with
  | true =>
    obtain ⟨i, i0, i1, hi⟩ := pick_ok hb p1 3 (by omega) (by omega) (by omega) (by omega)
    have hr : -1 ≤ rd [0, 4, -1] i ∧ rd [0, 4, -1] i ≤ 4 := by
      rcases (show i = 0 ∨ i = 1 ∨ i = 2 by omega) with rfl | rfl | rfl <;> decide
    refine ⟨rd [0, 4, -1] i, p1 + 1, by omega, by omega, hr.1, hr.2, fun k hk => ?_⟩
    unfold spec_l20Things.f
    rw [hv k hk]
    simp only [Option.bind_some, if_true]
    rw [hi k hk]
    simp only [Option.bind_some]
    rw [if_pos i0, if_pos (by simp; omega)]
  | false =>
    obtain ⟨i, i0, i1, hi⟩ := pick_ok hb p1 5 (by omega) (by omega) (by omega) (by omega)
    have hr : -1 ≤ rd [1, 2, 2, 3, 3] i ∧ rd [1, 2, 2, 3, 3] i ≤ 4 := by
      rcases (show i = 0 ∨ i = 1 ∨ i = 2 ∨ i = 3 ∨ i = 4 by omega) with rfl | rfl | rfl | rfl | rfl <;> decide
    refine ⟨rd [1, 2, 2, 3, 3] i, p1 + 1, by omega, by omega, hr.1, hr.2, fun k hk => ?_⟩
    unfold spec_l20Things.f
    rw [hv k hk]
    simp only [Option.bind_some]
    rw [if_neg (by simp), hi k hk]
    simp only [Option.bind_some]
    rw [if_pos i0, if_pos (by simp; omega)]

theorem open_ok (l0 : List Int) (hb : ∀ x ∈ l0, (Lit.int .u8 x).wf = true) : ∃ b, Rd b ∧ spec_l20Open.f l0 = some (b, 0) := by
  have hx : ∀ x ∈ l0, 0 ≤ x ∧ x ≤ 255 := fun x hx => by
    have := hb x hx
    simp [Lit.wf, IntKind.min, IntKind.max, IntKind.bits, IntKind.signed] at this
    omega
  unfold spec_l20Open.f
  by_cases h : (l0.length : Int) > 2000
  · rw [if_pos h, if_pos (by omega)]
    exact ⟨l0.take 2000, ⟨fun x hm => hx x (List.mem_of_mem_take hm), by simp; omega⟩, rfl⟩
  · rw [if_neg h]
    exact ⟨l0, ⟨hx, by omega⟩, rfl⟩

end Go.Proofs.Ytogifggjcdcodaa.L

/- Plain laws of the sets' own functions: a set's bit, what is in both, and the drawing of a set; sets are told by numbers from 0 to 255. -/
namespace Go.Proofs.Ytogifggjcdcodaa.L
open Go.RowKit Go.Proofs.Ytogifggjcdcodaa.B Go.Proofs.Ytogifggjcdcodaa.P Go.Proofs.Ytogifggjcdcodaa.Hand Go.Proofs.YtogifggjcdcodaaW.PrintWords Go.Proofs.YtogifggjcdcodaaW.PrintLast Go.Proofs.YtogifggjcdcodaaW.PrintMore
set_option linter.unusedVariables false
set_option linter.unusedSimpArgs false

theorem bit_nat (a w : Nat) (hw : w ≤ 62) : spec_l1Bit.f (a : Int) (w : Int) = some (if a.testBit w = true then 1 else 0) := by
  unfold spec_l1Bit.f
  rw [if_pos (by omega), shr_nat a w hw, tmod2]

theorem both_l0 (a b : Nat) : ∀ (d w k : Nat), w + d = 8 → d < k →
    spec_l1Both.l0 k a b (sumN w (fun i => a.testBit i && b.testBit i) : Nat) w = some ((sumN 8 (fun i => a.testBit i && b.testBit i) : Nat) : Int) := by
  intro d
  induction d with
  | zero =>
    intro w k hw hk
    obtain ⟨m, rfl⟩ : ∃ m, k = m + 1 := ⟨k - 1, by omega⟩
    obtain rfl : w = 8 := by omega
    simp only [spec_l1Both.l0]
    rw [if_neg (by omega)]
  | succ d ih =>
    intro w k hw hk
    obtain ⟨m, rfl⟩ : ∃ m, k = m + 1 := ⟨k - 1, by omega⟩
    have hlt := sumN_lt w (fun i => a.testBit i && b.testBit i)
    have hp : 2 ^ w ≤ 2 ^ 7 := Nat.pow_le_pow_right (by decide) (by omega)
    have e1 : wrap64 ((w : Int) + 1) = ((w + 1 : Nat) : Int) := by rw [w64 (by omega) (by omega)]; simp
    have key : ∀ x y : Bool, wrap64 (((sumN w (fun i => a.testBit i && b.testBit i) : Nat) : Int) + shl .i64 (wrap64 ((if x = true then 1 else 0) * (if y = true then 1 else 0))) (w : Int)) = ((sumN w (fun i => a.testBit i && b.testBit i) + (if (x && y) = true then 2 ^ w else 0) : Nat) : Int) := by
      intro x y
      generalize sumN w (fun i => a.testBit i && b.testBit i) = q at hlt
      have s0 : shl .i64 (wrap64 0) (w : Int) = 0 := by
        have := shl_nat 0 w (by omega) (by omega)
        rw [Nat.zero_mul] at this
        rw [show wrap64 0 = 0 from w64 (by omega) (by omega)]
        exact this
      have s1 : shl .i64 (wrap64 1) (w : Int) = ((2 ^ w : Nat) : Int) := by
        have := shl_nat 1 w (by omega) (by omega)
        rw [Nat.one_mul] at this
        rw [show wrap64 1 = 1 from w64 (by omega) (by omega)]
        exact this
      generalize 2 ^ w = e at s1 hlt hp
      cases x <;> cases y
      · show wrap64 ((q : Int) + shl .i64 (wrap64 0) (w : Int)) = _
        rw [s0, w64 (by omega) (by omega)]; simp
      · show wrap64 ((q : Int) + shl .i64 (wrap64 0) (w : Int)) = _
        rw [s0, w64 (by omega) (by omega)]; simp
      · show wrap64 ((q : Int) + shl .i64 (wrap64 0) (w : Int)) = _
        rw [s0, w64 (by omega) (by omega)]; simp
      · show wrap64 ((q : Int) + shl .i64 (wrap64 1) (w : Int)) = _
        rw [s1, w64 (by omega) (by omega)]; simp
    have key := key (a.testBit w) (b.testBit w)
    rw [show sumN w (fun i => a.testBit i && b.testBit i) + (if (a.testBit w && b.testBit w) = true then 2 ^ w else 0) = sumN (w + 1) (fun i => a.testBit i && b.testBit i) from rfl] at key
    simp only [spec_l1Both.l0]
    rw [if_pos (by omega), bit_nat a w (by omega)]
    simp only [Option.bind_some]
    rw [bit_nat b w (by omega)]
    simp only [Option.bind_some]
    rw [if_pos (by omega), key, e1]
    exact ih (w + 1) m (by omega) (by omega)

/-- What is in both sets. -/
theorem both_nat (a b k : Nat) (ha : a < 256) (hk : 9 ≤ k) : spec_l1Both.f k (a : Int) (b : Int) = some ((a &&& b : Nat) : Int) := by
  have h := both_l0 a b 8 0 k (by omega) (by omega)
  have e : sumN 8 (fun i => a.testBit i && b.testBit i) = a &&& b := by
    have h2 : a &&& b < 2 ^ 8 := Nat.lt_of_le_of_lt Nat.and_le_left ha
    rw [← sumN_bits 8 (a &&& b) h2]
    exact sumN_congr _ _ _ fun i _ => by rw [Nat.testBit_and]
  rw [e] at h
  unfold spec_l1Both.f
  simpa [sumN] using h

theorem both_int (a b : Int) (k : Nat) (ha : 0 ≤ a) (ha2 : a < 256) (hb : 0 ≤ b) (hk : 9 ≤ k) : spec_l1Both.f k a b = some ((a.toNat &&& b.toNat : Nat) : Int) := by
  obtain ⟨x, rfl⟩ := Int.eq_ofNat_of_zero_le ha
  obtain ⟨y, rfl⟩ := Int.eq_ofNat_of_zero_le hb
  exact both_nat x y k (by omega) hk


end Go.Proofs.Ytogifggjcdcodaa.L

/- Plain laws of the statements' own helpers: a copy is the list, a list equals itself, what is marked is held; lists of at most 2000000 numbers. -/
namespace Go.Proofs.Ytogifggjcdcodaa.L
open Go.RowKit Go.Proofs.Ytogifggjcdcodaa.B Go.Proofs.Ytogifggjcdcodaa.P Go.Proofs.Ytogifggjcdcodaa.Hand Go.Proofs.YtogifggjcdcodaaW.PrintWords Go.Proofs.YtogifggjcdcodaaW.PrintLast Go.Proofs.YtogifggjcdcodaaW.PrintMore
set_option linter.unusedVariables false
set_option linter.unusedSimpArgs false

theorem toIntS_l0 (x0 : List Int) (hl : x0.length ≤ 2000000) : ∀ (d i k : Nat) (x3 : List Int), i + d = x0.length → d < k → x3.length = x0.length → (∀ j, j < i → x3[j]? = x0[j]?) → laws_toIntS.l0 k x0 x3 i = some x0 := by
  intro d
  induction d with
  | zero =>
    intro i k x3 hi hk h3 hj
    obtain ⟨m, rfl⟩ : ∃ m, k = m + 1 := ⟨k - 1, by omega⟩
    simp only [laws_toIntS.l0]
    rw [if_neg (by omega)]
    congr 1
    apply List.ext_getElem?
    intro j
    by_cases h : j < i
    · exact hj j h
    · rw [List.getElem?_eq_none (by omega), List.getElem?_eq_none (by omega)]
  | succ d ih =>
    intro i k x3 hi hk h3 hj
    obtain ⟨m, rfl⟩ : ∃ m, k = m + 1 := ⟨k - 1, by omega⟩
    simp only [laws_toIntS.l0]
    rw [if_pos (by omega), if_pos (by omega), if_pos (by omega), next64 i (by omega), Int.toNat_natCast]
    refine ih (i + 1) m _ (by omega) (by omega) (by simp [h3]) (fun j hj2 => ?_)
    rw [List.getElem?_set]
    by_cases e : i = j
    · subst e
      rw [if_pos rfl, if_pos (by omega), rd_get x0 i (by omega)]
    · rw [if_neg e]
      exact hj j (by omega)

theorem toIntS_eq (l : List Int) (k : Nat) (hl : l.length ≤ 2000000) (hk : l.length < k) : laws_toIntS.f k l = some l := by
  unfold laws_toIntS.f
  rw [if_pos (by omega), if_pos (by omega)]
  exact toIntS_l0 l hl l.length 0 k _ (by omega) hk (by simp) (fun j hj => absurd hj (by omega))

theorem eqIntS_l0 (x : List Int) (hl : x.length ≤ 2000000) : ∀ (d i k : Nat), i + d = x.length → d < k → laws_eqIntS.l0 k x x i = some true := by
  intro d
  induction d with
  | zero =>
    intro i k hi hk
    obtain ⟨m, rfl⟩ : ∃ m, k = m + 1 := ⟨k - 1, by omega⟩
    simp only [laws_eqIntS.l0]
    rw [if_neg (by omega)]
  | succ d ih =>
    intro i k hi hk
    obtain ⟨m, rfl⟩ : ∃ m, k = m + 1 := ⟨k - 1, by omega⟩
    simp only [laws_eqIntS.l0]
    rw [if_pos (by omega), if_pos (by omega), if_pos (by omega), if_pos trivial, next64 i (by omega)]
    exact ih (i + 1) m (by omega) (by omega)

theorem eqIntS_refl (l : List Int) (k : Nat) (hl : l.length ≤ 2000000) (hk : l.length < k) : laws_eqIntS.f k l l = some true := by
  unfold laws_eqIntS.f
  rw [if_pos rfl]
  exact eqIntS_l0 l hl l.length 0 k (by omega) hk

theorem sameInts_l0 (x : List Int) (hl : x.length ≤ 2000000) : ∀ (d i k : Nat), i + d = x.length → d < k → laws_sameInts.l0 k x x i = some true := by
  intro d
  induction d with
  | zero =>
    intro i k hi hk
    obtain ⟨m, rfl⟩ : ∃ m, k = m + 1 := ⟨k - 1, by omega⟩
    simp only [laws_sameInts.l0]
    rw [if_neg (by omega)]
  | succ d ih =>
    intro i k hi hk
    obtain ⟨m, rfl⟩ : ∃ m, k = m + 1 := ⟨k - 1, by omega⟩
    simp only [laws_sameInts.l0]
    rw [if_pos (by omega), if_pos (by omega), if_pos (by omega), if_pos trivial, next64 i (by omega)]
    exact ih (i + 1) m (by omega) (by omega)

theorem sameInts_refl (l : List Int) (k : Nat) (hl : l.length ≤ 2000000) (hk : l.length < k) : laws_sameInts.f k l l = some true := by
  unfold laws_sameInts.f
  rw [if_pos rfl]
  exact sameInts_l0 l hl l.length 0 k (by omega) hk




end Go.Proofs.Ytogifggjcdcodaa.L

/- Plain laws of the functions of ranks: isRank, RankOk of the program and of the reference tell just the same, at lists of at most 2000000 numbers. -/
namespace Go.Proofs.Ytogifggjcdcodaa.L
open Go.RowKit Go.Proofs.Ytogifggjcdcodaa.B Go.Proofs.Ytogifggjcdcodaa.P Go.Proofs.Ytogifggjcdcodaa.Hand Go.Proofs.YtogifggjcdcodaaW.PrintWords Go.Proofs.YtogifggjcdcodaaW.PrintLast Go.Proofs.YtogifggjcdcodaaW.PrintMore
set_option linter.unusedVariables false
set_option linter.unusedSimpArgs false

theorem RankOk_eq (t : Int) (l : List Int) (k : Nat) (hk : 20 ≤ k) : impl_RankOk.f k t l = some (okR t l) := by
  unfold impl_RankOk.f
  rw [isRank_eq t l k hk]; rfl


theorem sRankOk_l0 (t : Int) (l : List Int) (hl : l.length ≤ 2000000) : ∀ (d i k : Nat) (m : Int), i + d = l.length → d < k →
    spec_RankOk.l0 k t l m i = some ((l.drop i).all (fun x => decide (0 ≤ x) && decide (x ≤ 9)) && (okT t && (decide ((l.length : Int) = nW t) && (mnL m (l.drop i) == 0)))) := by
  intro d
  induction d with
  | zero =>
    intro i k m hi hk
    obtain ⟨q, rfl⟩ : ∃ q, k = q + 1 := ⟨k - 1, by omega⟩
    simp only [spec_RankOk.l0]
    rw [if_neg (by omega), List.drop_eq_nil_of_le (by omega), l1In_13]
    simp only [Option.bind_some]
    cases ht : okT t with
    | false => simp
    | true =>
      have hpos : 0 ≤ t := by rcases okT_cases ht with rfl | rfl | rfl <;> omega
      rw [if_pos rfl, if_pos hpos, (nW_pos ht).2.2]
      by_cases h : (l.length : Int) = nW t
      · rw [if_pos h]; simp [h, mnL]
      · rw [if_neg h]; simp [h]
  | succ d ih =>
    intro i k m hi hk
    obtain ⟨q, rfl⟩ : ∃ q, k = q + 1 := ⟨k - 1, by omega⟩
    simp only [spec_RankOk.l0]
    rw [if_pos (by omega), if_pos (by omega), l1In_eq, drop_cons l i (by omega)]
    simp only [Option.bind_some, List.all_cons]
    cases hx : (decide (0 ≤ rd l (i : Int)) && decide (rd l (i : Int) ≤ 9)) with
    | false => simp
    | true =>
      rw [if_pos rfl, next64 i (by omega), ih (i + 1) q _ (by omega) (by omega)]
      simp [mnL]

theorem sRankOk_eq (t : Int) (l : List Int) (k : Nat) (hl : l.length ≤ 2000000) (hk : l.length < k) : spec_RankOk.f k t l = some (okR t l) := by
  have h := sRankOk_l0 t l hl l.length 0 k 9 (by omega) hk
  unfold spec_RankOk.f
  rw [show ((0 : Nat) : Int) = 0 from rfl] at h
  rw [h]
  congr 1
  rw [List.drop_zero]
  unfold okR
  have a1 := mnL_le l 9
  have a2 := mnL_mem l 9
  rw [Bool.eq_iff_iff]
  simp only [Bool.and_eq_true, List.all_eq_true, List.any_eq_true, decide_eq_true_eq, beq_iff_eq]
  constructor
  · rintro ⟨h1, h2, h3, h4⟩
    rcases a2 with h | h
    · omega
    · exact ⟨h2, h3, h1, _, h, h4⟩
  · rintro ⟨h2, h3, h1, x, hx, rfl⟩
    refine ⟨h1, h2, h3, ?_⟩
    have := a1.2 0 hx
    rcases a2 with h | h
    · have := h1 _ hx; omega
    · have := h1 _ h; omega

end Go.Proofs.Ytogifggjcdcodaa.L

/- Plain laws of lists of ranks, without the program: how many ranks are below one, tidy ranks, and the least ranks of a set; ranks from 0 on. -/
namespace Go.Proofs.Ytogifggjcdcodaa.L
open Go.RowKit Go.Proofs.Ytogifggjcdcodaa.Hand Go.Proofs.YtogifggjcdcodaaW.PrintWords
set_option linter.unusedVariables false
set_option linter.unusedSimpArgs false

/-- How many numbers below x are in the list. -/
def cnt (l : List Int) (x : Nat) : Nat := (List.range x).countP (fun q : Nat => l.any (fun y => y == (q : Int)))
/-- Tidy ranks. -/
def tidyL (l : List Int) : List Int := l.map (fun x => (cnt l x.toNat : Int))

theorem tidyL_length (l : List Int) : (tidyL l).length = l.length := by unfold tidyL; simp
theorem rd_map (l : List Int) (f : Int → Int) (i : Nat) (h : i < l.length) : rd (l.map f) (i : Int) = f (rd l (i : Int)) := by
  unfold rd
  rw [Int.toNat_natCast, List.getD_eq_getElem?_getD, List.getD_eq_getElem?_getD, List.getElem?_map, List.getElem?_eq_getElem h]; rfl
theorem tidyL_rd (l : List Int) (i : Nat) (h : i < l.length) : rd (tidyL l) (i : Int) = (cnt l (rd l (i : Int)).toNat : Int) := rd_map l _ i h
theorem rd_mem (l : List Int) (i : Nat) (h : i < l.length) : rd l (i : Int) ∈ l := by
  unfold rd
  rw [Int.toNat_natCast, List.getD_eq_getElem?_getD, List.getElem?_eq_getElem h]; exact List.getElem_mem h
theorem mem_rd {l : List Int} {x : Int} (h : x ∈ l) : ∃ i : Nat, i < l.length ∧ rd l (i : Int) = x := by
  obtain ⟨i, hi, e⟩ := List.mem_iff_getElem.1 h
  refine ⟨i, hi, ?_⟩
  unfold rd
  rw [Int.toNat_natCast, List.getD_eq_getElem?_getD, List.getElem?_eq_getElem hi]; exact e

theorem cnt_succ (l : List Int) (x : Nat) : cnt l (x + 1) = cnt l x + if l.any (fun y => y == (x : Int)) = true then 1 else 0 := by
  unfold cnt
  rw [List.range_succ, List.countP_append, List.countP_singleton]
theorem cnt_mono (l : List Int) {x y : Nat} (h : x ≤ y) : cnt l x ≤ cnt l y := by
  induction y with
  | zero => obtain rfl : x = 0 := by omega
            exact Nat.le_refl _
  | succ y ih =>
    rcases Nat.lt_or_ge x (y + 1) with h1 | h1
    · rw [cnt_succ]; have := ih (by omega); omega
    · obtain rfl : x = y + 1 := by omega
      exact Nat.le_refl _
theorem cnt_lt {l : List Int} {x y : Nat} (h : x < y) (hx : (x : Int) ∈ l) : cnt l x < cnt l y := by
  have h1 := cnt_mono l (show x + 1 ≤ y from h)
  rw [cnt_succ, if_pos (List.any_eq_true.2 ⟨_, hx, by simp⟩)] at h1
  omega
theorem cnt_le (l : List Int) (x : Nat) : cnt l x ≤ x := by
  unfold cnt
  have := List.countP_le_length (p := fun q : Nat => l.any (fun y => y == (q : Int))) (l := List.range x)
  simpa using this

/-- Is place v the first of its rank, and is its rank below x. -/
def firstB (l : List Int) (x : Int) (v : Nat) : Bool := decide (rd l (v : Int) < x) && (List.range v).all (fun u => decide (rd l (u : Int) ≠ rd l (v : Int)))

theorem count_or (p : Nat → Bool) (y : Int) (x : Nat) :
    (List.range x).countP (fun q : Nat => p q || ((q : Int) == y)) = (List.range x).countP p + if 0 ≤ y ∧ y < x ∧ p y.toNat = false then 1 else 0 := by
  induction x with
  | zero => simp; omega
  | succ x ih =>
    rw [List.range_succ, List.countP_append, List.countP_append, ih, List.countP_singleton, List.countP_singleton]
    by_cases e : (x : Int) = y
    · subst e
      have n1 : ¬ (0 ≤ (x : Int) ∧ (x : Int) < (x : Int) ∧ p (x : Int).toNat = false) := fun h => absurd h.2.1 (by omega)
      rw [if_neg n1, Int.toNat_natCast]
      cases hp : p x with
      | true =>
        have n2 : ¬ (0 ≤ (x : Int) ∧ (x : Int) < ((x + 1 : Nat) : Int) ∧ true = false) := fun h => absurd h.2.2 (by simp)
        rw [if_neg n2]; simp
      | false =>
        have n2 : 0 ≤ (x : Int) ∧ (x : Int) < ((x + 1 : Nat) : Int) ∧ false = false := ⟨by omega, by omega, rfl⟩
        rw [if_pos n2]; simp
    · have e2 : ((x : Int) == y) = false := by simpa using e
      rw [e2, Bool.or_false]
      by_cases h : 0 ≤ y ∧ y < x ∧ p y.toNat = false
      · have h' : 0 ≤ y ∧ y < ((x + 1 : Nat) : Int) ∧ p y.toNat = false := ⟨h.1, by omega, h.2.2⟩
        rw [if_pos h, if_pos h']; omega
      · have h' : ¬ (0 ≤ y ∧ y < ((x + 1 : Nat) : Int) ∧ p y.toNat = false) := fun k => h ⟨k.1, by omega, k.2.2⟩
        rw [if_neg h, if_neg h']; omega

theorem take_snoc (l : List Int) (m : Nat) (h : m < l.length) : l.take (m + 1) = l.take m ++ [rd l (m : Int)] := by
  rw [List.take_succ_eq_append_getElem h]
  congr 1
  unfold rd
  rw [Int.toNat_natCast, List.getD_eq_getElem?_getD, List.getElem?_eq_getElem h]; rfl

theorem any_take (l : List Int) (y : Int) : ∀ m, m ≤ l.length → ((l.take m).any (fun z => z == y) = false ↔ (List.range m).all (fun u => decide (rd l (u : Int) ≠ y)) = true) := by
  intro m
  induction m with
  | zero => simp
  | succ m ih =>
    intro hm
    rw [take_snoc l m (by omega), List.any_append, List.range_succ, List.all_append, Bool.or_eq_false_iff, Bool.and_eq_true, ih (by omega)]
    simp

theorem lots_take (l : List Int) (x : Nat) (h0 : ∀ y ∈ l, 0 ≤ y) : ∀ m, m ≤ l.length → (List.range x).countP (fun q : Nat => (l.take m).any (fun y => y == (q : Int))) = (List.range m).countP (firstB l x) := by
  intro m
  induction m with
  | zero => simp
  | succ m ih =>
    intro hm
    have e : (fun q : Nat => (l.take (m + 1)).any (fun y => y == (q : Int))) = fun q : Nat => (l.take m).any (fun y => y == (q : Int)) || ((q : Int) == rd l (m : Int)) := by
      funext q
      rw [take_snoc l m (by omega), List.any_append]
      congr 1
      simp only [List.any_cons, List.any_nil, Bool.or_false]
      rw [Bool.eq_iff_iff, beq_iff_eq, beq_iff_eq]
      exact eq_comm
    rw [e, count_or, ih (by omega), List.range_succ, List.countP_append, List.countP_singleton]
    congr 1
    have hy := h0 _ (rd_mem l m (by omega))
    have h1 := any_take l (rd l (m : Int)) m (by omega)
    have h2 : (((rd l (m : Int)).toNat : Nat) : Int) = rd l (m : Int) := by omega
    unfold firstB
    by_cases hc : rd l (m : Int) < (x : Int)
    · rw [decide_eq_true hc, Bool.true_and]
      cases hb : (List.range m).all (fun u => decide (rd l (u : Int) ≠ rd l (m : Int))) with
      | true => rw [if_pos ⟨hy, hc, by rw [h2]; exact h1.2 hb⟩]; rfl
      | false => rw [if_neg (by rintro ⟨_, _, c⟩; rw [h2] at c; rw [h1.1 c] at hb; cases hb)]; rfl
    · rw [decide_eq_false hc, if_neg (by rintro ⟨_, b, _⟩; exact hc b)]; rfl

/-- Tidy ranks go by the order of the ranks alone. -/
theorem cnt_lots (l : List Int) (x : Nat) (h0 : ∀ y ∈ l, 0 ≤ y) : cnt l x = (List.range l.length).countP (firstB l x) := by
  have := lots_take l x h0 l.length (Nat.le_refl _)
  rw [List.take_length] at this
  exact this

/-- Two rows of ranks are in the same order. -/
def Same (a b : List Int) : Prop := a.length = b.length ∧ ∀ i j : Nat, i < a.length → j < a.length → (rd a (i : Int) ≤ rd a (j : Int) ↔ rd b (i : Int) ≤ rd b (j : Int))

theorem Same.symm {a b : List Int} (h : Same a b) : Same b a := ⟨h.1.symm, fun i j hi hj => (h.2 i j (by rw [h.1]; exact hi) (by rw [h.1]; exact hj)).symm⟩
theorem Same.trans {a b c : List Int} (h : Same a b) (k : Same b c) : Same a c := ⟨h.1.trans k.1, fun i j hi hj => (h.2 i j hi hj).trans (k.2 i j (by rw [← h.1]; exact hi) (by rw [← h.1]; exact hj))⟩

theorem Same.tidy {a b : List Int} (h : Same a b) (ha : ∀ y ∈ a, 0 ≤ y) (hb : ∀ y ∈ b, 0 ≤ y) : tidyL a = tidyL b := by
  apply List.ext_getElem?
  intro i
  by_cases hi : i < a.length
  · have hi2 : i < b.length := by rw [← h.1]; exact hi
    have e : ∀ (l : List Int) (j : Nat), j < l.length → l[j]? = some (rd l (j : Int)) := fun l j hj => by
      unfold rd
      rw [Int.toNat_natCast, List.getD_eq_getElem?_getD, List.getElem?_eq_getElem hj]; rfl
    rw [e _ _ (by rw [tidyL_length]; exact hi), e _ _ (by rw [tidyL_length]; exact hi2), tidyL_rd a i hi, tidyL_rd b i hi2]
    have pa := ha _ (rd_mem a i hi)
    have pb := hb _ (rd_mem b i hi2)
    rw [cnt_lots a _ ha, cnt_lots b _ hb, ← h.1]
    congr 2
    apply List.countP_congr
    intro v hv
    have hv : v < a.length := List.mem_range.1 hv
    have c1 : (rd a (v : Int) < (((rd a (i : Int)).toNat : Nat) : Int)) ↔ (rd b (v : Int) < (((rd b (i : Int)).toNat : Nat) : Int)) := by
      have := h.2 i v hi hv
      omega
    have c2 : ∀ u, u < v → (rd a (u : Int) ≠ rd a (v : Int) ↔ rd b (u : Int) ≠ rd b (v : Int)) := fun u hu => by
      have h1 := h.2 u v (by omega) hv
      have h2 := h.2 v u hv (by omega)
      omega
    unfold firstB
    rw [Bool.and_eq_true, Bool.and_eq_true, decide_eq_true_eq, decide_eq_true_eq, List.all_eq_true, List.all_eq_true]
    constructor
    · rintro ⟨h1, h2⟩
      exact ⟨c1.1 h1, fun u hu => decide_eq_true ((c2 u (List.mem_range.1 hu)).1 (of_decide_eq_true (h2 u hu)))⟩
    · rintro ⟨h1, h2⟩
      exact ⟨c1.2 h1, fun u hu => decide_eq_true ((c2 u (List.mem_range.1 hu)).2 (of_decide_eq_true (h2 u hu)))⟩
  · rw [List.getElem?_eq_none (by rw [tidyL_length]; omega), List.getElem?_eq_none (by rw [tidyL_length, ← h.1]; omega)]

theorem same_tidy (l : List Int) (h0 : ∀ y ∈ l, 0 ≤ y) : Same l (tidyL l) := by
  refine ⟨(tidyL_length l).symm, fun i j hi hj => ?_⟩
  rw [tidyL_rd l i hi, tidyL_rd l j hj]
  have pi := h0 _ (rd_mem l i hi)
  have pj := h0 _ (rd_mem l j hj)
  constructor
  · intro h
    have := cnt_mono l (show (rd l (i : Int)).toNat ≤ (rd l (j : Int)).toNat by omega)
    omega
  · intro h
    rcases Int.lt_or_le (rd l (j : Int)) (rd l (i : Int)) with h1 | h1
    · have := cnt_lt (l := l) (show (rd l (j : Int)).toNat < (rd l (i : Int)).toNat by omega) (by rw [Int.toNat_of_nonneg pj]; exact rd_mem l j hj)
      omega
    · exact h1

theorem tidyL_nonneg (l : List Int) : ∀ y ∈ tidyL l, 0 ≤ y := by
  intro y hy
  unfold tidyL at hy
  obtain ⟨x, _, rfl⟩ := List.mem_map.1 hy
  omega

theorem tidy_tidy (l : List Int) (h0 : ∀ y ∈ l, 0 ≤ y) : tidyL (tidyL l) = tidyL l := ((same_tidy l h0).tidy h0 (tidyL_nonneg l)).symm

theorem tidy_le (l : List Int) (m : Int) (h0 : ∀ y ∈ l, 0 ≤ y ∧ y ≤ m) : ∀ y ∈ tidyL l, 0 ≤ y ∧ y ≤ m := by
  intro y hy
  unfold tidyL at hy
  obtain ⟨x, hx, rfl⟩ := List.mem_map.1 hy
  have h1 := cnt_le l x.toNat
  have := h0 x hx
  omega

theorem tidy_zero (l : List Int) (h : (0 : Int) ∈ l) : (0 : Int) ∈ tidyL l := by
  unfold tidyL
  exact List.mem_map.2 ⟨0, h, by simp [cnt]⟩

/-! The least ranks of a set. -/
theorem leastN_le (l : List Int) (s : Int) : ∀ n, leastN l s n ≤ 10 ∧ ∀ v : Nat, v < n → bit s v = true → leastN l s n ≤ rd l (v : Int)
  | 0 => ⟨Int.le_refl _, fun v hv => absurd hv (by omega)⟩
  | n + 1 => by
    obtain ⟨h1, h2⟩ := leastN_le l s n
    simp only [leastN]
    cases hb : bit s n with
    | true =>
      rw [if_pos rfl]
      have hm : mn (leastN l s n) (rd l (n : Int)) ≤ leastN l s n ∧ mn (leastN l s n) (rd l (n : Int)) ≤ rd l (n : Int) := by unfold mn; split <;> omega
      refine ⟨Int.le_trans hm.1 h1, fun v hv hbv => ?_⟩
      rcases Nat.lt_or_ge v n with h3 | h3
      · exact Int.le_trans hm.1 (h2 v h3 hbv)
      · obtain rfl : v = n := by omega
        exact hm.2
    | false =>
      rw [if_neg (by simp)]
      refine ⟨h1, fun v hv hbv => ?_⟩
      rcases Nat.lt_or_ge v n with h3 | h3
      · exact h2 v h3 hbv
      · obtain rfl : v = n := by omega
        rw [hb] at hbv; cases hbv
theorem leastN_mem (l : List Int) (s : Int) : ∀ n, leastN l s n = 10 ∨ ∃ v : Nat, v < n ∧ bit s v = true ∧ rd l (v : Int) = leastN l s n
  | 0 => .inl rfl
  | n + 1 => by
    simp only [leastN]
    cases hb : bit s n with
    | true =>
      rw [if_pos rfl]
      have hm : mn (leastN l s n) (rd l (n : Int)) = leastN l s n ∨ mn (leastN l s n) (rd l (n : Int)) = rd l (n : Int) := by unfold mn; split <;> simp
      rcases hm with hm | hm
      · rcases leastN_mem l s n with h | ⟨v, h1, h2, h3⟩
        · left; rw [hm, h]
        · right; exact ⟨v, by omega, h2, by rw [hm, h3]⟩
      · right; exact ⟨n, by omega, hb, hm.symm⟩
    | false =>
      rw [if_neg (by simp)]
      rcases leastN_mem l s n with h | ⟨v, h1, h2, h3⟩
      · exact .inl h
      · exact .inr ⟨v, by omega, h2, h3⟩

/-- A world has the least rank of a set just if no world of the set has a lesser one. -/
theorem least_iff (l : List Int) (s : Int) (h9 : ∀ y ∈ l, y ≤ 9) (w : Nat) (hw : w < l.length) (hb : bit s w = true) :
    (rd l (w : Int) == least l s) = true ↔ ∀ v : Nat, v < l.length → bit s v = true → rd l (w : Int) ≤ rd l (v : Int) := by
  have h1 := leastN_le l s l.length
  have h2 := leastN_mem l s l.length
  rw [beq_iff_eq]
  constructor
  · intro h v hv hbv
    rw [h]
    exact h1.2 v hv hbv
  · intro h
    have h3 := h1.2 w hw hb
    have h4 := h9 _ (rd_mem l w hw)
    unfold least
    rcases h2 with h2 | ⟨v, hv, hbv, e⟩
    · omega
    · have := h v hv hbv
      omega

theorem rev_bit (l : List Int) (s : Int) (w : Nat) : bit (rev l s) w = (decide (w < l.length) && (bit s w && (rd l (w : Int) == least l s))) := by
  unfold rev bit
  rw [Int.toNat_natCast, sumN_testBit]

theorem Same.rev {a b : List Int} (h : Same a b) (ha : ∀ y ∈ a, y ≤ 9) (hb : ∀ y ∈ b, y ≤ 9) (s : Int) : rev a s = rev b s := by
  unfold Hand.rev
  rw [← h.1]
  congr 1
  apply sumN_congr
  intro w hw
  have hw2 : w < b.length := by rw [← h.1]; exact hw
  cases hbw : bit s w with
  | false => rfl
  | true =>
    rw [Bool.true_and, Bool.true_and, Bool.eq_iff_iff, least_iff a s ha w hw hbw, least_iff b s hb w hw2 hbw]
    constructor
    · intro h3 v hv hbv
      exact (h.2 w v hw (by rw [h.1]; exact hv)).1 (h3 v (by rw [h.1]; exact hv) hbv)
    · intro h3 v hv hbv
      exact (h.2 w v hw hv).2 (h3 v (by rw [← h.1]; exact hv) hbv)

/-- The worlds i and j, as a set. -/
def pair (i j : Nat) : Int := ((2 ^ i ||| 2 ^ j : Nat) : Int)
theorem pair_bit (i j v : Nat) : bit (pair i j) v = (decide (i = v) || decide (j = v)) := by
  unfold pair bit
  rw [Int.toNat_natCast, Nat.testBit_or, Nat.testBit_two_pow, Nat.testBit_two_pow]

theorem rev_pair (l : List Int) (i j : Nat) (hi : i < l.length) (hj : j < l.length) (h9 : ∀ y ∈ l, y ≤ 9) : bit (rev l (pair i j)) i = true ↔ rd l (i : Int) ≤ rd l (j : Int) := by
  have hb : bit (pair i j) i = true := by rw [pair_bit]; simp
  rw [rev_bit, decide_eq_true hi, Bool.true_and, hb, Bool.true_and, least_iff l _ h9 i hi hb]
  constructor
  · intro h
    exact h j hj (by rw [pair_bit]; simp)
  · intro h v hv hbv
    rw [pair_bit, Bool.or_eq_true, decide_eq_true_eq, decide_eq_true_eq] at hbv
    rcases hbv with rfl | rfl
    · exact Int.le_refl _
    · exact h

theorem pair_lt (i j n : Nat) (hi : i < n) (hj : j < n) : 2 ^ i ||| 2 ^ j < 2 ^ n :=
  Nat.or_lt_two_pow (Nat.pow_lt_pow_right (by decide) hi) (Nat.pow_lt_pow_right (by decide) hj)

/-- Where all revisions are the same, so is the order. -/
theorem same_of_rev {a b : List Int} (hl : a.length = b.length) (ha : ∀ y ∈ a, y ≤ 9) (hb : ∀ y ∈ b, y ≤ 9) (h : ∀ s : Nat, s < 2 ^ a.length → rev a (s : Int) = rev b (s : Int)) : Same a b := by
  refine ⟨hl, fun i j hi hj => ?_⟩
  have e := h (2 ^ i ||| 2 ^ j) (pair_lt i j _ hi hj)
  rw [← rev_pair a i j hi hj ha, ← rev_pair b i j (by rw [← hl]; exact hi) (by rw [← hl]; exact hj) hb]
  unfold pair
  rw [e]

end Go.Proofs.Ytogifggjcdcodaa.L

/- Plain laws of TableOk, SurpriseOf and MaxTable: the program's and the reference's come to the same; lists of at most 2000000 numbers. -/
namespace Go.Proofs.Ytogifggjcdcodaa.L
open Go.RowKit Go.Proofs.Ytogifggjcdcodaa.B Go.Proofs.Ytogifggjcdcodaa.P Go.Proofs.Ytogifggjcdcodaa.Hand Go.Proofs.YtogifggjcdcodaaW.PrintWords Go.Proofs.YtogifggjcdcodaaW.PrintLast Go.Proofs.YtogifggjcdcodaaW.PrintMore
set_option linter.unusedVariables false
set_option linter.unusedSimpArgs false

theorem sTableOk_l0 (t : Int) (l : List Int) (hl : l.length ≤ 2000000) : ∀ (d i k : Nat), i + d = l.length → d < k →
    spec_TableOk.l0 k t l i = some ((l.drop i).all (fun s => okS t s) && ((decide (1 ≤ t) && decide (t ≤ 2)) && decide ((l.length : Int) = allW t + 1))) := by
  intro d
  induction d with
  | zero =>
    intro i k hi hk
    obtain ⟨q, rfl⟩ : ∃ q, k = q + 1 := ⟨k - 1, by omega⟩
    simp only [spec_TableOk.l0]
    rw [if_neg (by omega), List.drop_eq_nil_of_le (by omega), l1In_eq]
    simp only [Option.bind_some, List.all_nil, Bool.true_and]
    cases hb : (decide (1 ≤ t) && decide (t ≤ 2)) with
    | false => simp
    | true =>
      have ht : okT t = true := by
        unfold okT; simp at hb; simp; omega
      have := allW_range ht
      rw [if_pos rfl, l1All_eq t ht]
      simp only [Option.bind_some]
      rw [w64 (by omega) (by omega)]
      rfl
  | succ d ih =>
    intro i k hi hk
    obtain ⟨q, rfl⟩ : ∃ q, k = q + 1 := ⟨k - 1, by omega⟩
    simp only [spec_TableOk.l0]
    rw [if_pos (by omega), if_pos (by omega), sSetOk_eq, drop_cons l i (by omega)]
    simp only [Option.bind_some, List.all_cons]
    cases hx : okS t (rd l (i : Int)) with
    | false => simp
    | true =>
      rw [if_pos rfl, next64 i (by omega), ih (i + 1) q (by omega) (by omega)]
      simp

theorem sTableOk_eq (t : Int) (l : List Int) (k : Nat) (hl : l.length ≤ 2000000) (hk : l.length < k) : spec_TableOk.f k t l = some (okTab t l) := by
  have h := sTableOk_l0 t l hl l.length 0 k (by omega) hk
  unfold spec_TableOk.f
  rw [show ((0 : Nat) : Int) = 0 from rfl, List.drop_zero] at h
  rw [h]
  unfold okTab
  rw [Bool.and_comm, Bool.and_assoc]


theorem TableOk_eq (t : Int) (l : List Int) : impl_TableOk.f t l = some (okTab t l) := rfl

/-- SurpriseOf. -/
def surp (t : Int) (l : List Int) (s : Int) : Int := if okR t l = true ∧ okS t s = true then least l s else -1

theorem sSurp_l0 (a : Nat) (l : List Int) (hl : l.length ≤ 60) : ∀ (d i k : Nat), i + d = l.length → d < k → spec_SurpriseOf.l0 k l a (leastN l a i) i = some (least l a) := by
  intro d
  induction d with
  | zero =>
    intro i k hi hk
    obtain ⟨m, rfl⟩ : ∃ m, k = m + 1 := ⟨k - 1, by omega⟩
    obtain rfl : i = l.length := by omega
    simp only [spec_SurpriseOf.l0]
    rw [if_neg (by omega)]; rfl
  | succ d ih =>
    intro i k hi hk
    obtain ⟨m, rfl⟩ : ∃ m, k = m + 1 := ⟨k - 1, by omega⟩
    have hb : bit (a : Int) i = a.testBit i := by unfold bit; simp
    have ih1 := ih (i + 1) m (by omega) (by omega)
    simp only [leastN, hb] at ih1
    simp only [spec_SurpriseOf.l0]
    rw [if_pos (by omega), bit_nat a i (by omega), next64 i (by omega)]
    simp only [Option.bind_some]
    cases ht : a.testBit i with
    | true => rw [ht] at ih1; rw [if_pos rfl, if_pos rfl, if_pos (by omega)]; simpa using ih1
    | false => rw [ht] at ih1; rw [if_neg (by simp)] at ih1; rw [if_neg (by simp)]; exact ih1

theorem sSurpriseOf_eq (t : Int) (l : List Int) (s : Int) (k : Nat) (hl : l.length ≤ 2000000) (hk : l.length + 20 < k) : spec_SurpriseOf.f k t l s = some (surp t l s) := by
  unfold spec_SurpriseOf.f surp
  rw [sRankOk_eq t l k hl (by omega)]
  simp only [Option.bind_some]
  obtain ⟨q, rfl⟩ : ∃ q, k = q + 1 := ⟨k - 1, by omega⟩
  cases hr : okR t l with
  | false => simp [spec_SurpriseOf.j0]
  | true =>
    rw [if_pos rfl, sSetOk_eq]
    simp only [Option.bind_some]
    cases hs : okS t s with
    | false => simp [spec_SurpriseOf.j0]
    | true =>
      obtain ⟨h1, h2, h3, h4, h5, h6⟩ := okR_cases hr
      obtain ⟨g1, g2, g3, g4⟩ := okS_cases hs
      obtain ⟨a, rfl⟩ := Int.eq_ofNat_of_zero_le g2
      simp only [spec_SurpriseOf.j0]
      rw [if_neg (by simp), if_pos (by simp)]
      exact sSurp_l0 a l (by omega) l.length 0 q (by omega) (by omega)





end Go.Proofs.Ytogifggjcdcodaa.L

/- Plain laws of the reference's functions of sets and ranks: its revision is the program's, what is in one of two sets, the rest of a set; sets are told by numbers from 0 to 255, ranks by at most 8 numbers. -/
namespace Go.Proofs.Ytogifggjcdcodaa.L
open Go.RowKit Go.Proofs.Ytogifggjcdcodaa.B Go.Proofs.Ytogifggjcdcodaa.P Go.Proofs.Ytogifggjcdcodaa.Hand Go.Proofs.YtogifggjcdcodaaW.PrintWords Go.Proofs.YtogifggjcdcodaaW.PrintLast Go.Proofs.YtogifggjcdcodaaW.PrintMore
set_option linter.unusedVariables false
set_option linter.unusedSimpArgs false

theorem par (x : Nat) : x % 2 = if x.testBit 0 = true then 1 else 0 := by
  rw [Nat.testBit_zero]
  rcases Nat.mod_two_eq_zero_or_one x with h | h <;> simp [h]

theorem or_add (a b : Nat) : (a ||| b) + (a &&& b) = a + b := by
  induction a using Nat.strongRecOn generalizing b with
  | _ a ih =>
    rcases Nat.eq_zero_or_pos a with rfl | h
    · simp
    · have h1 := ih (a / 2) (by omega) (b / 2)
      have e1 : (a ||| b) / 2 = a / 2 ||| b / 2 := Nat.or_div_two
      have e2 : (a &&& b) / 2 = a / 2 &&& b / 2 := Nat.and_div_two
      have e3 : (a ||| b) % 2 + (a &&& b) % 2 = a % 2 + b % 2 := by
        have t1 := par (a ||| b)
        have t2 := par (a &&& b)
        have t3 := par a
        have t4 := par b
        rw [t1, t2, t3, t4, Nat.testBit_or, Nat.testBit_and]
        cases a.testBit 0 <;> cases b.testBit 0 <;> rfl
      have d1 := Nat.div_add_mod (a ||| b) 2
      have d2 := Nat.div_add_mod (a &&& b) 2
      omega

theorem allW_pow {t : Int} (h : okT t = true) : (allW t).toNat + 1 = 2 ^ (nW t).toNat ∧ (nW t).toNat ≤ 8 ∧ 2 ≤ (nW t).toNat := by
  rcases okT_cases h with rfl | rfl | rfl <;> decide

/-- What is not in a set of the worlds below n. -/
theorem sub_xor (n s : Nat) (h : s < 2 ^ n) : (2 ^ n - 1) - s = (2 ^ n - 1) ^^^ s := by
  apply Nat.eq_of_testBit_eq
  intro i
  rw [Nat.testBit_xor, show 2 ^ n - 1 - s = 2 ^ n - (s + 1) by omega, Nat.testBit_two_pow_sub_succ h, Nat.testBit_two_pow_sub_one]
  by_cases hi : i < n
  · simp [hi]
  · have : s.testBit i = false := Nat.testBit_lt_two_pow (Nat.lt_of_lt_of_le h (Nat.pow_le_pow_right (by decide) (by omega)))
    simp [hi, this]

/-- The rest of a set. -/
theorem rest_eq (t : Int) (s : Nat) (ht : okT t = true) (h : (s : Int) ≤ allW t) : wrap64 (allW t - (s : Int)) = (((allW t).toNat ^^^ s : Nat) : Int) := by
  obtain ⟨h1, h2, h3⟩ := allW_pow ht
  have hr := allW_range ht
  rw [w64 (by omega) (by omega)]
  have e : (allW t).toNat = 2 ^ (nW t).toNat - 1 := by omega
  have := sub_xor (nW t).toNat s (by omega)
  rw [e, ← this]
  omega

theorem either_nat (a b k : Nat) (ha : a < 256) (hb : b < 256) (hk : 9 ≤ k) : spec_l1Either.f k (a : Int) (b : Int) = some ((a ||| b : Nat) : Int) := by
  unfold spec_l1Either.f
  rw [both_nat a b k ha hk]
  simp only [Option.bind_some]
  have h := or_add a b
  have h2 : a &&& b ≤ a := Nat.and_le_left
  rw [w64 (n := (a : Int) + b) (by omega) (by omega), w64 (by omega) (by omega)]
  congr 1; omega

theorem bit_step (q i : Nat) (P : Nat → Bool) (hi : i ≤ 8) (hP : P i = true) : wrap64 ((sumN i P : Nat) + shl .i64 1 (i : Int)) = ((sumN (i + 1) P : Nat) : Int) := by
  have hlt := sumN_lt i P
  have hp : 2 ^ i ≤ 2 ^ 8 := Nat.pow_le_pow_right (by decide) hi
  have s1 : shl .i64 1 (i : Int) = ((2 ^ i : Nat) : Int) := by
    have := shl_nat 1 i (by omega) (by omega)
    rw [Nat.one_mul] at this
    exact this
  have e : sumN (i + 1) P = sumN i P + 2 ^ i := by simp [sumN, hP]
  rw [s1, e]
  generalize 2 ^ i = m at *
  rw [w64 (by omega) (by omega)]; simp

theorem sl2_l1 (a : Nat) (l : List Int) (m : Int) (hl : l.length ≤ 8) : ∀ (d i k : Nat), i + d = l.length → d < k →
    spec_l2Least.l1 k l a m (sumN i (fun w => a.testBit w && (rd l (w : Int) == m)) : Nat) i = some ((sumN l.length (fun w => a.testBit w && (rd l (w : Int) == m)) : Nat) : Int) := by
  intro d
  induction d with
  | zero =>
    intro i k hi hk
    obtain ⟨q, rfl⟩ : ∃ q, k = q + 1 := ⟨k - 1, by omega⟩
    obtain rfl : i = l.length := by omega
    simp only [spec_l2Least.l1]
    rw [if_neg (by omega)]
  | succ d ih =>
    intro i k hi hk
    obtain ⟨q, rfl⟩ : ∃ q, k = q + 1 := ⟨k - 1, by omega⟩
    have ih1 := ih (i + 1) q (by omega) (by omega)
    simp only [spec_l2Least.l1]
    rw [if_pos (by omega), bit_nat a i (by omega), next64 i (by omega)]
    simp only [Option.bind_some]
    cases ht : a.testBit i with
    | true =>
      rw [if_pos rfl, if_pos (by omega)]
      by_cases hm : rd l (i : Int) = m
      · rw [if_pos hm, bit_step 0 i (fun w => a.testBit w && (rd l (w : Int) == m)) (by omega) (by simp [ht, hm])]
        exact ih1
      · rw [if_neg hm]
        rw [sumN_skip i _ (by simp [ht, hm])] at ih1
        exact ih1
    | false =>
      rw [if_neg (by simp)]
      rw [sumN_skip i _ (by simp [ht])] at ih1
      exact ih1

theorem sl2_l0 (a : Nat) (l : List Int) (hl : l.length ≤ 8) : ∀ (d i k : Nat), i + d = l.length → d + l.length + 1 < k →
    spec_l2Least.l0 k l a (leastN l a i) i = some (rev l (a : Int)) := by
  intro d
  induction d with
  | zero =>
    intro i k hi hk
    obtain ⟨q, rfl⟩ : ∃ q, k = q + 1 := ⟨k - 1, by omega⟩
    obtain rfl : i = l.length := by omega
    simp only [spec_l2Least.l0]
    rw [if_neg (by omega)]
    have h := sl2_l1 a l (least l a) hl l.length 0 q (by omega) (by omega)
    unfold rev bit
    rw [Int.toNat_natCast]
    exact h
  | succ d ih =>
    intro i k hi hk
    obtain ⟨q, rfl⟩ : ∃ q, k = q + 1 := ⟨k - 1, by omega⟩
    have hb : bit (a : Int) i = a.testBit i := by unfold bit; simp
    have ih1 := ih (i + 1) q (by omega) (by omega)
    simp only [leastN, hb] at ih1
    simp only [spec_l2Least.l0]
    rw [if_pos (by omega), bit_nat a i (by omega), next64 i (by omega)]
    simp only [Option.bind_some]
    cases ht : a.testBit i with
    | true => rw [ht, if_pos rfl] at ih1; rw [if_pos rfl, if_pos (by omega)]; exact ih1
    | false => rw [ht, if_neg (by simp)] at ih1; rw [if_neg (by simp)]; exact ih1

theorem sl2Least_eq (l : List Int) (s : Int) (k : Nat) (hl : l.length ≤ 8) (h0 : 0 ≤ s) (hk : 20 ≤ k) : spec_l2Least.f k l s = some (rev l s) := by
  obtain ⟨a, rfl⟩ := Int.eq_ofNat_of_zero_le h0
  exact sl2_l0 a l hl l.length 0 k (by omega) (by omega)

theorem leastN_ge (l : List Int) (s : Int) (h : ∀ x ∈ l, 0 ≤ x) : ∀ n, n ≤ l.length → 0 ≤ leastN l s n
  | 0, _ => by unfold leastN; decide
  | n + 1, hn => by
    have ih := leastN_ge l s h n (by omega)
    have hx := h _ (by unfold rd; rw [Int.toNat_natCast, List.getD_eq_getElem?_getD, List.getElem?_eq_getElem (show n < l.length by omega)]; exact List.getElem_mem _ : rd l (n : Int) ∈ l)
    unfold leastN
    split
    · unfold mn; split <;> omega
    · exact ih

theorem rev_lt (l : List Int) (s : Int) (n : Nat) (hl : l.length ≤ n) : 0 ≤ rev l s ∧ rev l s < 2 ^ n := by
  unfold rev
  have h := sumN_lt l.length (fun w => bit s w && (rd l (w : Int) == least l s))
  have h2 : 2 ^ l.length ≤ 2 ^ n := Nat.pow_le_pow_right (by decide) hl
  refine ⟨by omega, ?_⟩
  have h3 : (sumN l.length (fun w => bit s w && (rd l (w : Int) == least l s))) < 2 ^ n := by omega
  exact_mod_cast h3

end Go.Proofs.Ytogifggjcdcodaa.L

/- Plain laws of the drawing of ranks: it comes to some row of at most 9 small numbers; no condition on the bytes. -/
namespace Go.Proofs.Ytogifggjcdcodaa.L
open Go.RowKit Go.Proofs.Ytogifggjcdcodaa.B Go.Proofs.Ytogifggjcdcodaa.P Go.Proofs.Ytogifggjcdcodaa.Hand Go.Proofs.YtogifggjcdcodaaW.PrintWords Go.Proofs.YtogifggjcdcodaaW.PrintLast Go.Proofs.YtogifggjcdcodaaW.PrintMore
set_option linter.unusedVariables false
set_option linter.unusedSimpArgs false

/-- A short row of small numbers. -/
def Few (l : List Int) : Prop := l.length ≤ 9 ∧ ∀ x ∈ l, -1 ≤ x ∧ x ≤ 20

theorem rd_few {l : List Int} {lo hi : Int} (h : ∀ x ∈ l, lo ≤ x ∧ x ≤ hi) (i : Nat) (hi' : i < l.length) : lo ≤ rd l (i : Int) ∧ rd l (i : Int) ≤ hi := h _ (rd_mem l i hi')

theorem rank_l1 (n : Nat) (hn : n ≤ 8) (b : List Int) (p : Int) : ∀ (d i : Nat) (x7 : List Int), i + d = n → x7.length = n → (∀ x ∈ x7, -1 ≤ x ∧ x ≤ 10 + (i : Int)) →
    ∃ l, Few l ∧ ∀ k, d < k → spec_l20Rank.l1 k x7 n i b p = some (l, p) := by
  intro d
  induction d with
  | zero =>
    intro i x7 hi h7 hx
    refine ⟨x7, ⟨by omega, fun x hx' => by have := hx x hx'; omega⟩, fun k hk => ?_⟩
    obtain ⟨m, rfl⟩ : ∃ m, k = m + 1 := ⟨k - 1, by omega⟩
    simp only [spec_l20Rank.l1]
    rw [if_neg (by omega)]
  | succ d ih =>
    intro i x7 hi h7 hx
    have hr := rd_few hx i (by omega)
    have ew : wrap64 (rd x7 (i : Int) + 1) = rd x7 (i : Int) + 1 := w64 (by omega) (by omega)
    obtain ⟨l, hl, hk2⟩ := ih (i + 1) (x7.set i (rd x7 (i : Int) + 1)) (by omega) (by simp [h7]) (fun x hx' => by
      rcases List.mem_or_eq_of_mem_set hx' with h | h
      · have := hx x h; omega
      · omega)
    refine ⟨l, hl, fun k hk => ?_⟩
    obtain ⟨m, rfl⟩ : ∃ m, k = m + 1 := ⟨k - 1, by omega⟩
    simp only [spec_l20Rank.l1]
    rw [if_pos (by omega), if_pos (by omega), if_pos (by omega), ew, next64 i (by omega), Int.toNat_natCast]
    exact hk2 m (by omega)

theorem rank_l0 {b : List Int} (hb : Rd b) (x2 x9 : Int) (n : Nat) (hn : 1 ≤ n) (hn2 : n ≤ 8) (h2 : 0 ≤ x2) (h22 : x2 ≤ 1000000) (h9 : 0 ≤ x9) (h92 : x9 < 3) : ∀ (d : Nat) (p : Int) (x7 : List Int), x7.length + d = n → 0 ≤ p → p ≤ 950000 - d → (∀ x ∈ x7, 0 ≤ x ∧ x ≤ 10) →
    ∃ l p', Few l ∧ p ≤ p' ∧ p' ≤ p + d + 5 ∧ ∀ k, d + 20 ≤ k → spec_l20Rank.l0 k x2 x7 n x9 x7.length b p = some (l, p') := by
  intro d
  induction d with
  | zero =>
    intro p x7 h7 hp hp2 hx
    obtain ⟨v, v0, v1, hv⟩ := pick_ok hb p (n : Int) hp (by omega) (by omega) (by omega)
    obtain ⟨o, p1, o1, o2, ho⟩ := odd_ok hb (p + 1) x2 (by omega) (by omega) h2 h22
    have hset : ∀ x ∈ x7.set v.toNat 0, 0 ≤ x ∧ x ≤ 10 := fun x hx' => by
      rcases List.mem_or_eq_of_mem_set hx' with h | h
      · exact hx x h
      · omega
    have hlen : (x7.set v.toNat 0).length = n := by rw [List.length_set]; omega
    have start : ∀ k, 20 ≤ k → spec_l20Rank.l0 k x2 x7 n x9 x7.length b p = (spec_l20Rd_odd.f (k - 1) b (p + 1) x2).bind fun bt202 => (if bt202.1 = true then ((spec_l20Rd_pick.f (k - 1) b bt202.2 3).bind fun bt204 => (if bt204.1 = 0 then (if (x7.set v.toNat 0).length < 17592186044416 then (some (((x7.set v.toNat 0) ++ [0]), bt204.2)) else (none)) else (if bt204.1 = 1 then (if 0 < (x7.length : Int) then (some (((x7.set v.toNat 0).set (0 : Int).toNat (-1)), bt204.2)) else (none)) else (spec_l20Rank.l1 (k - 1) (x7.set v.toNat 0) n 0 b bt204.2)))) else (some ((x7.set v.toNat 0), bt202.2))) := by
      intro k hk
      obtain ⟨m, rfl⟩ : ∃ m, k = m + 1 := ⟨k - 1, by omega⟩
      simp only [spec_l20Rank.l0]
      rw [if_neg (by omega), hv m (by omega)]
      simp only [Option.bind_some]
      rw [if_pos v0, if_pos (by omega)]
      rfl
    generalize x7.set v.toNat 0 = y at *
    cases o with
    | false =>
      refine ⟨y, p1, ⟨by omega, fun x hx' => by have := hset x hx'; omega⟩, by omega, by omega, fun k hk => ?_⟩
      rw [start k (by omega), ho (k - 1) (by omega)]; rfl
    | true =>
      obtain ⟨u, u0, u1, hu⟩ := pick_ok hb p1 3 (by omega) (by omega) (by omega) (by omega)
      rcases (show u = 0 ∨ u = 1 ∨ u = 2 by omega) with rfl | rfl | rfl
      · refine ⟨y ++ [0], p1 + 1, ⟨by rw [List.length_append]; simp; omega, fun x hx' => by
          rcases List.mem_append.1 hx' with h | h
          · have := hset x h; omega
          · simp at h; omega⟩, by omega, by omega, fun k hk => ?_⟩
        rw [start k (by omega), ho (k - 1) (by omega)]
        simp only [Option.bind_some, if_true]
        rw [hu (k - 1) (by omega)]
        simp only [Option.bind_some, if_true]
        rw [if_pos (by omega)]
      · refine ⟨y.set 0 (-1), p1 + 1, ⟨by rw [List.length_set]; omega, fun x hx' => by
          rcases List.mem_or_eq_of_mem_set hx' with h | h
          · have := hset x h; omega
          · omega⟩, by omega, by omega, fun k hk => ?_⟩
        rw [start k (by omega), ho (k - 1) (by omega)]
        simp only [Option.bind_some, if_true]
        rw [hu (k - 1) (by omega)]
        simp only [Option.bind_some]
        rw [if_neg (by omega), if_pos trivial, if_pos (by omega)]; rfl
      · obtain ⟨l, hl, hk2⟩ := rank_l1 n hn2 b (p1 + 1) n 0 y (by omega) hlen (fun x hx' => by have := hset x hx'; omega)
        refine ⟨l, p1 + 1, hl, by omega, by omega, fun k hk => ?_⟩
        rw [start k (by omega), ho (k - 1) (by omega)]
        simp only [Option.bind_some, if_true]
        rw [hu (k - 1) (by omega)]
        simp only [Option.bind_some]
        rw [if_neg (by omega), if_neg (by omega)]
        exact hk2 (k - 1) (by omega)
  | succ d ih =>
    intro p x7 h7 hp hp2 hx
    obtain ⟨w, w0, w1, hw⟩ : ∃ w : Int, rd [2, 4, 10] x9 = w ∧ 1 ≤ w ∧ w ≤ 10 := by
      rcases (show x9 = 0 ∨ x9 = 1 ∨ x9 = 2 by omega) with rfl | rfl | rfl <;> exact ⟨_, rfl, by decide, by decide⟩
    obtain ⟨v, v0, v1, hv⟩ := pick_ok hb p w hp (by omega) (by omega) (by omega)
    obtain ⟨l, p', hl, q1, q2, hk2⟩ := ih (p + 1) (x7 ++ [v]) (by rw [List.length_append]; simp; omega) (by omega) (by omega) (fun x hx' => by
      rcases List.mem_append.1 hx' with h | h
      · exact hx x h
      · simp at h; omega)
    refine ⟨l, p', hl, by omega, by omega, fun k hk => ?_⟩
    obtain ⟨m, rfl⟩ : ∃ m, k = m + 1 := ⟨k - 1, by omega⟩
    have e7 : (((x7 ++ [v]).length : Nat) : Int) = ((x7.length + 1 : Nat) : Int) := by simp
    have hk3 := hk2 m (by omega)
    rw [e7] at hk3
    simp only [spec_l20Rank.l0]
    rw [if_pos (by omega)]
    simp only [Option.bind_some]
    rw [if_pos h9, if_pos (by simp; omega), w0, hv m (by omega)]
    simp only [Option.bind_some]
    rw [if_pos (by omega), next64 x7.length (by omega)]
    exact hk3

theorem rank_ok {b : List Int} (hb : Rd b) (p t n : Int) (hp : 0 ≤ p) (hp2 : p ≤ 900000) (hn : 0 ≤ n) (hn2 : n ≤ 1000000) :
    ∃ l p', Few l ∧ p ≤ p' ∧ p' ≤ p + 20 ∧ ∀ k, 40 ≤ k → spec_l20Rank.f k b p t n = some (l, p') := by
  obtain ⟨m, hm, m1, m2⟩ : ∃ m : Nat, mx (nW t) 1 = (m : Int) ∧ 1 ≤ m ∧ m ≤ 8 := by
    cases h : okT t with
    | true => rcases okT_cases h with rfl | rfl | rfl <;> exact ⟨_, rfl, by decide, by decide⟩
    | false =>
      refine ⟨1, ?_, by omega, by omega⟩
      unfold nW; rw [h]; rfl
  obtain ⟨v, v0, v1, hv⟩ := pick_ok hb p 3 hp (by omega) (by omega) (by omega)
  obtain ⟨l, p', hl, q1, q2, hk2⟩ := rank_l0 hb n v m m1 m2 hn hn2 v0 v1 m (p + 1) [] (by simp) (by omega) (by omega) (fun x hx => by cases hx)
  refine ⟨l, p', hl, by omega, by omega, fun k hk => ?_⟩
  unfold spec_l20Rank.f
  rw [sWorldsOf_eq]
  simp only [Option.bind_some]
  rw [hv k (by omega), hm]
  simp only [Option.bind_some]
  exact hk2 k (by omega)


end Go.Proofs.Ytogifggjcdcodaa.L

/- The law of RankOk: all may be alike. For all bytes. -/
namespace Go.Proofs.Ytogifggjcdcodaa.Pure
open Go.RowKit Go.Proofs.Ytogifggjcdcodaa.B Go.Proofs.Ytogifggjcdcodaa.P Go.Proofs.Ytogifggjcdcodaa.Hand Go.Proofs.Ytogifggjcdcodaa.L Go.Proofs.YtogifggjcdcodaaW.PrintWords Go.Proofs.YtogifggjcdcodaaW.PrintLast Go.Proofs.YtogifggjcdcodaaW.PrintMore
set_option linter.unusedVariables false
set_option linter.unusedSimpArgs false

theorem draw_ok (l0 : List Int) (hb : ∀ x ∈ l0, (Lit.int .u8 x).wf = true) : ∃ (t : Int) (l : List Int), -1 ≤ t ∧ t ≤ 4 ∧ Few l ∧ ∀ k, 100 ≤ k → spec_DrawRankOk.f k l0 = some (t, l) := by
  obtain ⟨b, hB, ho⟩ := open_ok l0 hb
  obtain ⟨t, p1, h1, h2, t0, t1, ht⟩ := things_ok hB 0 12 (by omega) (by omega) (by omega) (by omega)
  obtain ⟨l, p2, hl, h3, h4, hs⟩ := rank_ok hB p1 t 3 (by omega) (by omega) (by omega) (by omega)
  refine ⟨t, l, t0, t1, hl, fun k hk => ?_⟩
  unfold spec_DrawRankOk.f
  rw [ho]
  simp only [Option.bind_some]
  rw [ht k (by omega)]
  simp only [Option.bind_some]
  rw [hs k (by omega)]
  simp only [Option.bind_some]

theorem FnRankOk : laws_FnRankOk.Pure := by
  intro l0 _ _ hb
  obtain ⟨k, hk⟩ : ∃ k : Nat, 1000 ≤ k := ⟨_, Nat.le_refl _⟩
  refine ⟨k, ?_⟩
  unfold laws_FnRankOk.f
  by_cases hl : (l0.length : Int) > 1048576
  · rw [if_pos hl]
  · rw [if_neg hl]
    obtain ⟨t, l, t0, t1, hf, hd⟩ := draw_ok l0 hb
    have hf1 := hf.1
    rw [hd k (by omega)]
    simp only [Option.bind_some]
    rw [RankOk_eq t l k (by omega), sRankOk_eq t l k (by omega) (by omega)]
    simp only [Option.bind_some]
    rw [if_neg (by simp), sWorldsOf_eq]
    simp only [Option.bind_some]
    have e : 0 ≤ mx (nW t) 1 ∧ (mx (nW t) 1).toNat ≤ 35184372088832 ∧ (okR t (List.replicate (mx (nW t) 1).toNat 0) == decide (nW t > 0)) = true := by
      rcases (show t = -1 ∨ t = 0 ∨ t = 1 ∨ t = 2 ∨ t = 3 ∨ t = 4 by omega) with rfl | rfl | rfl | rfl | rfl | rfl <;> decide +kernel
    rw [if_pos e.1, if_pos e.2.1, RankOk_eq t _ k (by omega)]
    simp only [Option.bind_some]
    rw [if_pos e.2.2, alive_eq]; rfl

end Go.Proofs.Ytogifggjcdcodaa.Pure
