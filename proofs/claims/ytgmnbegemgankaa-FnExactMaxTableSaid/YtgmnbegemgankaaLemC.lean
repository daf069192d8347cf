/- Plain laws of the sets' own functions: a set's bit, what is in both, and the drawing of a set; sets are told by numbers from 0 to 255. -/
import Derived.Test.YtgmnbegemgankaaLemB
import Derived.Test.YtgmnbegemgankaaPx2
import Derived.Test.YtgmnbegemgankaaPx3
namespace Go.Proofs.Ytgmnbegemgankaa.L
open Go.RowKit Go.Proofs.Ytgmnbegemgankaa.B Go.Proofs.Ytgmnbegemgankaa.P Go.Proofs.Ytgmnbegemgankaa.Hand Go.Proofs.YtgmnbegemgankaaW.PrintWords Go.Proofs.YtgmnbegemgankaaW.PrintLast Go.Proofs.YtgmnbegemgankaaW.PrintMore
set_option linter.unusedVariables false
set_option linter.unusedSimpArgs false

theorem bit_nat (a w : Nat) (hw : w ≤ 62) : spec_l1Bit.f (a : Int) (w : Int) = some (if a.testBit w = true then 1 else 0) := by
  unfold spec_l1Bit.f
  rw [if_pos (by omega), shr_nat a w hw, tmod2]

theorem both_l0 (a b : Nat) : ∀ (d w k : Nat), w + d = 8 → d < k →
    spec_l1Both.l0 k a b (sumN w (fun i => a.testBit i && b.testBit i) : Nat) w = some ((sumN 8 (fun i => a.testBit i && b.testBit i) : Nat) : Int) := by
  intro d
  induction d with
  | zero =>
    intro w k hw hk
    obtain ⟨m, rfl⟩ : ∃ m, k = m + 1 := ⟨k - 1, by omega⟩
    obtain rfl : w = 8 := by omega
    simp only [spec_l1Both.l0]
    rw [if_neg (by omega)]
  | succ d ih =>
    intro w k hw hk
    obtain ⟨m, rfl⟩ : ∃ m, k = m + 1 := ⟨k - 1, by omega⟩
    have hlt := sumN_lt w (fun i => a.testBit i && b.testBit i)
    have hp : 2 ^ w ≤ 2 ^ 7 := Nat.pow_le_pow_right (by decide) (by omega)
    have e1 : wrap64 ((w : Int) + 1) = ((w + 1 : Nat) : Int) := by rw [w64 (by omega) (by omega)]; simp
    have key : ∀ x y : Bool, wrap64 (((sumN w (fun i => a.testBit i && b.testBit i) : Nat) : Int) + shl .i64 (wrap64 ((if x = true then 1 else 0) * (if y = true then 1 else 0))) (w : Int)) = ((sumN w (fun i => a.testBit i && b.testBit i) + (if (x && y) = true then 2 ^ w else 0) : Nat) : Int) := by
      intro x y
      generalize sumN w (fun i => a.testBit i && b.testBit i) = q at hlt
      have s0 : shl .i64 (wrap64 0) (w : Int) = 0 := by
        have := shl_nat 0 w (by omega) (by omega)
        rw [Nat.zero_mul] at this
        rw [show wrap64 0 = 0 from w64 (by omega) (by omega)]
        exact this
      have s1 : shl .i64 (wrap64 1) (w : Int) = ((2 ^ w : Nat) : Int) := by
        have := shl_nat 1 w (by omega) (by omega)
        rw [Nat.one_mul] at this
        rw [show wrap64 1 = 1 from w64 (by omega) (by omega)]
        exact this
      generalize 2 ^ w = e at s1 hlt hp
      cases x <;> cases y
      · show wrap64 ((q : Int) + shl .i64 (wrap64 0) (w : Int)) = _
        rw [s0, w64 (by omega) (by omega)]; simp
      · show wrap64 ((q : Int) + shl .i64 (wrap64 0) (w : Int)) = _
        rw [s0, w64 (by omega) (by omega)]; simp
      · show wrap64 ((q : Int) + shl .i64 (wrap64 0) (w : Int)) = _
        rw [s0, w64 (by omega) (by omega)]; simp
      · show wrap64 ((q : Int) + shl .i64 (wrap64 1) (w : Int)) = _
        rw [s1, w64 (by omega) (by omega)]; simp
    have key := key (a.testBit w) (b.testBit w)
    rw [show sumN w (fun i => a.testBit i && b.testBit i) + (if (a.testBit w && b.testBit w) = true then 2 ^ w else 0) = sumN (w + 1) (fun i => a.testBit i && b.testBit i) from rfl] at key
    simp only [spec_l1Both.l0]
    rw [if_pos (by omega), bit_nat a w (by omega)]
    simp only [Option.bind_some]
    rw [bit_nat b w (by omega)]
    simp only [Option.bind_some]
    rw [if_pos (by omega), key, e1]
    exact ih (w + 1) m (by omega) (by omega)

/-- What is in both sets. -/
theorem both_nat (a b k : Nat) (ha : a < 256) (hk : 9 ≤ k) : spec_l1Both.f k (a : Int) (b : Int) = some ((a &&& b : Nat) : Int) := by
  have h := both_l0 a b 8 0 k (by omega) (by omega)
  have e : sumN 8 (fun i => a.testBit i && b.testBit i) = a &&& b := by
    have h2 : a &&& b < 2 ^ 8 := Nat.lt_of_le_of_lt Nat.and_le_left ha
    rw [← sumN_bits 8 (a &&& b) h2]
    exact sumN_congr _ _ _ fun i _ => by rw [Nat.testBit_and]
  rw [e] at h
  unfold spec_l1Both.f
  simpa [sumN] using h

theorem both_int (a b : Int) (k : Nat) (ha : 0 ≤ a) (ha2 : a < 256) (hb : 0 ≤ b) (hk : 9 ≤ k) : spec_l1Both.f k a b = some ((a.toNat &&& b.toNat : Nat) : Int) := by
  obtain ⟨x, rfl⟩ := Int.eq_ofNat_of_zero_le ha
  obtain ⟨y, rfl⟩ := Int.eq_ofNat_of_zero_le hb
  exact both_nat x y k (by omega) hk

theorem set_j0 {b : List Int} (hb : Rd b) (p n all : Int) (hp : 0 ≤ p) (hp2 : p ≤ 900000) (hn : 0 ≤ n) (hn2 : n ≤ 1000000) (ha : 1 ≤ all) (ha2 : all ≤ 255) :
    ∃ s p' : Int, p ≤ p' ∧ p' ≤ p + 5 ∧ -1 ≤ s ∧ s ≤ 256 ∧ ∀ k, 12 ≤ k → spec_l20Set.j0 k n all b p = some (s, p') := by
  have ew : wrap64 (all + 1) = all + 1 := w64 (by omega) (by omega)
  obtain ⟨v, p1, a1, a2, hv⟩ := odd_ok hb p n hp (by omega) hn hn2
  cases v with
  | true =>
    obtain ⟨i, i0, i1, hi⟩ := pick_ok hb p1 2 (by omega) (by omega) (by omega) (by omega)
    have hr : -1 ≤ rd [-1, all + 1] i ∧ rd [-1, all + 1] i ≤ 256 := by
      rcases (show i = 0 ∨ i = 1 by omega) with rfl | rfl
      · show -1 ≤ (-1 : Int) ∧ (-1 : Int) ≤ 256; omega
      · show -1 ≤ all + 1 ∧ all + 1 ≤ 256; omega
    refine ⟨rd [-1, all + 1] i, p1 + 1, by omega, by omega, hr.1, hr.2, fun k hk => ?_⟩
    obtain ⟨m, rfl⟩ : ∃ m, k = m + 1 := ⟨k - 1, by omega⟩
    simp only [spec_l20Set.j0]
    rw [hv m (by omega)]
    simp only [Option.bind_some, if_true]
    rw [hi m (by omega)]
    simp only [Option.bind_some]
    rw [if_pos i0, if_pos (by simp; omega), ew]
  | false =>
    obtain ⟨x, x0, x1, hx⟩ := pick_ok hb p1 256 (by omega) (by omega) (by omega) (by omega)
    obtain ⟨y, y0, y1, hy⟩ := pick_ok hb (p1 + 1) 3 (by omega) (by omega) (by omega) (by omega)
    obtain ⟨z, z0, z1, hz⟩ := pick_ok hb (p1 + 1 + 1) 256 (by omega) (by omega) (by omega) (by omega)
    have s0 : 0 ≤ Int.tmod x (all + 1) := Int.tmod_nonneg _ x0
    have s1 : Int.tmod x (all + 1) < all + 1 := Int.tmod_lt_of_pos _ (by omega)
    by_cases h : y = 0
    · have hbo := fun k hk => both_int (Int.tmod x (all + 1)) z k s0 (by omega) z0 hk
      have q0 : 0 ≤ (((Int.tmod x (all + 1)).toNat &&& z.toNat : Nat) : Int) := by omega
      generalize (((Int.tmod x (all + 1)).toNat &&& z.toNat : Nat) : Int) = q at hbo q0
      have r0 : 0 ≤ Int.tmod q (all + 1) := Int.tmod_nonneg _ q0
      have r1 : Int.tmod q (all + 1) < all + 1 := Int.tmod_lt_of_pos _ (by omega)
      refine ⟨Int.tmod q (all + 1), p1 + 1 + 1 + 1, by omega, by omega, by omega, by omega, fun k hk => ?_⟩
      obtain ⟨m, rfl⟩ : ∃ m, k = m + 1 := ⟨k - 1, by omega⟩
      simp only [spec_l20Set.j0]
      rw [hv m (by omega)]
      simp only [Option.bind_some]
      rw [if_neg (by simp), hx m (by omega)]
      simp only [Option.bind_some]
      rw [ew, if_neg (by omega), hy m (by omega)]
      simp only [Option.bind_some]
      rw [if_pos h, hz m (by omega)]
      simp only [Option.bind_some]
      rw [hbo m (by omega)]
      simp only [Option.bind_some]
    · refine ⟨Int.tmod x (all + 1), p1 + 1 + 1, by omega, by omega, by omega, by omega, fun k hk => ?_⟩
      obtain ⟨m, rfl⟩ : ∃ m, k = m + 1 := ⟨k - 1, by omega⟩
      simp only [spec_l20Set.j0]
      rw [hv m (by omega)]
      simp only [Option.bind_some]
      rw [if_neg (by simp), hx m (by omega)]
      simp only [Option.bind_some]
      rw [ew, if_neg (by omega), hy m (by omega)]
      simp only [Option.bind_some]
      rw [if_neg h]

theorem set_ok {b : List Int} (hb : Rd b) (p t n : Int) (hp : 0 ≤ p) (hp2 : p ≤ 900000) (hn : 0 ≤ n) (hn2 : n ≤ 1000000) :
    ∃ s p' : Int, p ≤ p' ∧ p' ≤ p + 5 ∧ -1 ≤ s ∧ s ≤ 256 ∧ ∀ k, 12 ≤ k → spec_l20Set.f k b p t n = some (s, p') := by
  cases h : okT t with
  | true =>
    have hr : 1 ≤ allW t ∧ allW t ≤ 255 := by rcases okT_cases h with rfl | rfl | rfl <;> decide
    obtain ⟨s, p', h1, h2, h3, h4, h5⟩ := set_j0 hb p n (allW t) hp hp2 hn hn2 hr.1 hr.2
    refine ⟨s, p', h1, h2, h3, h4, fun k hk => ?_⟩
    unfold spec_l20Set.f
    rw [l1In_13, h]
    simp only [Option.bind_some, if_true]
    rw [l1All_eq t h]
    simp only [Option.bind_some]
    exact h5 k hk
  | false =>
    obtain ⟨s, p', h1, h2, h3, h4, h5⟩ := set_j0 hb p n 1 hp hp2 hn hn2 (by omega) (by omega)
    refine ⟨s, p', h1, h2, h3, h4, fun k hk => ?_⟩
    unfold spec_l20Set.f
    rw [l1In_13, h]
    simp only [Option.bind_some]
    rw [if_neg (by simp)]
    exact h5 k hk

end Go.Proofs.Ytgmnbegemgankaa.L
