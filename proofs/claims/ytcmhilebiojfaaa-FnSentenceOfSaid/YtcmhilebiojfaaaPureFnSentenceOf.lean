/- The law FnSentenceOf, for all arguments. -/
import Derived.Test.YtcmhilebiojfaaaHm
import Derived.Test.YtcmhilebiojfaaaHandF
import Derived.Test.YtcmhilebiojfaaaRx1
import Derived.Test.YtcmhilebiojfaaaRx2
import Derived.Test.YtcmhilebiojfaaaRx3
import Derived.Test.YtcmhilebiojfaaaRx4
namespace Go.Proofs.Ytcmhilebiojfaaa.L
open Go.RowKit Go.Proofs.Ytcmhilebiojfaaa.B Go.Proofs.Ytcmhilebiojfaaa.R Go.Proofs.Ytcmhilebiojfaaa.Hand Go.Proofs.YtcmhilebiojfaaaW.PrintWords Go.Proofs.YtcmhilebiojfaaaW.PrintLast Go.Proofs.YtcmhilebiojfaaaW.PrintMore
set_option linter.unusedVariables false
set_option linter.unusedSimpArgs false
theorem l1In_eq (a b c : Int) : spec_l1In.f a b c = some (decide (b ≤ a) && decide (a ≤ c)) := by
  unfold spec_l1In.f
  by_cases h : a ≥ b
  · rw [if_pos h]; simp [show b ≤ a from h]
  · rw [if_neg h]; simp [show ¬ b ≤ a from h]
theorem l1In_13 (a : Int) : spec_l1In.f a 1 3 = some (okT a) := l1In_eq a 1 3
theorem l1All_eq (a : Int) (h : okT a = true) : spec_l1All.f a = some (allW a) := by
  unfold spec_l1All.f allF; rw [if_pos h]
theorem SetOk_eq (t s : Int) : impl_SetOk.f t s = some (okS t s) := by
  unfold impl_SetOk.f
  rw [isSet_eq]; rfl
theorem sSetOk_eq (t s : Int) : spec_SetOk.f t s = some (okS t s) := by
  unfold spec_SetOk.f okS
  rw [l1In_13]
  simp only [Option.bind_some]
  cases h : okT t with
  | false => simp
  | true =>
    rw [l1All_eq t h]
    simp [l1In_eq]
theorem WorldsOf_eq (t : Int) : impl_WorldsOf.f t = some (nW t) := by
  unfold impl_WorldsOf.f nW
  rw [areThings_eq]
  simp only [Option.bind_some]
  cases h : okT t with
  | false => simp
  | true => rcases okT_cases h with rfl | rfl | rfl <;> decide +kernel
theorem alive_eq : laws_alive.f = some true := by
  unfold laws_alive.f
  rw [WorldsOf_eq, WorldsOf_eq]
  decide +kernel
end Go.Proofs.Ytcmhilebiojfaaa.L
namespace Go.Proofs.Ytcmhilebiojfaaa.L
open Go.RowKit Go.Proofs.Ytcmhilebiojfaaa.B Go.Proofs.Ytcmhilebiojfaaa.R Go.Proofs.Ytcmhilebiojfaaa.Hand Go.Proofs.YtcmhilebiojfaaaW.PrintWords Go.Proofs.YtcmhilebiojfaaaW.PrintLast Go.Proofs.YtcmhilebiojfaaaW.PrintMore
set_option linter.unusedVariables false
set_option linter.unusedSimpArgs false
theorem xor_i64 (a b : Nat) (ha : a < 2 ^ 62) (hb : b < 2 ^ 62) : bits .xor .i64 a b = ((a ^^^ b : Nat) : Int) := by
  have hx : a ^^^ b < 2 ^ 62 := Nat.xor_lt_two_pow ha hb
  simp only [bits, BitVec.ofInt_natCast, BitVec.toNat_xor, BitVec.toNat_ofNat]
  have e : IntKind.i64.bits = 64 := rfl
  rw [e, Nat.mod_eq_of_lt (by omega), Nat.mod_eq_of_lt (by omega)]
  exact wraps_i64 _ (by omega) (by omega)
theorem xor_nonneg (x y : Int) (hx : 0 ≤ x) (hx2 : x < 4611686018427387904) (hy : 0 ≤ y) (hy2 : y < 4611686018427387904) : 0 ≤ bits .xor .i64 x y := by
  obtain ⟨a, rfl⟩ := Int.eq_ofNat_of_zero_le hx
  obtain ⟨b, rfl⟩ := Int.eq_ofNat_of_zero_le hy
  rw [xor_i64 a b (by omega) (by omega)]
  omega
/-- A reader's bytes. -/
structure Rd (b : List Int) : Prop where
  byte : ∀ x, x ∈ b → 0 ≤ x ∧ x ≤ 255
  len : b.length ≤ 2000
theorem Rd.at_ {b : List Int} (h : Rd b) (i : Int) : 0 ≤ rd b i ∧ rd b i ≤ 255 := by
  unfold rd
  rw [List.getD_eq_getElem?_getD]
  by_cases e : i.toNat < b.length
  · rw [List.getElem?_eq_getElem e]; exact h.byte _ (List.getElem_mem e)
  · rw [List.getElem?_eq_none (by omega)]; simp
theorem pick_ok {b : List Int} (hb : Rd b) (p n : Int) (hp : 0 ≤ p) (hp2 : p ≤ 1000000) (hn : 1 ≤ n) (hn2 : n ≤ 1000000) :
    ∃ v, 0 ≤ v ∧ v < n ∧ ∀ k, 1 ≤ k → spec_l20Rd_pick.f k b p n = some (v, p + 1) := by
  have e1 : wrap64 (p + 1) = p + 1 := w64 (by omega) (by omega)
  have e2 : wrap64 (p + 1 - 1) = p := by rw [w64 (by omega) (by omega)]; omega
  by_cases hl : (b.length : Int) = 0
  · refine ⟨0, by omega, by omega, fun k hk => ?_⟩
    obtain ⟨m, rfl⟩ : ∃ m, k = m + 1 := ⟨k - 1, by omega⟩
    unfold spec_l20Rd_pick.f
    rw [if_neg (by omega), e1]
    simp only [spec_l20Rd_pick.j0]
    rw [if_pos (by rw [hl]; rfl)]
  · have hlen : 0 < (b.length : Int) := by omega
    have hlen2 : (b.length : Int) ≤ 2000 := by have := hb.len; omega
    have hle : ¬ (((b.length : Int) == 0) = true) := fun h => hl (beq_iff_eq.1 h)
    by_cases hlt : p < (b.length : Int)
    · have hr := hb.at_ p
      refine ⟨Int.tmod (rd b p) n, Int.tmod_nonneg _ hr.1, Int.tmod_lt_of_pos _ (by omega), fun k hk => ?_⟩
      obtain ⟨m, rfl⟩ : ∃ m, k = m + 1 := ⟨k - 1, by omega⟩
      unfold spec_l20Rd_pick.f
      rw [if_neg (by omega), e1]
      simp only [spec_l20Rd_pick.j0]
      rw [if_neg hle, e2, if_pos hlt, if_pos hp, if_neg (by omega), w64 (n := rd b p) (by omega) (by omega)]
    · have m1 : 0 ≤ Int.tmod p (b.length : Int) := Int.tmod_nonneg _ hp
      have m2 : Int.tmod p (b.length : Int) < (b.length : Int) := Int.tmod_lt_of_pos _ hlen
      have e3 : wrap64 (wrap64 (p * 7) + 3) = p * 7 + 3 := by rw [w64 (n := p * 7) (by omega) (by omega), w64 (by omega) (by omega)]
      have m3 : 0 ≤ Int.tmod (p * 7 + 3) (b.length : Int) := Int.tmod_nonneg _ (by omega)
      have m4 : Int.tmod (p * 7 + 3) (b.length : Int) < (b.length : Int) := Int.tmod_lt_of_pos _ hlen
      have a1 := hb.at_ (Int.tmod p (b.length : Int))
      have a2 := hb.at_ (Int.tmod (p * 7 + 3) (b.length : Int))
      have d1 : 0 ≤ Int.tdiv p (b.length : Int) := Int.tdiv_nonneg hp (by omega)
      have d2 : Int.tdiv p (b.length : Int) ≤ p := by
        rw [Int.tdiv_eq_ediv_of_nonneg hp]
        exact Int.ediv_le_self _ hp
      generalize hA : rd b (Int.tmod p (b.length : Int)) = A at a1
      generalize hB : rd b (Int.tmod (p * 7 + 3) (b.length : Int)) = B at a2
      generalize hD : Int.tdiv p (b.length : Int) = D at d1 d2
      have eY : wrap64 (wrap64 (wrap64 (wrap64 (wrap64 A * 131) + wrap64 (wrap64 B * 1117)) + wrap64 (p * 29)) + wrap64 (wrap64 D * 53)) = A * 131 + B * 1117 + p * 29 + D * 53 := by
        rw [w64 (n := A) (by omega) (by omega), w64 (n := B) (by omega) (by omega), w64 (n := D) (by omega) (by omega), w64 (n := A * 131) (by omega) (by omega), w64 (n := B * 1117) (by omega) (by omega), w64 (n := p * 29) (by omega) (by omega), w64 (n := D * 53) (by omega) (by omega), w64 (n := A * 131 + B * 1117) (by omega) (by omega), w64 (n := A * 131 + B * 1117 + p * 29) (by omega) (by omega), w64 (by omega) (by omega)]
      generalize hY : A * 131 + B * 1117 + p * 29 + D * 53 = Y at eY
      have y1 : 0 ≤ Y := by omega
      have y2 : Y ≤ 200000000 := by omega
      have eq : Int.tdiv Y 64 = Y / 64 := Int.tdiv_eq_ediv_of_nonneg y1
      have hx : 0 ≤ Go.bits .xor .i64 Y (wrap64 (Int.tdiv Y 64)) := by
        rw [eq, w64 (by omega) (by omega)]
        exact xor_nonneg _ _ y1 (by omega) (by omega) (by omega)
      refine ⟨Int.tmod (Go.bits .xor .i64 Y (wrap64 (Int.tdiv Y 64))) n, Int.tmod_nonneg _ hx, Int.tmod_lt_of_pos _ (by omega), fun k hk => ?_⟩
      obtain ⟨m, rfl⟩ : ∃ m, k = m + 1 := ⟨k - 1, by omega⟩
      unfold spec_l20Rd_pick.f
      rw [if_neg (by omega), e1]
      simp only [spec_l20Rd_pick.j0]
      rw [if_neg hle, e2, if_neg hlt, if_neg hl, if_pos m1, if_pos m2, e3, if_pos m3, if_pos m4, if_neg (by omega), hA, hB, hD, eY]
theorem odd_ok {b : List Int} (hb : Rd b) (p n : Int) (hp : 0 ≤ p) (hp2 : p ≤ 1000000) (hn : 0 ≤ n) (hn2 : n ≤ 1000000) :
    ∃ (v : Bool) (p' : Int), p ≤ p' ∧ p' ≤ p + 1 ∧ ∀ k, 1 ≤ k → spec_l20Rd_odd.f k b p n = some (v, p') := by
  by_cases h : n > 0
  · obtain ⟨v, h0, h1, hv⟩ := pick_ok hb p n hp hp2 (by omega) hn2
    exact ⟨v == wrap64 (n - 1), p + 1, by omega, by omega, fun k hk => by unfold spec_l20Rd_odd.f; rw [if_pos h, hv k hk]; rfl⟩
  · exact ⟨false, p, by omega, by omega, fun k hk => by unfold spec_l20Rd_odd.f; rw [if_neg h]⟩
theorem things_ok {b : List Int} (hb : Rd b) (p n : Int) (hp : 0 ≤ p) (hp2 : p ≤ 900000) (hn : 0 ≤ n) (hn2 : n ≤ 1000000) :
    ∃ t p' : Int, p ≤ p' ∧ p' ≤ p + 2 ∧ -1 ≤ t ∧ t ≤ 4 ∧ ∀ k, 1 ≤ k → spec_l20Things.f k b p n = some (t, p') := by
  obtain ⟨v, p1, a1, a2, hv⟩ := odd_ok hb p n hp (by omega) hn hn2
  cases v with
  | true =>
    obtain ⟨i, i0, i1, hi⟩ := pick_ok hb p1 3 (by omega) (by omega) (by omega) (by omega)
    have hr : -1 ≤ rd [0, 4, -1] i ∧ rd [0, 4, -1] i ≤ 4 := by
      rcases (show i = 0 ∨ i = 1 ∨ i = 2 by omega) with rfl | rfl | rfl <;> decide
    refine ⟨rd [0, 4, -1] i, p1 + 1, by omega, by omega, hr.1, hr.2, fun k hk => ?_⟩
    unfold spec_l20Things.f
    rw [hv k hk]
    simp only [Option.bind_some, if_true]
    rw [hi k hk]
    simp only [Option.bind_some]
    rw [if_pos i0, if_pos (by simp; omega)]
  | false =>
    obtain ⟨i, i0, i1, hi⟩ := pick_ok hb p1 5 (by omega) (by omega) (by omega) (by omega)
    have hr : -1 ≤ rd [1, 2, 2, 3, 3] i ∧ rd [1, 2, 2, 3, 3] i ≤ 4 := by
      rcases (show i = 0 ∨ i = 1 ∨ i = 2 ∨ i = 3 ∨ i = 4 by omega) with rfl | rfl | rfl | rfl | rfl <;> decide
    refine ⟨rd [1, 2, 2, 3, 3] i, p1 + 1, by omega, by omega, hr.1, hr.2, fun k hk => ?_⟩
    unfold spec_l20Things.f
    rw [hv k hk]
    simp only [Option.bind_some]
    rw [if_neg (by simp), hi k hk]
    simp only [Option.bind_some]
    rw [if_pos i0, if_pos (by simp; omega)]
theorem open_ok (l0 : List Int) (hb : ∀ x ∈ l0, (Lit.int .u8 x).wf = true) : ∃ b, Rd b ∧ spec_l20Open.f l0 = some (b, 0) := by
  have hx : ∀ x ∈ l0, 0 ≤ x ∧ x ≤ 255 := fun x hx => by
    have := hb x hx
    simp [Lit.wf, IntKind.min, IntKind.max, IntKind.bits, IntKind.signed] at this
    omega
  unfold spec_l20Open.f
  by_cases h : (l0.length : Int) > 2000
  · rw [if_pos h, if_pos (by omega)]
    exact ⟨l0.take 2000, ⟨fun x hm => hx x (List.mem_of_mem_take hm), by simp; omega⟩, rfl⟩
  · rw [if_neg h]
    exact ⟨l0, ⟨hx, by omega⟩, rfl⟩
end Go.Proofs.Ytcmhilebiojfaaa.L
namespace Go.Proofs.Ytcmhilebiojfaaa.L
open Go.RowKit Go.Proofs.Ytcmhilebiojfaaa.B Go.Proofs.Ytcmhilebiojfaaa.R Go.Proofs.Ytcmhilebiojfaaa.Hand Go.Proofs.YtcmhilebiojfaaaW.PrintWords Go.Proofs.YtcmhilebiojfaaaW.PrintLast Go.Proofs.YtcmhilebiojfaaaW.PrintMore
set_option linter.unusedVariables false
set_option linter.unusedSimpArgs false
theorem bit_nat (a w : Nat) (hw : w ≤ 62) : spec_l1Bit.f (a : Int) (w : Int) = some (if a.testBit w = true then 1 else 0) := by
  unfold spec_l1Bit.f
  rw [if_pos (by omega), shr_nat a w hw, tmod2]
theorem both_l0 (a b : Nat) : ∀ (d w k : Nat), w + d = 8 → d < k →
    spec_l1Both.l0 k a b (sumN w (fun i => a.testBit i && b.testBit i) : Nat) w = some ((sumN 8 (fun i => a.testBit i && b.testBit i) : Nat) : Int) := by
  intro d
  induction d with
  | zero =>
    intro w k hw hk
    obtain ⟨m, rfl⟩ : ∃ m, k = m + 1 := ⟨k - 1, by omega⟩
    obtain rfl : w = 8 := by omega
    simp only [spec_l1Both.l0]
    rw [if_neg (by omega)]
  | succ d ih =>
    intro w k hw hk
    obtain ⟨m, rfl⟩ : ∃ m, k = m + 1 := ⟨k - 1, by omega⟩
    have hlt := sumN_lt w (fun i => a.testBit i && b.testBit i)
    have hp : 2 ^ w ≤ 2 ^ 7 := Nat.pow_le_pow_right (by decide) (by omega)
    have e1 : wrap64 ((w : Int) + 1) = ((w + 1 : Nat) : Int) := by rw [w64 (by omega) (by omega)]; simp
    have key : ∀ x y : Bool, wrap64 (((sumN w (fun i => a.testBit i && b.testBit i) : Nat) : Int) + shl .i64 (wrap64 ((if x = true then 1 else 0) * (if y = true then 1 else 0))) (w : Int)) = ((sumN w (fun i => a.testBit i && b.testBit i) + (if (x && y) = true then 2 ^ w else 0) : Nat) : Int) := by
      intro x y
      generalize sumN w (fun i => a.testBit i && b.testBit i) = q at hlt
      have s0 : shl .i64 (wrap64 0) (w : Int) = 0 := by
        have := shl_nat 0 w (by omega) (by omega)
        rw [Nat.zero_mul] at this
        rw [show wrap64 0 = 0 from w64 (by omega) (by omega)]
        exact this
      have s1 : shl .i64 (wrap64 1) (w : Int) = ((2 ^ w : Nat) : Int) := by
        have := shl_nat 1 w (by omega) (by omega)
        rw [Nat.one_mul] at this
        rw [show wrap64 1 = 1 from w64 (by omega) (by omega)]
        exact this
      generalize 2 ^ w = e at s1 hlt hp
      cases x <;> cases y
      · show wrap64 ((q : Int) + shl .i64 (wrap64 0) (w : Int)) = _
        rw [s0, w64 (by omega) (by omega)]; simp
      · show wrap64 ((q : Int) + shl .i64 (wrap64 0) (w : Int)) = _
        rw [s0, w64 (by omega) (by omega)]; simp
      · show wrap64 ((q : Int) + shl .i64 (wrap64 0) (w : Int)) = _
        rw [s0, w64 (by omega) (by omega)]; simp
      · show wrap64 ((q : Int) + shl .i64 (wrap64 1) (w : Int)) = _
        rw [s1, w64 (by omega) (by omega)]; simp
    have key := key (a.testBit w) (b.testBit w)
    rw [show sumN w (fun i => a.testBit i && b.testBit i) + (if (a.testBit w && b.testBit w) = true then 2 ^ w else 0) = sumN (w + 1) (fun i => a.testBit i && b.testBit i) from rfl] at key
    simp only [spec_l1Both.l0]
    rw [if_pos (by omega), bit_nat a w (by omega)]
    simp only [Option.bind_some]
    rw [bit_nat b w (by omega)]
    simp only [Option.bind_some]
    rw [if_pos (by omega), key, e1]
    exact ih (w + 1) m (by omega) (by omega)
/-- What is in both sets. -/
theorem both_nat (a b k : Nat) (ha : a < 256) (hk : 9 ≤ k) : spec_l1Both.f k (a : Int) (b : Int) = some ((a &&& b : Nat) : Int) := by
  have h := both_l0 a b 8 0 k (by omega) (by omega)
  have e : sumN 8 (fun i => a.testBit i && b.testBit i) = a &&& b := by
    have h2 : a &&& b < 2 ^ 8 := Nat.lt_of_le_of_lt Nat.and_le_left ha
    rw [← sumN_bits 8 (a &&& b) h2]
    exact sumN_congr _ _ _ fun i _ => by rw [Nat.testBit_and]
  rw [e] at h
  unfold spec_l1Both.f
  simpa [sumN] using h
theorem both_int (a b : Int) (k : Nat) (ha : 0 ≤ a) (ha2 : a < 256) (hb : 0 ≤ b) (hk : 9 ≤ k) : spec_l1Both.f k a b = some ((a.toNat &&& b.toNat : Nat) : Int) := by
  obtain ⟨x, rfl⟩ := Int.eq_ofNat_of_zero_le ha
  obtain ⟨y, rfl⟩ := Int.eq_ofNat_of_zero_le hb
  exact both_nat x y k (by omega) hk
theorem set_j0 {b : List Int} (hb : Rd b) (p n all : Int) (hp : 0 ≤ p) (hp2 : p ≤ 900000) (hn : 0 ≤ n) (hn2 : n ≤ 1000000) (ha : 1 ≤ all) (ha2 : all ≤ 255) :
    ∃ s p' : Int, p ≤ p' ∧ p' ≤ p + 5 ∧ -1 ≤ s ∧ s ≤ 256 ∧ ∀ k, 12 ≤ k → spec_l20Set.j0 k n all b p = some (s, p') := by
  have ew : wrap64 (all + 1) = all + 1 := w64 (by omega) (by omega)
  obtain ⟨v, p1, a1, a2, hv⟩ := odd_ok hb p n hp (by omega) hn hn2
  cases v with
  | true =>
    obtain ⟨i, i0, i1, hi⟩ := pick_ok hb p1 2 (by omega) (by omega) (by omega) (by omega)
    have hr : -1 ≤ rd [-1, all + 1] i ∧ rd [-1, all + 1] i ≤ 256 := by
      rcases (show i = 0 ∨ i = 1 by omega) with rfl | rfl
      · show -1 ≤ (-1 : Int) ∧ (-1 : Int) ≤ 256; omega
      · show -1 ≤ all + 1 ∧ all + 1 ≤ 256; omega
    refine ⟨rd [-1, all + 1] i, p1 + 1, by omega, by omega, hr.1, hr.2, fun k hk => ?_⟩
    obtain ⟨m, rfl⟩ : ∃ m, k = m + 1 := ⟨k - 1, by omega⟩
    simp only [spec_l20Set.j0]
    rw [hv m (by omega)]
    simp only [Option.bind_some, if_true]
    rw [hi m (by omega)]
    simp only [Option.bind_some]
    rw [if_pos i0, if_pos (by simp; omega), ew]
  | false =>
    obtain ⟨x, x0, x1, hx⟩ := pick_ok hb p1 256 (by omega) (by omega) (by omega) (by omega)
    obtain ⟨y, y0, y1, hy⟩ := pick_ok hb (p1 + 1) 3 (by omega) (by omega) (by omega) (by omega)
    obtain ⟨z, z0, z1, hz⟩ := pick_ok hb (p1 + 1 + 1) 256 (by omega) (by omega) (by omega) (by omega)
    have s0 : 0 ≤ Int.tmod x (all + 1) := Int.tmod_nonneg _ x0
    have s1 : Int.tmod x (all + 1) < all + 1 := Int.tmod_lt_of_pos _ (by omega)
    by_cases h : y = 0
    · have hbo := fun k hk => both_int (Int.tmod x (all + 1)) z k s0 (by omega) z0 hk
      have q0 : 0 ≤ (((Int.tmod x (all + 1)).toNat &&& z.toNat : Nat) : Int) := by omega
      generalize (((Int.tmod x (all + 1)).toNat &&& z.toNat : Nat) : Int) = q at hbo q0
      have r0 : 0 ≤ Int.tmod q (all + 1) := Int.tmod_nonneg _ q0
      have r1 : Int.tmod q (all + 1) < all + 1 := Int.tmod_lt_of_pos _ (by omega)
      refine ⟨Int.tmod q (all + 1), p1 + 1 + 1 + 1, by omega, by omega, by omega, by omega, fun k hk => ?_⟩
      obtain ⟨m, rfl⟩ : ∃ m, k = m + 1 := ⟨k - 1, by omega⟩
      simp only [spec_l20Set.j0]
      rw [hv m (by omega)]
      simp only [Option.bind_some]
      rw [if_neg (by simp), hx m (by omega)]
      simp only [Option.bind_some]
      rw [ew, if_neg (by omega), hy m (by omega)]
      simp only [Option.bind_some]
      rw [if_pos h, hz m (by omega)]
      simp only [Option.bind_some]
      rw [hbo m (by omega)]
      simp only [Option.bind_some]
    · refine ⟨Int.tmod x (all + 1), p1 + 1 + 1, by omega, by omega, by omega, by omega, fun k hk => ?_⟩
      obtain ⟨m, rfl⟩ : ∃ m, k = m + 1 := ⟨k - 1, by omega⟩
      simp only [spec_l20Set.j0]
      rw [hv m (by omega)]
      simp only [Option.bind_some]
      rw [if_neg (by simp), hx m (by omega)]
      simp only [Option.bind_some]
      rw [ew, if_neg (by omega), hy m (by omega)]
      simp only [Option.bind_some]
      rw [if_neg h]
theorem set_ok {b : List Int} (hb : Rd b) (p t n : Int) (hp : 0 ≤ p) (hp2 : p ≤ 900000) (hn : 0 ≤ n) (hn2 : n ≤ 1000000) :
    ∃ s p' : Int, p ≤ p' ∧ p' ≤ p + 5 ∧ -1 ≤ s ∧ s ≤ 256 ∧ ∀ k, 12 ≤ k → spec_l20Set.f k b p t n = some (s, p') := by
  cases h : okT t with
  | true =>
    have hr : 1 ≤ allW t ∧ allW t ≤ 255 := by rcases okT_cases h with rfl | rfl | rfl <;> decide
    obtain ⟨s, p', h1, h2, h3, h4, h5⟩ := set_j0 hb p n (allW t) hp hp2 hn hn2 hr.1 hr.2
    refine ⟨s, p', h1, h2, h3, h4, fun k hk => ?_⟩
    unfold spec_l20Set.f
    rw [l1In_13, h]
    simp only [Option.bind_some, if_true]
    rw [l1All_eq t h]
    simp only [Option.bind_some]
    exact h5 k hk
  | false =>
    obtain ⟨s, p', h1, h2, h3, h4, h5⟩ := set_j0 hb p n 1 hp hp2 hn hn2 (by omega) (by omega)
    refine ⟨s, p', h1, h2, h3, h4, fun k hk => ?_⟩
    unfold spec_l20Set.f
    rw [l1In_13, h]
    simp only [Option.bind_some]
    rw [if_neg (by simp)]
    exact h5 k hk
end Go.Proofs.Ytcmhilebiojfaaa.L
namespace Go.Proofs.Ytcmhilebiojfaaa.L
open Go.RowKit Go.Proofs.Ytcmhilebiojfaaa.B Go.Proofs.Ytcmhilebiojfaaa.R Go.Proofs.Ytcmhilebiojfaaa.Hand Go.Proofs.YtcmhilebiojfaaaW.PrintWords Go.Proofs.YtcmhilebiojfaaaW.PrintLast Go.Proofs.YtcmhilebiojfaaaW.PrintMore
set_option linter.unusedVariables false
set_option linter.unusedSimpArgs false
/-- HoldsIn. -/
def holE (t : Int) (s : ByteArray) : Int × Bool := if okT t = true ∧ s.size ≤ 120 then holdsAt t s else (-1, false)
theorem HoldsIn_eq (t : Int) (s : ByteArray) : impl_HoldsIn.f t s = some (holE t s) := by
  unfold impl_HoldsIn.f holE
  rw [areThings_eq]
  simp only [Option.bind_some]
  cases ht : okT t with
  | false => simp
  | true =>
    rw [if_pos rfl]
    by_cases hs : s.size ≤ 120
    · rw [if_neg (by omega), if_pos (by simp [hs]), show impl_holdsIn.f t s = some (holdsAt t s) by unfold impl_holdsIn.f; rw [if_pos ⟨ht, hs⟩]]
      rfl
    · rw [if_pos (by omega), if_neg (by simp [hs])]
end Go.Proofs.Ytcmhilebiojfaaa.L
namespace Go.Proofs.Ytcmhilebiojfaaa.L
open Go.RowKit Go.Proofs.Ytcmhilebiojfaaa.B Go.Proofs.Ytcmhilebiojfaaa.R Go.Proofs.Ytcmhilebiojfaaa.Hand Go.Proofs.YtcmhilebiojfaaaW.PrintWords Go.Proofs.YtcmhilebiojfaaaW.PrintLast Go.Proofs.YtcmhilebiojfaaaW.PrintMore
set_option linter.unusedVariables false
set_option linter.unusedSimpArgs false
def senOk (t s : Int) : Bool := match impl_SentenceOf.f 2000 t s with
  | none => false
  | some x => !decide (x.toList = ([] : List UInt8)) && decide (holE t x = (s, true))
set_option maxRecDepth 100000 in
theorem sen1 : ∀ s : Fin 4, senOk 1 ((s.val : Nat) : Int) = true := by decide +kernel
set_option maxRecDepth 100000 in
theorem sen2 : ∀ s : Fin 16, senOk 2 ((s.val : Nat) : Int) = true := by decide +kernel
set_option maxRecDepth 100000 in
theorem sen3_0 : ∀ s : Fin 32, senOk 3 ((s.val + 0 : Nat) : Int) = true := by decide +kernel
set_option maxRecDepth 100000 in
theorem sen3_1 : ∀ s : Fin 32, senOk 3 ((s.val + 32 : Nat) : Int) = true := by decide +kernel
set_option maxRecDepth 100000 in
theorem sen3_2 : ∀ s : Fin 32, senOk 3 ((s.val + 64 : Nat) : Int) = true := by decide +kernel
set_option maxRecDepth 100000 in
theorem sen3_3 : ∀ s : Fin 32, senOk 3 ((s.val + 96 : Nat) : Int) = true := by decide +kernel
set_option maxRecDepth 100000 in
theorem sen3_4 : ∀ s : Fin 32, senOk 3 ((s.val + 128 : Nat) : Int) = true := by decide +kernel
set_option maxRecDepth 100000 in
theorem sen3_5 : ∀ s : Fin 32, senOk 3 ((s.val + 160 : Nat) : Int) = true := by decide +kernel
set_option maxRecDepth 100000 in
theorem sen3_6 : ∀ s : Fin 32, senOk 3 ((s.val + 192 : Nat) : Int) = true := by decide +kernel
set_option maxRecDepth 100000 in
theorem sen3_7 : ∀ s : Fin 32, senOk 3 ((s.val + 224 : Nat) : Int) = true := by decide +kernel
theorem sen3 (n : Nat) (h : n < 256) : senOk 3 (n : Int) = true := by
  rcases (show 0 ≤ n ∧ n < 32 ∨ 32 ≤ n ∧ n < 64 ∨ 64 ≤ n ∧ n < 96 ∨ 96 ≤ n ∧ n < 128 ∨ 128 ≤ n ∧ n < 160 ∨ 160 ≤ n ∧ n < 192 ∨ 192 ≤ n ∧ n < 224 ∨ 224 ≤ n ∧ n < 256 by omega) with h | h | h | h | h | h | h | h
  · have := sen3_0 ⟨n - 0, by omega⟩
    rwa [show (n - 0) + 0 = n by omega] at this
  · have := sen3_1 ⟨n - 32, by omega⟩
    rwa [show (n - 32) + 32 = n by omega] at this
  · have := sen3_2 ⟨n - 64, by omega⟩
    rwa [show (n - 64) + 64 = n by omega] at this
  · have := sen3_3 ⟨n - 96, by omega⟩
    rwa [show (n - 96) + 96 = n by omega] at this
  · have := sen3_4 ⟨n - 128, by omega⟩
    rwa [show (n - 128) + 128 = n by omega] at this
  · have := sen3_5 ⟨n - 160, by omega⟩
    rwa [show (n - 160) + 160 = n by omega] at this
  · have := sen3_6 ⟨n - 192, by omega⟩
    rwa [show (n - 192) + 192 = n by omega] at this
  · have := sen3_7 ⟨n - 224, by omega⟩
    rwa [show (n - 224) + 224 = n by omega] at this
theorem sen_all {t s : Int} (h : okS t s = true) : senOk t s = true := by
  obtain ⟨a1, a2, a3, a4⟩ := okS_cases h
  obtain ⟨n, rfl⟩ := Int.eq_ofNat_of_zero_le a2
  rcases okT_cases a1 with rfl | rfl | rfl
  · have : (n : Int) ≤ 3 := a3
    exact sen1 ⟨n, by omega⟩
  · have : (n : Int) ≤ 15 := a3
    exact sen2 ⟨n, by omega⟩
  · exact sen3 n (by omega)
theorem sentence_of {t s : Int} (h : okS t s = true) : ∃ x : ByteArray, impl_SentenceOf.f 2000 t s = some x ∧ x.toList ≠ ([] : List UInt8) ∧ holE t x = (s, true) := by
  have hk := sen_all h
  unfold senOk at hk
  cases hx : impl_SentenceOf.f 2000 t s with
  | none => rw [hx] at hk; cases hk
  | some x =>
    rw [hx] at hk
    simp only [Bool.and_eq_true, Bool.not_eq_true', decide_eq_true_eq, decide_eq_false_iff_not] at hk
    exact ⟨x, rfl, hk.1, hk.2⟩
def senSp (t s : Int) : Bool := decide (spec_SentenceOf.f 2000 t s = impl_SentenceOf.f 2000 t s)
set_option maxRecDepth 100000 in
theorem sp1 : ∀ s : Fin 4, senSp 1 ((s.val : Nat) : Int) = true := by decide +kernel
set_option maxRecDepth 100000 in
theorem sp2 : ∀ s : Fin 16, senSp 2 ((s.val : Nat) : Int) = true := by decide +kernel
set_option maxRecDepth 100000 in
theorem sp3_0 : ∀ s : Fin 32, senSp 3 ((s.val + 0 : Nat) : Int) = true := by decide +kernel
set_option maxRecDepth 100000 in
theorem sp3_1 : ∀ s : Fin 32, senSp 3 ((s.val + 32 : Nat) : Int) = true := by decide +kernel
set_option maxRecDepth 100000 in
theorem sp3_2 : ∀ s : Fin 32, senSp 3 ((s.val + 64 : Nat) : Int) = true := by decide +kernel
set_option maxRecDepth 100000 in
theorem sp3_3 : ∀ s : Fin 32, senSp 3 ((s.val + 96 : Nat) : Int) = true := by decide +kernel
set_option maxRecDepth 100000 in
theorem sp3_4 : ∀ s : Fin 32, senSp 3 ((s.val + 128 : Nat) : Int) = true := by decide +kernel
set_option maxRecDepth 100000 in
theorem sp3_5 : ∀ s : Fin 32, senSp 3 ((s.val + 160 : Nat) : Int) = true := by decide +kernel
set_option maxRecDepth 100000 in
theorem sp3_6 : ∀ s : Fin 32, senSp 3 ((s.val + 192 : Nat) : Int) = true := by decide +kernel
set_option maxRecDepth 100000 in
theorem sp3_7 : ∀ s : Fin 32, senSp 3 ((s.val + 224 : Nat) : Int) = true := by decide +kernel
theorem sp3 (n : Nat) (h : n < 256) : senSp 3 (n : Int) = true := by
  rcases (show 0 ≤ n ∧ n < 32 ∨ 32 ≤ n ∧ n < 64 ∨ 64 ≤ n ∧ n < 96 ∨ 96 ≤ n ∧ n < 128 ∨ 128 ≤ n ∧ n < 160 ∨ 160 ≤ n ∧ n < 192 ∨ 192 ≤ n ∧ n < 224 ∨ 224 ≤ n ∧ n < 256 by omega) with h | h | h | h | h | h | h | h
  · have := sp3_0 ⟨n - 0, by omega⟩
    rwa [show (n - 0) + 0 = n by omega] at this
  · have := sp3_1 ⟨n - 32, by omega⟩
    rwa [show (n - 32) + 32 = n by omega] at this
  · have := sp3_2 ⟨n - 64, by omega⟩
    rwa [show (n - 64) + 64 = n by omega] at this
  · have := sp3_3 ⟨n - 96, by omega⟩
    rwa [show (n - 96) + 96 = n by omega] at this
  · have := sp3_4 ⟨n - 128, by omega⟩
    rwa [show (n - 128) + 128 = n by omega] at this
  · have := sp3_5 ⟨n - 160, by omega⟩
    rwa [show (n - 160) + 160 = n by omega] at this
  · have := sp3_6 ⟨n - 192, by omega⟩
    rwa [show (n - 192) + 192 = n by omega] at this
  · have := sp3_7 ⟨n - 224, by omega⟩
    rwa [show (n - 224) + 224 = n by omega] at this
theorem sp_all {t s : Int} (h : okS t s = true) : senSp t s = true := by
  obtain ⟨a1, a2, a3, a4⟩ := okS_cases h
  obtain ⟨n, rfl⟩ := Int.eq_ofNat_of_zero_le a2
  rcases okT_cases a1 with rfl | rfl | rfl
  · have : (n : Int) ≤ 3 := a3
    exact sp1 ⟨n, by omega⟩
  · have : (n : Int) ≤ 15 := a3
    exact sp2 ⟨n, by omega⟩
  · exact sp3 n (by omega)
theorem sentence_sp {t s : Int} (h : okS t s = true) : spec_SentenceOf.f 2000 t s = impl_SentenceOf.f 2000 t s := of_decide_eq_true (sp_all h)
end Go.Proofs.Ytcmhilebiojfaaa.L
namespace Go.Proofs.Ytcmhilebiojfaaa.Pure
open Go.RowKit Go.Proofs.Ytcmhilebiojfaaa.B Go.Proofs.Ytcmhilebiojfaaa.R Go.Proofs.Ytcmhilebiojfaaa.Hand Go.Proofs.Ytcmhilebiojfaaa.L Go.Proofs.YtcmhilebiojfaaaW.PrintWords Go.Proofs.YtcmhilebiojfaaaW.PrintLast Go.Proofs.YtcmhilebiojfaaaW.PrintMore
set_option linter.unusedVariables false
set_option linter.unusedSimpArgs false
theorem draw_ok (l0 : List Int) (hb : ∀ x ∈ l0, (Lit.int .u8 x).wf = true) : ∃ t s : Int, ∀ k, 100 ≤ k → spec_DrawSentenceOf.f k l0 = some (t, s) := by
  obtain ⟨b, hB, ho⟩ := open_ok l0 hb
  obtain ⟨t, p1, _, _, t0, t1, ht⟩ := things_ok hB 0 14 (by omega) (by omega) (by omega) (by omega)
  obtain ⟨s, p2, _, _, s0, s1, hs⟩ := set_ok hB p1 t 14 (by omega) (by omega) (by omega) (by omega)
  refine ⟨t, s, fun k hk => ?_⟩
  unfold spec_DrawSentenceOf.f
  rw [ho]
  simp only [Option.bind_some]
  rw [ht k (by omega)]
  simp only [Option.bind_some]
  rw [hs k (by omega)]
  simp only [Option.bind_some]
theorem FnSentenceOf : laws_FnSentenceOf.Pure := by
  intro l0 _ _ hb
  refine ⟨2000, ?_⟩
  unfold laws_FnSentenceOf.f
  by_cases hl : (l0.length : Int) > 1048576
  · rw [if_pos hl]
  rw [if_neg hl]
  obtain ⟨t, s, hd⟩ := draw_ok l0 hb
  rw [hd 2000 (by omega)]
  simp only [Option.bind_some]
  cases hs : okS t s with
  | false =>
    have e1 : impl_SentenceOf.f 2000 t s = some ⟨#[]⟩ := by
      unfold impl_SentenceOf.f
      rw [isSet_eq, hs]; rfl
    have e2 : spec_SentenceOf.f 2000 t s = some ⟨#[]⟩ := by
      unfold spec_SentenceOf.f
      rw [sSetOk_eq, hs]; rfl
    rw [e1, e2]
    simp only [Option.bind_some]
    rw [if_pos trivial, if_pos (by decide +kernel), SetOk_eq, hs]
    simp [alive_eq]
  | true =>
    obtain ⟨x, e1, e3, e4⟩ := sentence_of hs
    rw [sentence_sp hs, e1]
    simp only [Option.bind_some]
    have hsz : x.size ≤ 120 := by
      unfold holE at e4
      by_cases hc : okT t = true ∧ x.size ≤ 120
      · exact hc.2
      · rw [if_neg hc] at e4; cases e4
    rw [if_pos trivial, if_neg e3, HoldsIn_eq, e4]
    simp
    omega
end Go.Proofs.Ytcmhilebiojfaaa.Pure
