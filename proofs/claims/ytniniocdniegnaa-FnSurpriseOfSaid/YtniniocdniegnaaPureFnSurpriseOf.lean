/- The law FnSurpriseOf, for all arguments. -/
import Derived.Test.YtniniocdniegnaaHm
import Derived.Test.YtniniocdniegnaaHandF
import Derived.Test.YtniniocdniegnaaSx1
import Derived.Test.YtniniocdniegnaaSx2
import Derived.Test.YtniniocdniegnaaSx3
namespace Go.Proofs.Ytniniocdniegnaa.L
open Go.RowKit Go.Proofs.Ytniniocdniegnaa.B Go.Proofs.Ytniniocdniegnaa.S Go.Proofs.Ytniniocdniegnaa.Hand Go.Proofs.YtniniocdniegnaaW.PrintWords Go.Proofs.YtniniocdniegnaaW.PrintLast Go.Proofs.YtniniocdniegnaaW.PrintMore
set_option linter.unusedVariables false
set_option linter.unusedSimpArgs false
theorem l1In_eq (a b c : Int) : spec_l1In.f a b c = some (decide (b ≤ a) && decide (a ≤ c)) := by
  unfold spec_l1In.f
  by_cases h : a ≥ b
  · rw [if_pos h]; simp [show b ≤ a from h]
  · rw [if_neg h]; simp [show ¬ b ≤ a from h]
theorem l1In_13 (a : Int) : spec_l1In.f a 1 3 = some (okT a) := l1In_eq a 1 3
theorem l1All_eq (a : Int) (h : okT a = true) : spec_l1All.f a = some (allW a) := by
  unfold spec_l1All.f allF; rw [if_pos h]
theorem sSetOk_eq (t s : Int) : spec_SetOk.f t s = some (okS t s) := by
  unfold spec_SetOk.f okS
  rw [l1In_13]
  simp only [Option.bind_some]
  cases h : okT t with
  | false => simp
  | true =>
    rw [l1All_eq t h]
    simp [l1In_eq]
theorem WorldsOf_eq (t : Int) : impl_WorldsOf.f t = some (nW t) := by
  unfold impl_WorldsOf.f nW
  rw [areThings_eq]
  simp only [Option.bind_some]
  cases h : okT t with
  | false => simp
  | true => rcases okT_cases h with rfl | rfl | rfl <;> decide +kernel
theorem sWorldsOf_eq (t : Int) : spec_WorldsOf.f t = some (nW t) := by
  unfold spec_WorldsOf.f nW
  rw [l1In_13]
  simp only [Option.bind_some]
  cases h : okT t with
  | false => simp
  | true => rcases okT_cases h with rfl | rfl | rfl <;> decide +kernel
theorem alive_eq : laws_alive.f = some true := by
  unfold laws_alive.f
  rw [WorldsOf_eq, WorldsOf_eq]
  decide +kernel
theorem whole_eq (t : Int) (h : okT t = true) : laws_whole.f t = some (allW t) := by
  unfold laws_whole.f allF; rw [if_pos h]
end Go.Proofs.Ytniniocdniegnaa.L
namespace Go.Proofs.Ytniniocdniegnaa.L
open Go.RowKit Go.Proofs.Ytniniocdniegnaa.B Go.Proofs.Ytniniocdniegnaa.S Go.Proofs.Ytniniocdniegnaa.Hand Go.Proofs.YtniniocdniegnaaW.PrintWords Go.Proofs.YtniniocdniegnaaW.PrintLast Go.Proofs.YtniniocdniegnaaW.PrintMore
set_option linter.unusedVariables false
set_option linter.unusedSimpArgs false
theorem xor_i64 (a b : Nat) (ha : a < 2 ^ 62) (hb : b < 2 ^ 62) : bits .xor .i64 a b = ((a ^^^ b : Nat) : Int) := by
  have hx : a ^^^ b < 2 ^ 62 := Nat.xor_lt_two_pow ha hb
  simp only [bits, BitVec.ofInt_natCast, BitVec.toNat_xor, BitVec.toNat_ofNat]
  have e : IntKind.i64.bits = 64 := rfl
  rw [e, Nat.mod_eq_of_lt (by omega), Nat.mod_eq_of_lt (by omega)]
  exact wraps_i64 _ (by omega) (by omega)
theorem xor_nonneg (x y : Int) (hx : 0 ≤ x) (hx2 : x < 4611686018427387904) (hy : 0 ≤ y) (hy2 : y < 4611686018427387904) : 0 ≤ bits .xor .i64 x y := by
  obtain ⟨a, rfl⟩ := Int.eq_ofNat_of_zero_le hx
  obtain ⟨b, rfl⟩ := Int.eq_ofNat_of_zero_le hy
  rw [xor_i64 a b (by omega) (by omega)]
  omega
/-- A reader's bytes. -/
structure Rd (b : List Int) : Prop where
  byte : ∀ x, x ∈ b → 0 ≤ x ∧ x ≤ 255
  len : b.length ≤ 2000
theorem Rd.at_ {b : List Int} (h : Rd b) (i : Int) : 0 ≤ rd b i ∧ rd b i ≤ 255 := by
  unfold rd
  rw [List.getD_eq_getElem?_getD]
  by_cases e : i.toNat < b.length
  · rw [List.getElem?_eq_getElem e]; exact h.byte _ (List.getElem_mem e)
  · rw [List.getElem?_eq_none (by omega)]; simp
theorem pick_ok {b : List Int} (hb : Rd b) (p n : Int) (hp : 0 ≤ p) (hp2 : p ≤ 1000000) (hn : 1 ≤ n) (hn2 : n ≤ 1000000) :
    ∃ v, 0 ≤ v ∧ v < n ∧ ∀ k, 1 ≤ k → spec_l20Rd_pick.f k b p n = some (v, p + 1) := by
  have e1 : wrap64 (p + 1) = p + 1 := w64 (by omega) (by omega)
  have e2 : wrap64 (p + 1 - 1) = p := by rw [w64 (by omega) (by omega)]; omega
  by_cases hl : (b.length : Int) = 0
  · refine ⟨0, by omega, by omega, fun k hk => ?_⟩
    obtain ⟨m, rfl⟩ : ∃ m, k = m + 1 := ⟨k - 1, by omega⟩
    unfold spec_l20Rd_pick.f
    rw [if_neg (by omega), e1]
    simp only [spec_l20Rd_pick.j0]
    rw [if_pos (by rw [hl]; rfl)]
  · have hlen : 0 < (b.length : Int) := by omega
    have hlen2 : (b.length : Int) ≤ 2000 := by have := hb.len; omega
    have hle : ¬ (((b.length : Int) == 0) = true) := fun h => hl (beq_iff_eq.1 h)
    by_cases hlt : p < (b.length : Int)
    · have hr := hb.at_ p
      refine ⟨Int.tmod (rd b p) n, Int.tmod_nonneg _ hr.1, Int.tmod_lt_of_pos _ (by omega), fun k hk => ?_⟩
      obtain ⟨m, rfl⟩ : ∃ m, k = m + 1 := ⟨k - 1, by omega⟩
      unfold spec_l20Rd_pick.f
      rw [if_neg (by omega), e1]
      simp only [spec_l20Rd_pick.j0]
      rw [if_neg hle, e2, if_pos hlt, if_pos hp, if_neg (by omega), w64 (n := rd b p) (by omega) (by omega)]
    · have m1 : 0 ≤ Int.tmod p (b.length : Int) := Int.tmod_nonneg _ hp
      have m2 : Int.tmod p (b.length : Int) < (b.length : Int) := Int.tmod_lt_of_pos _ hlen
      have e3 : wrap64 (wrap64 (p * 7) + 3) = p * 7 + 3 := by rw [w64 (n := p * 7) (by omega) (by omega), w64 (by omega) (by omega)]
      have m3 : 0 ≤ Int.tmod (p * 7 + 3) (b.length : Int) := Int.tmod_nonneg _ (by omega)
      have m4 : Int.tmod (p * 7 + 3) (b.length : Int) < (b.length : Int) := Int.tmod_lt_of_pos _ hlen
      have a1 := hb.at_ (Int.tmod p (b.length : Int))
      have a2 := hb.at_ (Int.tmod (p * 7 + 3) (b.length : Int))
      have d1 : 0 ≤ Int.tdiv p (b.length : Int) := Int.tdiv_nonneg hp (by omega)
      have d2 : Int.tdiv p (b.length : Int) ≤ p := by
        rw [Int.tdiv_eq_ediv_of_nonneg hp]
        exact Int.ediv_le_self _ hp
      generalize hA : rd b (Int.tmod p (b.length : Int)) = A at a1
      generalize hB : rd b (Int.tmod (p * 7 + 3) (b.length : Int)) = B at a2
      generalize hD : Int.tdiv p (b.length : Int) = D at d1 d2
      have eY : wrap64 (wrap64 (wrap64 (wrap64 (wrap64 A * 131) + wrap64 (wrap64 B * 1117)) + wrap64 (p * 29)) + wrap64 (wrap64 D * 53)) = A * 131 + B * 1117 + p * 29 + D * 53 := by
        rw [w64 (n := A) (by omega) (by omega), w64 (n := B) (by omega) (by omega), w64 (n := D) (by omega) (by omega), w64 (n := A * 131) (by omega) (by omega), w64 (n := B * 1117) (by omega) (by omega), w64 (n := p * 29) (by omega) (by omega), w64 (n := D * 53) (by omega) (by omega), w64 (n := A * 131 + B * 1117) (by omega) (by omega), w64 (n := A * 131 + B * 1117 + p * 29) (by omega) (by omega), w64 (by omega) (by omega)]
      generalize hY : A * 131 + B * 1117 + p * 29 + D * 53 = Y at eY
      have y1 : 0 ≤ Y := by omega
      have y2 : Y ≤ 200000000 := by omega
      have eq : Int.tdiv Y 64 = Y / 64 := Int.tdiv_eq_ediv_of_nonneg y1
      have hx : 0 ≤ Go.bits .xor .i64 Y (wrap64 (Int.tdiv Y 64)) := by
        rw [eq, w64 (by omega) (by omega)]
        exact xor_nonneg _ _ y1 (by omega) (by omega) (by omega)
      refine ⟨Int.tmod (Go.bits .xor .i64 Y (wrap64 (Int.tdiv Y 64))) n, Int.tmod_nonneg _ hx, Int.tmod_lt_of_pos _ (by omega), fun k hk => ?_⟩
      obtain ⟨m, rfl⟩ : ∃ m, k = m + 1 := ⟨k - 1, by omega⟩
      unfold spec_l20Rd_pick.f
      rw [if_neg (by omega), e1]
      simp only [spec_l20Rd_pick.j0]
      rw [if_neg hle, e2, if_neg hlt, if_neg hl, if_pos m1, if_pos m2, e3, if_pos m3, if_pos m4, if_neg (by omega), hA, hB, hD, eY]
theorem odd_ok {b : List Int} (hb : Rd b) (p n : Int) (hp : 0 ≤ p) (hp2 : p ≤ 1000000) (hn : 0 ≤ n) (hn2 : n ≤ 1000000) :
    ∃ (v : Bool) (p' : Int), p ≤ p' ∧ p' ≤ p + 1 ∧ ∀ k, 1 ≤ k → spec_l20Rd_odd.f k b p n = some (v, p') := by
  by_cases h : n > 0
  · obtain ⟨v, h0, h1, hv⟩ := pick_ok hb p n hp hp2 (by omega) hn2
    exact ⟨v == wrap64 (n - 1), p + 1, by omega, by omega, fun k hk => by unfold spec_l20Rd_odd.f; rw [if_pos h, hv k hk]; rfl⟩
  · exact ⟨false, p, by omega, by omega, fun k hk => by unfold spec_l20Rd_odd.f; rw [if_neg h]⟩
theorem things_ok {b : List Int} (hb : Rd b) (p n : Int) (hp : 0 ≤ p) (hp2 : p ≤ 900000) (hn : 0 ≤ n) (hn2 : n ≤ 1000000) :
    ∃ t p' : Int, p ≤ p' ∧ p' ≤ p + 2 ∧ -1 ≤ t ∧ t ≤ 4 ∧ ∀ k, 1 ≤ k → spec_l20Things.f k b p n = some (t, p') := by
  obtain ⟨v, p1, a1, a2, hv⟩ := odd_ok hb p n hp (by omega) hn hn2
  cases v with
  | true =>
    obtain ⟨i, i0, i1, hi⟩ := pick_ok hb p1 3 (by omega) (by omega) (by omega) (by omega)
    have hr : -1 ≤ rd [0, 4, -1] i ∧ rd [0, 4, -1] i ≤ 4 := by
      rcases (show i = 0 ∨ i = 1 ∨ i = 2 by omega) with rfl | rfl | rfl <;> decide
    refine ⟨rd [0, 4, -1] i, p1 + 1, by omega, by omega, hr.1, hr.2, fun k hk => ?_⟩
    unfold spec_l20Things.f
    rw [hv k hk]
    simp only [Option.bind_some, if_true]
    rw [hi k hk]
    simp only [Option.bind_some]
    rw [if_pos i0, if_pos (by simp; omega)]
  | false =>
    obtain ⟨i, i0, i1, hi⟩ := pick_ok hb p1 5 (by omega) (by omega) (by omega) (by omega)
    have hr : -1 ≤ rd [1, 2, 2, 3, 3] i ∧ rd [1, 2, 2, 3, 3] i ≤ 4 := by
      rcases (show i = 0 ∨ i = 1 ∨ i = 2 ∨ i = 3 ∨ i = 4 by omega) with rfl | rfl | rfl | rfl | rfl <;> decide
    refine ⟨rd [1, 2, 2, 3, 3] i, p1 + 1, by omega, by omega, hr.1, hr.2, fun k hk => ?_⟩
    unfold spec_l20Things.f
    rw [hv k hk]
    simp only [Option.bind_some]
    rw [if_neg (by simp), hi k hk]
    simp only [Option.bind_some]
    rw [if_pos i0, if_pos (by simp; omega)]
theorem open_ok (l0 : List Int) (hb : ∀ x ∈ l0, (Lit.int .u8 x).wf = true) : ∃ b, Rd b ∧ spec_l20Open.f l0 = some (b, 0) := by
  have hx : ∀ x ∈ l0, 0 ≤ x ∧ x ≤ 255 := fun x hx => by
    have := hb x hx
    simp [Lit.wf, IntKind.min, IntKind.max, IntKind.bits, IntKind.signed] at this
    omega
  unfold spec_l20Open.f
  by_cases h : (l0.length : Int) > 2000
  · rw [if_pos h, if_pos (by omega)]
    exact ⟨l0.take 2000, ⟨fun x hm => hx x (List.mem_of_mem_take hm), by simp; omega⟩, rfl⟩
  · rw [if_neg h]
    exact ⟨l0, ⟨hx, by omega⟩, rfl⟩
end Go.Proofs.Ytniniocdniegnaa.L
namespace Go.Proofs.Ytniniocdniegnaa.L
open Go.RowKit Go.Proofs.Ytniniocdniegnaa.B Go.Proofs.Ytniniocdniegnaa.S Go.Proofs.Ytniniocdniegnaa.Hand Go.Proofs.YtniniocdniegnaaW.PrintWords Go.Proofs.YtniniocdniegnaaW.PrintLast Go.Proofs.YtniniocdniegnaaW.PrintMore
set_option linter.unusedVariables false
set_option linter.unusedSimpArgs false
theorem bit_nat (a w : Nat) (hw : w ≤ 62) : spec_l1Bit.f (a : Int) (w : Int) = some (if a.testBit w = true then 1 else 0) := by
  unfold spec_l1Bit.f
  rw [if_pos (by omega), shr_nat a w hw, tmod2]
theorem both_l0 (a b : Nat) : ∀ (d w k : Nat), w + d = 8 → d < k →
    spec_l1Both.l0 k a b (sumN w (fun i => a.testBit i && b.testBit i) : Nat) w = some ((sumN 8 (fun i => a.testBit i && b.testBit i) : Nat) : Int) := by
  intro d
  induction d with
  | zero =>
    intro w k hw hk
    obtain ⟨m, rfl⟩ : ∃ m, k = m + 1 := ⟨k - 1, by omega⟩
    obtain rfl : w = 8 := by omega
    simp only [spec_l1Both.l0]
    rw [if_neg (by omega)]
  | succ d ih =>
    intro w k hw hk
    obtain ⟨m, rfl⟩ : ∃ m, k = m + 1 := ⟨k - 1, by omega⟩
    have hlt := sumN_lt w (fun i => a.testBit i && b.testBit i)
    have hp : 2 ^ w ≤ 2 ^ 7 := Nat.pow_le_pow_right (by decide) (by omega)
    have e1 : wrap64 ((w : Int) + 1) = ((w + 1 : Nat) : Int) := by rw [w64 (by omega) (by omega)]; simp
    have key : ∀ x y : Bool, wrap64 (((sumN w (fun i => a.testBit i && b.testBit i) : Nat) : Int) + shl .i64 (wrap64 ((if x = true then 1 else 0) * (if y = true then 1 else 0))) (w : Int)) = ((sumN w (fun i => a.testBit i && b.testBit i) + (if (x && y) = true then 2 ^ w else 0) : Nat) : Int) := by
      intro x y
      generalize sumN w (fun i => a.testBit i && b.testBit i) = q at hlt
      have s0 : shl .i64 (wrap64 0) (w : Int) = 0 := by
        have := shl_nat 0 w (by omega) (by omega)
        rw [Nat.zero_mul] at this
        rw [show wrap64 0 = 0 from w64 (by omega) (by omega)]
        exact this
      have s1 : shl .i64 (wrap64 1) (w : Int) = ((2 ^ w : Nat) : Int) := by
        have := shl_nat 1 w (by omega) (by omega)
        rw [Nat.one_mul] at this
        rw [show wrap64 1 = 1 from w64 (by omega) (by omega)]
        exact this
      generalize 2 ^ w = e at s1 hlt hp
      cases x <;> cases y
      · show wrap64 ((q : Int) + shl .i64 (wrap64 0) (w : Int)) = _
        rw [s0, w64 (by omega) (by omega)]; simp
      · show wrap64 ((q : Int) + shl .i64 (wrap64 0) (w : Int)) = _
        rw [s0, w64 (by omega) (by omega)]; simp
      · show wrap64 ((q : Int) + shl .i64 (wrap64 0) (w : Int)) = _
        rw [s0, w64 (by omega) (by omega)]; simp
      · show wrap64 ((q : Int) + shl .i64 (wrap64 1) (w : Int)) = _
        rw [s1, w64 (by omega) (by omega)]; simp
    have key := key (a.testBit w) (b.testBit w)
    rw [show sumN w (fun i => a.testBit i && b.testBit i) + (if (a.testBit w && b.testBit w) = true then 2 ^ w else 0) = sumN (w + 1) (fun i => a.testBit i && b.testBit i) from rfl] at key
    simp only [spec_l1Both.l0]
    rw [if_pos (by omega), bit_nat a w (by omega)]
    simp only [Option.bind_some]
    rw [bit_nat b w (by omega)]
    simp only [Option.bind_some]
    rw [if_pos (by omega), key, e1]
    exact ih (w + 1) m (by omega) (by omega)
/-- What is in both sets. -/
theorem both_nat (a b k : Nat) (ha : a < 256) (hk : 9 ≤ k) : spec_l1Both.f k (a : Int) (b : Int) = some ((a &&& b : Nat) : Int) := by
  have h := both_l0 a b 8 0 k (by omega) (by omega)
  have e : sumN 8 (fun i => a.testBit i && b.testBit i) = a &&& b := by
    have h2 : a &&& b < 2 ^ 8 := Nat.lt_of_le_of_lt Nat.and_le_left ha
    rw [← sumN_bits 8 (a &&& b) h2]
    exact sumN_congr _ _ _ fun i _ => by rw [Nat.testBit_and]
  rw [e] at h
  unfold spec_l1Both.f
  simpa [sumN] using h
theorem both_int (a b : Int) (k : Nat) (ha : 0 ≤ a) (ha2 : a < 256) (hb : 0 ≤ b) (hk : 9 ≤ k) : spec_l1Both.f k a b = some ((a.toNat &&& b.toNat : Nat) : Int) := by
  obtain ⟨x, rfl⟩ := Int.eq_ofNat_of_zero_le ha
  obtain ⟨y, rfl⟩ := Int.eq_ofNat_of_zero_le hb
  exact both_nat x y k (by omega) hk
theorem set_j0 {b : List Int} (hb : Rd b) (p n all : Int) (hp : 0 ≤ p) (hp2 : p ≤ 900000) (hn : 0 ≤ n) (hn2 : n ≤ 1000000) (ha : 1 ≤ all) (ha2 : all ≤ 255) :
    ∃ s p' : Int, p ≤ p' ∧ p' ≤ p + 5 ∧ -1 ≤ s ∧ s ≤ 256 ∧ ∀ k, 12 ≤ k → spec_l20Set.j0 k n all b p = some (s, p') := by
  have ew : wrap64 (all + 1) = all + 1 := w64 (by omega) (by omega)
  obtain ⟨v, p1, a1, a2, hv⟩ := odd_ok hb p n hp (by omega) hn hn2
  cases v with
  | true =>
    obtain ⟨i, i0, i1, hi⟩ := pick_ok hb p1 2 (by omega) (by omega) (by omega) (by omega)
    have hr : -1 ≤ rd [-1, all + 1] i ∧ rd [-1, all + 1] i ≤ 256 := by
      rcases (show i = 0 ∨ i = 1 by omega) with rfl | rfl
      · show -1 ≤ (-1 : Int) ∧ (-1 : Int) ≤ 256; omega
      · show -1 ≤ all + 1 ∧ all + 1 ≤ 256; omega
    refine ⟨rd [-1, all + 1] i, p1 + 1, by omega, by omega, hr.1, hr.2, fun k hk => ?_⟩
    obtain ⟨m, rfl⟩ : ∃ m, k = m + 1 := ⟨k - 1, by omega⟩
    simp only [spec_l20Set.j0]
    rw [hv m (by omega)]
    simp only [Option.bind_some, if_true]
    rw [hi m (by omega)]
    simp only [Option.bind_some]
    rw [if_pos i0, if_pos (by simp; omega), ew]
  | false =>
    obtain ⟨x, x0, x1, hx⟩ := pick_ok hb p1 256 (by omega) (by omega) (by omega) (by omega)
    obtain ⟨y, y0, y1, hy⟩ := pick_ok hb (p1 + 1) 3 (by omega) (by omega) (by omega) (by omega)
    obtain ⟨z, z0, z1, hz⟩ := pick_ok hb (p1 + 1 + 1) 256 (by omega) (by omega) (by omega) (by omega)
    have s0 : 0 ≤ Int.tmod x (all + 1) := Int.tmod_nonneg _ x0
    have s1 : Int.tmod x (all + 1) < all + 1 := Int.tmod_lt_of_pos _ (by omega)
    by_cases h : y = 0
    · have hbo := fun k hk => both_int (Int.tmod x (all + 1)) z k s0 (by omega) z0 hk
      have q0 : 0 ≤ (((Int.tmod x (all + 1)).toNat &&& z.toNat : Nat) : Int) := by omega
      generalize (((Int.tmod x (all + 1)).toNat &&& z.toNat : Nat) : Int) = q at hbo q0
      have r0 : 0 ≤ Int.tmod q (all + 1) := Int.tmod_nonneg _ q0
      have r1 : Int.tmod q (all + 1) < all + 1 := Int.tmod_lt_of_pos _ (by omega)
      refine ⟨Int.tmod q (all + 1), p1 + 1 + 1 + 1, by omega, by omega, by omega, by omega, fun k hk => ?_⟩
      obtain ⟨m, rfl⟩ : ∃ m, k = m + 1 := ⟨k - 1, by omega⟩
      simp only [spec_l20Set.j0]
      rw [hv m (by omega)]
      simp only [Option.bind_some]
      rw [if_neg (by simp), hx m (by omega)]
      simp only [Option.bind_some]
      rw [ew, if_neg (by omega), hy m (by omega)]
      simp only [Option.bind_some]
      rw [if_pos h, hz m (by omega)]
      simp only [Option.bind_some]
      rw [hbo m (by omega)]
      simp only [Option.bind_some]
    · refine ⟨Int.tmod x (all + 1), p1 + 1 + 1, by omega, by omega, by omega, by omega, fun k hk => ?_⟩
      obtain ⟨m, rfl⟩ : ∃ m, k = m + 1 := ⟨k - 1, by omega⟩
      simp only [spec_l20Set.j0]
      rw [hv m (by omega)]
      simp only [Option.bind_some]
      rw [if_neg (by simp), hx m (by omega)]
      simp only [Option.bind_some]
      rw [ew, if_neg (by omega), hy m (by omega)]
      simp only [Option.bind_some]
      rw [if_neg h]
theorem set_ok {b : List Int} (hb : Rd b) (p t n : Int) (hp : 0 ≤ p) (hp2 : p ≤ 900000) (hn : 0 ≤ n) (hn2 : n ≤ 1000000) :
    ∃ s p' : Int, p ≤ p' ∧ p' ≤ p + 5 ∧ -1 ≤ s ∧ s ≤ 256 ∧ ∀ k, 12 ≤ k → spec_l20Set.f k b p t n = some (s, p') := by
  cases h : okT t with
  | true =>
    have hr : 1 ≤ allW t ∧ allW t ≤ 255 := by rcases okT_cases h with rfl | rfl | rfl <;> decide
    obtain ⟨s, p', h1, h2, h3, h4, h5⟩ := set_j0 hb p n (allW t) hp hp2 hn hn2 hr.1 hr.2
    refine ⟨s, p', h1, h2, h3, h4, fun k hk => ?_⟩
    unfold spec_l20Set.f
    rw [l1In_13, h]
    simp only [Option.bind_some, if_true]
    rw [l1All_eq t h]
    simp only [Option.bind_some]
    exact h5 k hk
  | false =>
    obtain ⟨s, p', h1, h2, h3, h4, h5⟩ := set_j0 hb p n 1 hp hp2 hn hn2 (by omega) (by omega)
    refine ⟨s, p', h1, h2, h3, h4, fun k hk => ?_⟩
    unfold spec_l20Set.f
    rw [l1In_13, h]
    simp only [Option.bind_some]
    rw [if_neg (by simp)]
    exact h5 k hk
end Go.Proofs.Ytniniocdniegnaa.L
namespace Go.Proofs.Ytniniocdniegnaa.L
open Go.RowKit Go.Proofs.Ytniniocdniegnaa.B Go.Proofs.Ytniniocdniegnaa.S Go.Proofs.Ytniniocdniegnaa.Hand Go.Proofs.YtniniocdniegnaaW.PrintWords Go.Proofs.YtniniocdniegnaaW.PrintLast Go.Proofs.YtniniocdniegnaaW.PrintMore
set_option linter.unusedVariables false
set_option linter.unusedSimpArgs false
theorem sRankOk_l0 (t : Int) (l : List Int) (hl : l.length ≤ 2000000) : ∀ (d i k : Nat) (m : Int), i + d = l.length → d < k →
    spec_RankOk.l0 k t l m i = some ((l.drop i).all (fun x => decide (0 ≤ x) && decide (x ≤ 9)) && (okT t && (decide ((l.length : Int) = nW t) && (mnL m (l.drop i) == 0)))) := by
  intro d
  induction d with
  | zero =>
    intro i k m hi hk
    obtain ⟨q, rfl⟩ : ∃ q, k = q + 1 := ⟨k - 1, by omega⟩
    simp only [spec_RankOk.l0]
    rw [if_neg (by omega), List.drop_eq_nil_of_le (by omega), l1In_13]
    simp only [Option.bind_some]
    cases ht : okT t with
    | false => simp
    | true =>
      have hpos : 0 ≤ t := by rcases okT_cases ht with rfl | rfl | rfl <;> omega
      rw [if_pos rfl, if_pos hpos, (nW_pos ht).2.2]
      by_cases h : (l.length : Int) = nW t
      · rw [if_pos h]; simp [h, mnL]
      · rw [if_neg h]; simp [h]
  | succ d ih =>
    intro i k m hi hk
    obtain ⟨q, rfl⟩ : ∃ q, k = q + 1 := ⟨k - 1, by omega⟩
    simp only [spec_RankOk.l0]
    rw [if_pos (by omega), if_pos (by omega), l1In_eq, drop_cons l i (by omega)]
    simp only [Option.bind_some, List.all_cons]
    cases hx : (decide (0 ≤ rd l (i : Int)) && decide (rd l (i : Int) ≤ 9)) with
    | false => simp
    | true =>
      rw [if_pos rfl, next64 i (by omega), ih (i + 1) q _ (by omega) (by omega)]
      simp [mnL]
theorem sRankOk_eq (t : Int) (l : List Int) (k : Nat) (hl : l.length ≤ 2000000) (hk : l.length < k) : spec_RankOk.f k t l = some (okR t l) := by
  have h := sRankOk_l0 t l hl l.length 0 k 9 (by omega) hk
  unfold spec_RankOk.f
  rw [show ((0 : Nat) : Int) = 0 from rfl] at h
  rw [h]
  congr 1
  rw [List.drop_zero]
  unfold okR
  have a1 := mnL_le l 9
  have a2 := mnL_mem l 9
  rw [Bool.eq_iff_iff]
  simp only [Bool.and_eq_true, List.all_eq_true, List.any_eq_true, decide_eq_true_eq, beq_iff_eq]
  constructor
  · rintro ⟨h1, h2, h3, h4⟩
    rcases a2 with h | h
    · omega
    · exact ⟨h2, h3, h1, _, h, h4⟩
  · rintro ⟨h2, h3, h1, x, hx, rfl⟩
    refine ⟨h1, h2, h3, ?_⟩
    have := a1.2 0 hx
    rcases a2 with h | h
    · have := h1 _ hx; omega
    · have := h1 _ h; omega
end Go.Proofs.Ytniniocdniegnaa.L
namespace Go.Proofs.Ytniniocdniegnaa.L
open Go.RowKit Go.Proofs.Ytniniocdniegnaa.Hand Go.Proofs.YtniniocdniegnaaW.PrintWords
set_option linter.unusedVariables false
set_option linter.unusedSimpArgs false
theorem rd_mem (l : List Int) (i : Nat) (h : i < l.length) : rd l (i : Int) ∈ l := by
  unfold rd
  rw [Int.toNat_natCast, List.getD_eq_getElem?_getD, List.getElem?_eq_getElem h]; exact List.getElem_mem h
theorem leastN_le (l : List Int) (s : Int) : ∀ n, leastN l s n ≤ 10 ∧ ∀ v : Nat, v < n → bit s v = true → leastN l s n ≤ rd l (v : Int)
  | 0 => ⟨Int.le_refl _, fun v hv => absurd hv (by omega)⟩
  | n + 1 => by
    obtain ⟨h1, h2⟩ := leastN_le l s n
    simp only [leastN]
    cases hb : bit s n with
    | true =>
      rw [if_pos rfl]
      have hm : mn (leastN l s n) (rd l (n : Int)) ≤ leastN l s n ∧ mn (leastN l s n) (rd l (n : Int)) ≤ rd l (n : Int) := by unfold mn; split <;> omega
      refine ⟨Int.le_trans hm.1 h1, fun v hv hbv => ?_⟩
      rcases Nat.lt_or_ge v n with h3 | h3
      · exact Int.le_trans hm.1 (h2 v h3 hbv)
      · obtain rfl : v = n := by omega
        exact hm.2
    | false =>
      rw [if_neg (by simp)]
      refine ⟨h1, fun v hv hbv => ?_⟩
      rcases Nat.lt_or_ge v n with h3 | h3
      · exact h2 v h3 hbv
      · obtain rfl : v = n := by omega
        rw [hb] at hbv; cases hbv
end Go.Proofs.Ytniniocdniegnaa.L
namespace Go.Proofs.Ytniniocdniegnaa.L
open Go.RowKit Go.Proofs.Ytniniocdniegnaa.B Go.Proofs.Ytniniocdniegnaa.S Go.Proofs.Ytniniocdniegnaa.Hand Go.Proofs.YtniniocdniegnaaW.PrintWords Go.Proofs.YtniniocdniegnaaW.PrintLast Go.Proofs.YtniniocdniegnaaW.PrintMore
set_option linter.unusedVariables false
set_option linter.unusedSimpArgs false
/-- SurpriseOf. -/
def surp (t : Int) (l : List Int) (s : Int) : Int := if okR t l = true ∧ okS t s = true then least l s else -1
theorem sSurp_l0 (a : Nat) (l : List Int) (hl : l.length ≤ 60) : ∀ (d i k : Nat), i + d = l.length → d < k → spec_SurpriseOf.l0 k l a (leastN l a i) i = some (least l a) := by
  intro d
  induction d with
  | zero =>
    intro i k hi hk
    obtain ⟨m, rfl⟩ : ∃ m, k = m + 1 := ⟨k - 1, by omega⟩
    obtain rfl : i = l.length := by omega
    simp only [spec_SurpriseOf.l0]
    rw [if_neg (by omega)]; rfl
  | succ d ih =>
    intro i k hi hk
    obtain ⟨m, rfl⟩ : ∃ m, k = m + 1 := ⟨k - 1, by omega⟩
    have hb : bit (a : Int) i = a.testBit i := by unfold bit; simp
    have ih1 := ih (i + 1) m (by omega) (by omega)
    simp only [leastN, hb] at ih1
    simp only [spec_SurpriseOf.l0]
    rw [if_pos (by omega), bit_nat a i (by omega), next64 i (by omega)]
    simp only [Option.bind_some]
    cases ht : a.testBit i with
    | true => rw [ht] at ih1; rw [if_pos rfl, if_pos rfl, if_pos (by omega)]; simpa using ih1
    | false => rw [ht] at ih1; rw [if_neg (by simp)] at ih1; rw [if_neg (by simp)]; exact ih1
theorem sSurpriseOf_eq (t : Int) (l : List Int) (s : Int) (k : Nat) (hl : l.length ≤ 2000000) (hk : l.length + 20 < k) : spec_SurpriseOf.f k t l s = some (surp t l s) := by
  unfold spec_SurpriseOf.f surp
  rw [sRankOk_eq t l k hl (by omega)]
  simp only [Option.bind_some]
  obtain ⟨q, rfl⟩ : ∃ q, k = q + 1 := ⟨k - 1, by omega⟩
  cases hr : okR t l with
  | false => simp [spec_SurpriseOf.j0]
  | true =>
    rw [if_pos rfl, sSetOk_eq]
    simp only [Option.bind_some]
    cases hs : okS t s with
    | false => simp [spec_SurpriseOf.j0]
    | true =>
      obtain ⟨h1, h2, h3, h4, h5, h6⟩ := okR_cases hr
      obtain ⟨g1, g2, g3, g4⟩ := okS_cases hs
      obtain ⟨a, rfl⟩ := Int.eq_ofNat_of_zero_le g2
      simp only [spec_SurpriseOf.j0]
      rw [if_neg (by simp), if_pos (by simp)]
      exact sSurp_l0 a l (by omega) l.length 0 q (by omega) (by omega)
theorem SurpriseOf_eq (t : Int) (l : List Int) (s : Int) (k : Nat) (hk : 30 ≤ k) : impl_SurpriseOf.f k t l s = some (surp t l s) := by
  unfold impl_SurpriseOf.f surp
  rw [isRank_eq t l k (by omega)]
  simp only [Option.bind_some]
  cases hr : okR t l with
  | false => simp
  | true =>
    rw [if_pos rfl, isSet_eq]
    simp only [Option.bind_some]
    cases hs : okS t s with
    | false => simp
    | true =>
      obtain ⟨h1, h2, h3, h4, h5, h6⟩ := okR_cases hr
      obtain ⟨g1, g2, g3, g4⟩ := okS_cases hs
      rw [if_pos rfl, surpriseOf_eq l s k g2 (by omega) (by omega) (by omega)]
      simp
end Go.Proofs.Ytniniocdniegnaa.L
namespace Go.Proofs.Ytniniocdniegnaa.L
open Go.RowKit Go.Proofs.Ytniniocdniegnaa.B Go.Proofs.Ytniniocdniegnaa.S Go.Proofs.Ytniniocdniegnaa.Hand Go.Proofs.YtniniocdniegnaaW.PrintWords Go.Proofs.YtniniocdniegnaaW.PrintLast Go.Proofs.YtniniocdniegnaaW.PrintMore
set_option linter.unusedVariables false
set_option linter.unusedSimpArgs false
theorem par (x : Nat) : x % 2 = if x.testBit 0 = true then 1 else 0 := by
  rw [Nat.testBit_zero]
  rcases Nat.mod_two_eq_zero_or_one x with h | h <;> simp [h]
theorem or_add (a b : Nat) : (a ||| b) + (a &&& b) = a + b := by
  induction a using Nat.strongRecOn generalizing b with
  | _ a ih =>
    rcases Nat.eq_zero_or_pos a with rfl | h
    · simp
    · have h1 := ih (a / 2) (by omega) (b / 2)
      have e1 : (a ||| b) / 2 = a / 2 ||| b / 2 := Nat.or_div_two
      have e2 : (a &&& b) / 2 = a / 2 &&& b / 2 := Nat.and_div_two
      have e3 : (a ||| b) % 2 + (a &&& b) % 2 = a % 2 + b % 2 := by
        have t1 := par (a ||| b)
        have t2 := par (a &&& b)
        have t3 := par a
        have t4 := par b
        rw [t1, t2, t3, t4, Nat.testBit_or, Nat.testBit_and]
        cases a.testBit 0 <;> cases b.testBit 0 <;> rfl
      have d1 := Nat.div_add_mod (a ||| b) 2
      have d2 := Nat.div_add_mod (a &&& b) 2
      omega
theorem allW_pow {t : Int} (h : okT t = true) : (allW t).toNat + 1 = 2 ^ (nW t).toNat ∧ (nW t).toNat ≤ 8 ∧ 2 ≤ (nW t).toNat := by
  rcases okT_cases h with rfl | rfl | rfl <;> decide
theorem bit_step (q i : Nat) (P : Nat → Bool) (hi : i ≤ 8) (hP : P i = true) : wrap64 ((sumN i P : Nat) + shl .i64 1 (i : Int)) = ((sumN (i + 1) P : Nat) : Int) := by
  have hlt := sumN_lt i P
  have hp : 2 ^ i ≤ 2 ^ 8 := Nat.pow_le_pow_right (by decide) hi
  have s1 : shl .i64 1 (i : Int) = ((2 ^ i : Nat) : Int) := by
    have := shl_nat 1 i (by omega) (by omega)
    rw [Nat.one_mul] at this
    exact this
  have e : sumN (i + 1) P = sumN i P + 2 ^ i := by simp [sumN, hP]
  rw [s1, e]
  generalize 2 ^ i = m at *
  rw [w64 (by omega) (by omega)]; simp
theorem leastN_ge (l : List Int) (s : Int) (h : ∀ x ∈ l, 0 ≤ x) : ∀ n, n ≤ l.length → 0 ≤ leastN l s n
  | 0, _ => by unfold leastN; decide
  | n + 1, hn => by
    have ih := leastN_ge l s h n (by omega)
    have hx := h _ (by unfold rd; rw [Int.toNat_natCast, List.getD_eq_getElem?_getD, List.getElem?_eq_getElem (show n < l.length by omega)]; exact List.getElem_mem _ : rd l (n : Int) ∈ l)
    unfold leastN
    split
    · unfold mn; split <;> omega
    · exact ih
end Go.Proofs.Ytniniocdniegnaa.L
namespace Go.Proofs.Ytniniocdniegnaa.L
open Go.RowKit Go.Proofs.Ytniniocdniegnaa.B Go.Proofs.Ytniniocdniegnaa.S Go.Proofs.Ytniniocdniegnaa.Hand Go.Proofs.YtniniocdniegnaaW.PrintWords Go.Proofs.YtniniocdniegnaaW.PrintLast Go.Proofs.YtniniocdniegnaaW.PrintMore
set_option linter.unusedVariables false
set_option linter.unusedSimpArgs false
/-- A short row of small numbers. -/
def Few (l : List Int) : Prop := l.length ≤ 9 ∧ ∀ x ∈ l, -1 ≤ x ∧ x ≤ 20
theorem rd_few {l : List Int} {lo hi : Int} (h : ∀ x ∈ l, lo ≤ x ∧ x ≤ hi) (i : Nat) (hi' : i < l.length) : lo ≤ rd l (i : Int) ∧ rd l (i : Int) ≤ hi := h _ (rd_mem l i hi')
theorem rank_l1 (n : Nat) (hn : n ≤ 8) (b : List Int) (p : Int) : ∀ (d i : Nat) (x7 : List Int), i + d = n → x7.length = n → (∀ x ∈ x7, -1 ≤ x ∧ x ≤ 10 + (i : Int)) →
    ∃ l, Few l ∧ ∀ k, d < k → spec_l20Rank.l1 k x7 n i b p = some (l, p) := by
  intro d
  induction d with
  | zero =>
    intro i x7 hi h7 hx
    refine ⟨x7, ⟨by omega, fun x hx' => by have := hx x hx'; omega⟩, fun k hk => ?_⟩
    obtain ⟨m, rfl⟩ : ∃ m, k = m + 1 := ⟨k - 1, by omega⟩
    simp only [spec_l20Rank.l1]
    rw [if_neg (by omega)]
  | succ d ih =>
    intro i x7 hi h7 hx
    have hr := rd_few hx i (by omega)
    have ew : wrap64 (rd x7 (i : Int) + 1) = rd x7 (i : Int) + 1 := w64 (by omega) (by omega)
    obtain ⟨l, hl, hk2⟩ := ih (i + 1) (x7.set i (rd x7 (i : Int) + 1)) (by omega) (by simp [h7]) (fun x hx' => by
      rcases List.mem_or_eq_of_mem_set hx' with h | h
      · have := hx x h; omega
      · omega)
    refine ⟨l, hl, fun k hk => ?_⟩
    obtain ⟨m, rfl⟩ : ∃ m, k = m + 1 := ⟨k - 1, by omega⟩
    simp only [spec_l20Rank.l1]
    rw [if_pos (by omega), if_pos (by omega), if_pos (by omega), ew, next64 i (by omega), Int.toNat_natCast]
    exact hk2 m (by omega)
theorem rank_l0 {b : List Int} (hb : Rd b) (x2 x9 : Int) (n : Nat) (hn : 1 ≤ n) (hn2 : n ≤ 8) (h2 : 0 ≤ x2) (h22 : x2 ≤ 1000000) (h9 : 0 ≤ x9) (h92 : x9 < 3) : ∀ (d : Nat) (p : Int) (x7 : List Int), x7.length + d = n → 0 ≤ p → p ≤ 950000 - d → (∀ x ∈ x7, 0 ≤ x ∧ x ≤ 10) →
    ∃ l p', Few l ∧ p ≤ p' ∧ p' ≤ p + d + 5 ∧ ∀ k, d + 20 ≤ k → spec_l20Rank.l0 k x2 x7 n x9 x7.length b p = some (l, p') := by
  intro d
  induction d with
  | zero =>
    intro p x7 h7 hp hp2 hx
    obtain ⟨v, v0, v1, hv⟩ := pick_ok hb p (n : Int) hp (by omega) (by omega) (by omega)
    obtain ⟨o, p1, o1, o2, ho⟩ := odd_ok hb (p + 1) x2 (by omega) (by omega) h2 h22
    have hset : ∀ x ∈ x7.set v.toNat 0, 0 ≤ x ∧ x ≤ 10 := fun x hx' => by
      rcases List.mem_or_eq_of_mem_set hx' with h | h
      · exact hx x h
      · omega
    have hlen : (x7.set v.toNat 0).length = n := by rw [List.length_set]; omega
    have start : ∀ k, 20 ≤ k → spec_l20Rank.l0 k x2 x7 n x9 x7.length b p = (spec_l20Rd_odd.f (k - 1) b (p + 1) x2).bind fun bt202 => (if bt202.1 = true then ((spec_l20Rd_pick.f (k - 1) b bt202.2 3).bind fun bt204 => (if bt204.1 = 0 then (if (x7.set v.toNat 0).length < 17592186044416 then (some (((x7.set v.toNat 0) ++ [0]), bt204.2)) else (none)) else (if bt204.1 = 1 then (if 0 < (x7.length : Int) then (some (((x7.set v.toNat 0).set (0 : Int).toNat (-1)), bt204.2)) else (none)) else (spec_l20Rank.l1 (k - 1) (x7.set v.toNat 0) n 0 b bt204.2)))) else (some ((x7.set v.toNat 0), bt202.2))) := by
      intro k hk
      obtain ⟨m, rfl⟩ : ∃ m, k = m + 1 := ⟨k - 1, by omega⟩
      simp only [spec_l20Rank.l0]
      rw [if_neg (by omega), hv m (by omega)]
      simp only [Option.bind_some]
      rw [if_pos v0, if_pos (by omega)]
      rfl
    generalize x7.set v.toNat 0 = y at *
    cases o with
    | false =>
      refine ⟨y, p1, ⟨by omega, fun x hx' => by have := hset x hx'; omega⟩, by omega, by omega, fun k hk => ?_⟩
      rw [start k (by omega), ho (k - 1) (by omega)]; rfl
    | true =>
      obtain ⟨u, u0, u1, hu⟩ := pick_ok hb p1 3 (by omega) (by omega) (by omega) (by omega)
      rcases (show u = 0 ∨ u = 1 ∨ u = 2 by omega) with rfl | rfl | rfl
      · refine ⟨y ++ [0], p1 + 1, ⟨by rw [List.length_append]; simp; omega, fun x hx' => by
          rcases List.mem_append.1 hx' with h | h
          · have := hset x h; omega
          · simp at h; omega⟩, by omega, by omega, fun k hk => ?_⟩
        rw [start k (by omega), ho (k - 1) (by omega)]
        simp only [Option.bind_some, if_true]
        rw [hu (k - 1) (by omega)]
        simp only [Option.bind_some, if_true]
        rw [if_pos (by omega)]
      · refine ⟨y.set 0 (-1), p1 + 1, ⟨by rw [List.length_set]; omega, fun x hx' => by
          rcases List.mem_or_eq_of_mem_set hx' with h | h
          · have := hset x h; omega
          · omega⟩, by omega, by omega, fun k hk => ?_⟩
        rw [start k (by omega), ho (k - 1) (by omega)]
        simp only [Option.bind_some, if_true]
        rw [hu (k - 1) (by omega)]
        simp only [Option.bind_some]
        rw [if_neg (by omega), if_pos trivial, if_pos (by omega)]; rfl
      · obtain ⟨l, hl, hk2⟩ := rank_l1 n hn2 b (p1 + 1) n 0 y (by omega) hlen (fun x hx' => by have := hset x hx'; omega)
        refine ⟨l, p1 + 1, hl, by omega, by omega, fun k hk => ?_⟩
        rw [start k (by omega), ho (k - 1) (by omega)]
        simp only [Option.bind_some, if_true]
        rw [hu (k - 1) (by omega)]
        simp only [Option.bind_some]
        rw [if_neg (by omega), if_neg (by omega)]
        exact hk2 (k - 1) (by omega)
  | succ d ih =>
    intro p x7 h7 hp hp2 hx
    obtain ⟨w, w0, w1, hw⟩ : ∃ w : Int, rd [2, 4, 10] x9 = w ∧ 1 ≤ w ∧ w ≤ 10 := by
      rcases (show x9 = 0 ∨ x9 = 1 ∨ x9 = 2 by omega) with rfl | rfl | rfl <;> exact ⟨_, rfl, by decide, by decide⟩
    obtain ⟨v, v0, v1, hv⟩ := pick_ok hb p w hp (by omega) (by omega) (by omega)
    obtain ⟨l, p', hl, q1, q2, hk2⟩ := ih (p + 1) (x7 ++ [v]) (by rw [List.length_append]; simp; omega) (by omega) (by omega) (fun x hx' => by
      rcases List.mem_append.1 hx' with h | h
      · exact hx x h
      · simp at h; omega)
    refine ⟨l, p', hl, by omega, by omega, fun k hk => ?_⟩
    obtain ⟨m, rfl⟩ : ∃ m, k = m + 1 := ⟨k - 1, by omega⟩
    have e7 : (((x7 ++ [v]).length : Nat) : Int) = ((x7.length + 1 : Nat) : Int) := by simp
    have hk3 := hk2 m (by omega)
    rw [e7] at hk3
    simp only [spec_l20Rank.l0]
    rw [if_pos (by omega)]
    simp only [Option.bind_some]
    rw [if_pos h9, if_pos (by simp; omega), w0, hv m (by omega)]
    simp only [Option.bind_some]
    rw [if_pos (by omega), next64 x7.length (by omega)]
    exact hk3
theorem rank_ok {b : List Int} (hb : Rd b) (p t n : Int) (hp : 0 ≤ p) (hp2 : p ≤ 900000) (hn : 0 ≤ n) (hn2 : n ≤ 1000000) :
    ∃ l p', Few l ∧ p ≤ p' ∧ p' ≤ p + 20 ∧ ∀ k, 40 ≤ k → spec_l20Rank.f k b p t n = some (l, p') := by
  obtain ⟨m, hm, m1, m2⟩ : ∃ m : Nat, mx (nW t) 1 = (m : Int) ∧ 1 ≤ m ∧ m ≤ 8 := by
    cases h : okT t with
    | true => rcases okT_cases h with rfl | rfl | rfl <;> exact ⟨_, rfl, by decide, by decide⟩
    | false =>
      refine ⟨1, ?_, by omega, by omega⟩
      unfold nW; rw [h]; rfl
  obtain ⟨v, v0, v1, hv⟩ := pick_ok hb p 3 hp (by omega) (by omega) (by omega)
  obtain ⟨l, p', hl, q1, q2, hk2⟩ := rank_l0 hb n v m m1 m2 hn hn2 v0 v1 m (p + 1) [] (by simp) (by omega) (by omega) (fun x hx => by cases hx)
  refine ⟨l, p', hl, by omega, by omega, fun k hk => ?_⟩
  unfold spec_l20Rank.f
  rw [sWorldsOf_eq]
  simp only [Option.bind_some]
  rw [hv k (by omega), hm]
  simp only [Option.bind_some]
  exact hk2 k (by omega)
theorem ranked_ok {b : List Int} (hb : Rd b) (p : Int) (hp : 0 ≤ p) (hp2 : p ≤ 100000) :
    ∃ (t : Int) (l : List Int) (s p' : Int), -1 ≤ t ∧ t ≤ 4 ∧ Few l ∧ -1 ≤ s ∧ s ≤ 256 ∧ p ≤ p' ∧ p' ≤ p + 40 ∧ ∀ k, 60 ≤ k → spec_l20Ranked.f k b p = some (t, l, s, p') := by
  obtain ⟨t, p1, h1, h2, t0, t1, ht⟩ := things_ok hb p 20 hp (by omega) (by omega) (by omega)
  obtain ⟨l, p2, hl, h3, h4, hr⟩ := rank_ok hb p1 t 16 (by omega) (by omega) (by omega) (by omega)
  obtain ⟨s, p3, h5, h6, s0, s1, hs⟩ := set_ok hb p2 t 20 (by omega) (by omega) (by omega) (by omega)
  refine ⟨t, l, s, p3, t0, t1, hl, s0, s1, by omega, by omega, fun k hk => ?_⟩
  unfold spec_l20Ranked.f
  rw [ht k (by omega)]
  simp only [Option.bind_some]
  rw [hr k (by omega)]
  simp only [Option.bind_some]
  rw [hs k (by omega)]
  simp only [Option.bind_some]
end Go.Proofs.Ytniniocdniegnaa.L
namespace Go.Proofs.Ytniniocdniegnaa.L
open Go.RowKit Go.Proofs.Ytniniocdniegnaa.B Go.Proofs.Ytniniocdniegnaa.S Go.Proofs.Ytniniocdniegnaa.Hand Go.Proofs.YtniniocdniegnaaW.PrintWords Go.Proofs.YtniniocdniegnaaW.PrintLast Go.Proofs.YtniniocdniegnaaW.PrintMore
set_option linter.unusedVariables false
set_option linter.unusedSimpArgs false
theorem set_nat {t s : Int} (h : okS t s = true) : ∃ a : Nat, s = (a : Int) ∧ a < 256 ∧ (a : Int) ≤ allW t := by
  obtain ⟨g1, g2, g3, g4⟩ := okS_cases h
  exact ⟨s.toNat, by omega, by omega, by omega⟩
theorem okS_or {t : Int} (ht : okT t = true) (a b : Nat) (h : (a : Int) ≤ allW t) (k : (b : Int) ≤ allW t) : okS t ((a ||| b : Nat) : Int) = true := by
  obtain ⟨h1, h2, h3⟩ := allW_pow ht
  have := Nat.or_lt_two_pow (n := (nW t).toNat) (show a < _ by omega) (show b < _ by omega)
  unfold okS
  rw [ht]
  simp
  omega
end Go.Proofs.Ytniniocdniegnaa.L
namespace Go.Proofs.Ytniniocdniegnaa.L
open Go.RowKit Go.Proofs.Ytniniocdniegnaa.B Go.Proofs.Ytniniocdniegnaa.S Go.Proofs.Ytniniocdniegnaa.Hand Go.Proofs.YtniniocdniegnaaW.PrintWords Go.Proofs.YtniniocdniegnaaW.PrintLast Go.Proofs.YtniniocdniegnaaW.PrintMore
set_option linter.unusedVariables false
set_option linter.unusedSimpArgs false
theorem exists_bit {s : Nat} (h : s ≠ 0) : ∃ i, s.testBit i = true := Nat.exists_testBit_of_ne_zero h
end Go.Proofs.Ytniniocdniegnaa.L
namespace Go.Proofs.Ytniniocdniegnaa.L
open Go.RowKit Go.Proofs.Ytniniocdniegnaa.B Go.Proofs.Ytniniocdniegnaa.S Go.Proofs.Ytniniocdniegnaa.Hand Go.Proofs.YtniniocdniegnaaW.PrintWords Go.Proofs.YtniniocdniegnaaW.PrintLast Go.Proofs.YtniniocdniegnaaW.PrintMore
set_option linter.unusedVariables false
set_option linter.unusedSimpArgs false
theorem lboth_l0 (a b : Nat) : ∀ (d i k : Nat), i + d = 8 → d < k →
    laws_both.l0 k a b (sumN i (fun w => a.testBit w && b.testBit w) : Nat) i = some ((sumN 8 (fun w => a.testBit w && b.testBit w) : Nat) : Int) := by
  intro d
  induction d with
  | zero =>
    intro i k hi hk
    obtain ⟨q, rfl⟩ : ∃ q, k = q + 1 := ⟨k - 1, by omega⟩
    obtain rfl : i = 8 := by omega
    simp only [laws_both.l0]
    rw [if_neg (by omega)]
  | succ d ih =>
    intro i k hi hk
    obtain ⟨q, rfl⟩ : ∃ q, k = q + 1 := ⟨k - 1, by omega⟩
    have ih1 := ih (i + 1) q (by omega) (by omega)
    simp only [laws_both.l0]
    rw [if_pos (by omega), if_pos (by omega), shr_nat a i (by omega), tmod2, shr_nat b i (by omega), tmod2, next64 i (by omega)]
    cases h1 : a.testBit i with
    | false =>
      rw [if_neg (by simp)]
      rw [sumN_skip i _ (by simp [h1])] at ih1
      exact ih1
    | true =>
      rw [if_pos (by simp)]
      cases h2 : b.testBit i with
      | false =>
        rw [if_neg (by simp)]
        rw [sumN_skip i _ (by simp [h2])] at ih1
        exact ih1
      | true =>
        rw [if_pos (by simp), bit_step 0 i (fun w => a.testBit w && b.testBit w) (by omega) (by simp [h1, h2])]
        exact ih1
theorem lboth_nat (a b k : Nat) (ha : a < 256) (hk : 9 ≤ k) : laws_both.f k (a : Int) (b : Int) = some ((a &&& b : Nat) : Int) := by
  have h := lboth_l0 a b 8 0 k (by omega) (by omega)
  have e : sumN 8 (fun i => a.testBit i && b.testBit i) = a &&& b := by
    have h2 : a &&& b < 2 ^ 8 := Nat.lt_of_le_of_lt Nat.and_le_left ha
    rw [← sumN_bits 8 (a &&& b) h2]
    exact sumN_congr _ _ _ fun i _ => by rw [Nat.testBit_and]
  rw [e] at h
  unfold laws_both.f
  simpa [sumN] using h
theorem leither_nat (a b k : Nat) (ha : a < 256) (hb : b < 256) (hk : 9 ≤ k) : laws_either.f k (a : Int) (b : Int) = some ((a ||| b : Nat) : Int) := by
  unfold laws_either.f
  rw [lboth_nat a b k ha hk]
  simp only [Option.bind_some]
  have h := or_add a b
  have h2 : a &&& b ≤ a := Nat.and_le_left
  rw [w64 (n := (a : Int) + b) (by omega) (by omega), w64 (by omega) (by omega)]
  congr 1; omega
theorem bit_natc (a w : Nat) : bit (a : Int) w = a.testBit w := by unfold bit; simp
theorem least_or (l : List Int) (a b : Nat) : ∀ n, leastN l ((a ||| b : Nat) : Int) n = mn (leastN l (a : Int) n) (leastN l (b : Int) n)
  | 0 => by unfold leastN mn; simp
  | n + 1 => by
    have ih := least_or l a b n
    unfold leastN
    rw [ih, bit_natc, bit_natc, bit_natc, Nat.testBit_or]
    cases a.testBit n <;> cases b.testBit n <;> simp only [Bool.or_self, Bool.or_true, Bool.or_false, Bool.true_or, Bool.false_or, if_true, if_false, Bool.false_eq_true] <;> unfold mn <;> (repeat' split) <;> omega
theorem least_empty (l : List Int) : ∀ n, leastN l 0 n = 10
  | 0 => rfl
  | n + 1 => by
    have := bit_natc 0 n
    unfold leastN
    rw [least_empty l n, show bit 0 n = false by simpa using this]; rfl
/-- Only of nothing all ranks are missing. -/
theorem least_ten {t : Int} {l : List Int} (hr : okR t l = true) (a : Nat) (ha : (a : Int) ≤ allW t) : (least l (a : Int) = 10) ↔ a = 0 := by
  obtain ⟨g1, g2, g3, g4, g5, g6⟩ := okR_cases hr
  obtain ⟨p1, p2, p3⟩ := allW_pow g1
  constructor
  · intro h
    by_cases h0 : a = 0
    · exact h0
    · exfalso
      obtain ⟨i, hi⟩ := exists_bit h0
      have hil : i < l.length := by
        by_cases h : i < l.length
        · exact h
        · have := Nat.testBit_lt_two_pow (x := a) (i := i) (Nat.lt_of_lt_of_le (show a < 2 ^ (nW t).toNat by omega) (Nat.pow_le_pow_right (n := 2) (by decide) (by omega)))
          rw [this] at hi; cases hi
      have h1 := (leastN_le l (a : Int) l.length).2 i hil (by rw [bit_natc]; exact hi)
      have h2 := (g3 _ (rd_mem l i hil)).2
      unfold least at h
      omega
  · rintro rfl
    exact least_empty l l.length
theorem least_nn {t : Int} {l : List Int} (hr : okR t l = true) (s : Int) : 0 ≤ least l s := by
  obtain ⟨g1, g2, g3, g4, g5, g6⟩ := okR_cases hr
  exact leastN_ge l s (fun x hx => (g3 x hx).1) l.length (Nat.le_refl _)
end Go.Proofs.Ytniniocdniegnaa.L
namespace Go.Proofs.Ytniniocdniegnaa.Pure
open Go.RowKit Go.Proofs.Ytniniocdniegnaa.B Go.Proofs.Ytniniocdniegnaa.S Go.Proofs.Ytniniocdniegnaa.Hand Go.Proofs.Ytniniocdniegnaa.L Go.Proofs.YtniniocdniegnaaW.PrintWords Go.Proofs.YtniniocdniegnaaW.PrintLast Go.Proofs.YtniniocdniegnaaW.PrintMore
set_option linter.unusedVariables false
set_option linter.unusedSimpArgs false
theorem draw_ok (l0 : List Int) (hb : ∀ x ∈ l0, (Lit.int .u8 x).wf = true) : ∃ (t : Int) (l : List Int) (s : Int), -1 ≤ t ∧ t ≤ 4 ∧ Few l ∧ -1 ≤ s ∧ s ≤ 256 ∧ ∀ k, 100 ≤ k → spec_DrawSurpriseOf.f k l0 = some (t, l, s) := by
  obtain ⟨b, hB, ho⟩ := open_ok l0 hb
  obtain ⟨t, l, s, p, t0, t1, hl, s0, s1, _, _, hr⟩ := ranked_ok hB 0 (by omega) (by omega)
  refine ⟨t, l, s, t0, t1, hl, s0, s1, fun k hk => ?_⟩
  unfold spec_DrawSurpriseOf.f
  rw [ho]
  simp only [Option.bind_some]
  rw [hr k (by omega)]
  simp only [Option.bind_some]
theorem FnSurpriseOf : laws_FnSurpriseOf.Pure := by
  intro l0 l1 _ _ hb _ _ _
  obtain ⟨k, hk⟩ : ∃ k : Nat, 100000 ≤ k := ⟨_, Nat.le_refl _⟩
  refine ⟨k + 1, ?_⟩
  unfold laws_FnSurpriseOf.f
  by_cases hl : (l0.length : Int) > 1048576
  · rw [if_pos hl]
    simp [laws_FnSurpriseOf.j0]
  · rw [if_neg hl]
    by_cases hl1 : (l1.length : Int) > 1048576
    · rw [decide_eq_true hl1]; simp [laws_FnSurpriseOf.j0]
    · rw [decide_eq_false hl1]
      simp only [laws_FnSurpriseOf.j0]
      rw [if_neg (by simp)]
      obtain ⟨t, l, s, t0, t1, hf, s0, s1, hd⟩ := draw_ok l0 hb
      have hf1 := hf.1
      rw [hd k (by omega)]
      simp only [Option.bind_some]
      rw [SurpriseOf_eq t l s k (by omega), sSurpriseOf_eq t l s k (by omega) (by omega)]
      simp only [Option.bind_some, if_true]
      by_cases h : okR t l = true ∧ okS t s = true
      · obtain ⟨hr, hs⟩ := h
        obtain ⟨h1, h2, h3, h4, h5, h6⟩ := okR_cases hr
        obtain ⟨a, rfl, a1, a2⟩ := set_nat hs
        have hA := allW_range h1
        obtain ⟨y, hy, y1⟩ : ∃ y : Nat, Int.tmod (wrap64 ((l1.length : Int) * 37)) (wrap64 (allW t + 1)) = (y : Int) ∧ (y : Int) ≤ allW t := by
          rw [w64 (n := (l1.length : Int) * 37) (by omega) (by omega), w64 (n := allW t + 1) (by omega) (by omega)]
          have q0 : 0 ≤ Int.tmod ((l1.length : Int) * 37) (allW t + 1) := Int.tmod_nonneg _ (by omega)
          have q1 : Int.tmod ((l1.length : Int) * 37) (allW t + 1) < allW t + 1 := Int.tmod_lt_of_pos _ (by omega)
          exact ⟨(Int.tmod ((l1.length : Int) * 37) (allW t + 1)).toNat, by omega, by omega⟩
        have hys : okS t (y : Int) = true := by unfold okS; rw [h1]; simp; omega
        have hnn := least_nn hr (a : Int)
        have ho := okS_or h1 a y a2 y1
        have e1 : surp t l (a : Int) = least l (a : Int) := by unfold surp; rw [if_pos ⟨hr, hs⟩]
        have e2 : surp t l (y : Int) = least l (y : Int) := by unfold surp; rw [if_pos ⟨hr, hys⟩]
        have e3 : surp t l ((a ||| y : Nat) : Int) = mn (least l (a : Int)) (least l (y : Int)) := by
          unfold surp; rw [if_pos ⟨hr, ho⟩]; exact least_or l a y l.length
        have hten := least_ten hr a a2
        rw [e1, if_neg (by omega), whole_eq t h1]
        simp only [Option.bind_some]
        rw [if_neg (by rw [w64 (by omega) (by omega)]; omega), hy, SurpriseOf_eq t l _ k (by omega)]
        simp only [Option.bind_some]
        rw [leither_nat a y k a1 (by omega) (by omega)]
        simp only [Option.bind_some]
        rw [SurpriseOf_eq t l _ k (by omega)]
        simp only [Option.bind_some]
        rw [e2, e3, if_pos rfl]
        congr 1
        have q : (least l (a : Int) == 10) = ((a : Int) == 0) := by rw [Bool.eq_iff_iff]; simp; omega
        rw [q]; simp
      · have e : surp t l s = -1 := by unfold surp; rw [if_neg h]
        rw [e, if_pos (by omega), if_pos rfl, alive_eq]; rfl
end Go.Proofs.Ytniniocdniegnaa.Pure
