/- The law FnMaxTable, for all arguments. -/
import Derived.Test.YtniniocdniegnaaHm
import Derived.Test.YtniniocdniegnaaHandF
import Derived.Test.YtniniocdniegnaaYx1
import Derived.Test.YtniniocdniegnaaYx2
namespace Go.Proofs.Ytniniocdniegnaa.L
open Go.RowKit Go.Proofs.Ytniniocdniegnaa.B Go.Proofs.Ytniniocdniegnaa.Y Go.Proofs.Ytniniocdniegnaa.Hand Go.Proofs.YtniniocdniegnaaW.PrintWords Go.Proofs.YtniniocdniegnaaW.PrintLast Go.Proofs.YtniniocdniegnaaW.PrintMore
set_option linter.unusedVariables false
set_option linter.unusedSimpArgs false
theorem l1In_eq (a b c : Int) : spec_l1In.f a b c = some (decide (b ≤ a) && decide (a ≤ c)) := by
  unfold spec_l1In.f
  by_cases h : a ≥ b
  · rw [if_pos h]; simp [show b ≤ a from h]
  · rw [if_neg h]; simp [show ¬ b ≤ a from h]
theorem l1In_13 (a : Int) : spec_l1In.f a 1 3 = some (okT a) := l1In_eq a 1 3
theorem l1All_eq (a : Int) (h : okT a = true) : spec_l1All.f a = some (allW a) := by
  unfold spec_l1All.f allF; rw [if_pos h]
theorem sSetOk_eq (t s : Int) : spec_SetOk.f t s = some (okS t s) := by
  unfold spec_SetOk.f okS
  rw [l1In_13]
  simp only [Option.bind_some]
  cases h : okT t with
  | false => simp
  | true =>
    rw [l1All_eq t h]
    simp [l1In_eq]
theorem WorldsOf_eq (t : Int) : impl_WorldsOf.f t = some (nW t) := by
  unfold impl_WorldsOf.f nW
  rw [areThings_eq]
  simp only [Option.bind_some]
  cases h : okT t with
  | false => simp
  | true => rcases okT_cases h with rfl | rfl | rfl <;> decide +kernel
theorem alive_eq : laws_alive.f = some true := by
  unfold laws_alive.f
  rw [WorldsOf_eq, WorldsOf_eq]
  decide +kernel
end Go.Proofs.Ytniniocdniegnaa.L
namespace Go.Proofs.Ytniniocdniegnaa.L
open Go.RowKit Go.Proofs.Ytniniocdniegnaa.B Go.Proofs.Ytniniocdniegnaa.Y Go.Proofs.Ytniniocdniegnaa.Hand Go.Proofs.YtniniocdniegnaaW.PrintWords Go.Proofs.YtniniocdniegnaaW.PrintLast Go.Proofs.YtniniocdniegnaaW.PrintMore
set_option linter.unusedVariables false
set_option linter.unusedSimpArgs false
theorem xor_i64 (a b : Nat) (ha : a < 2 ^ 62) (hb : b < 2 ^ 62) : bits .xor .i64 a b = ((a ^^^ b : Nat) : Int) := by
  have hx : a ^^^ b < 2 ^ 62 := Nat.xor_lt_two_pow ha hb
  simp only [bits, BitVec.ofInt_natCast, BitVec.toNat_xor, BitVec.toNat_ofNat]
  have e : IntKind.i64.bits = 64 := rfl
  rw [e, Nat.mod_eq_of_lt (by omega), Nat.mod_eq_of_lt (by omega)]
  exact wraps_i64 _ (by omega) (by omega)
theorem xor_nonneg (x y : Int) (hx : 0 ≤ x) (hx2 : x < 4611686018427387904) (hy : 0 ≤ y) (hy2 : y < 4611686018427387904) : 0 ≤ bits .xor .i64 x y := by
  obtain ⟨a, rfl⟩ := Int.eq_ofNat_of_zero_le hx
  obtain ⟨b, rfl⟩ := Int.eq_ofNat_of_zero_le hy
  rw [xor_i64 a b (by omega) (by omega)]
  omega
/-- A reader's bytes. -/
structure Rd (b : List Int) : Prop where
  byte : ∀ x, x ∈ b → 0 ≤ x ∧ x ≤ 255
  len : b.length ≤ 2000
theorem Rd.at_ {b : List Int} (h : Rd b) (i : Int) : 0 ≤ rd b i ∧ rd b i ≤ 255 := by
  unfold rd
  rw [List.getD_eq_getElem?_getD]
  by_cases e : i.toNat < b.length
  · rw [List.getElem?_eq_getElem e]; exact h.byte _ (List.getElem_mem e)
  · rw [List.getElem?_eq_none (by omega)]; simp
theorem pick_ok {b : List Int} (hb : Rd b) (p n : Int) (hp : 0 ≤ p) (hp2 : p ≤ 1000000) (hn : 1 ≤ n) (hn2 : n ≤ 1000000) :
    ∃ v, 0 ≤ v ∧ v < n ∧ ∀ k, 1 ≤ k → spec_l20Rd_pick.f k b p n = some (v, p + 1) := by
  have e1 : wrap64 (p + 1) = p + 1 := w64 (by omega) (by omega)
  have e2 : wrap64 (p + 1 - 1) = p := by rw [w64 (by omega) (by omega)]; omega
  by_cases hl : (b.length : Int) = 0
  · refine ⟨0, by omega, by omega, fun k hk => ?_⟩
    obtain ⟨m, rfl⟩ : ∃ m, k = m + 1 := ⟨k - 1, by omega⟩
    unfold spec_l20Rd_pick.f
    rw [if_neg (by omega), e1]
    simp only [spec_l20Rd_pick.j0]
    rw [if_pos (by rw [hl]; rfl)]
  · have hlen : 0 < (b.length : Int) := by omega
    have hlen2 : (b.length : Int) ≤ 2000 := by have := hb.len; omega
    have hle : ¬ (((b.length : Int) == 0) = true) := fun h => hl (beq_iff_eq.1 h)
    by_cases hlt : p < (b.length : Int)
    · have hr := hb.at_ p
      refine ⟨Int.tmod (rd b p) n, Int.tmod_nonneg _ hr.1, Int.tmod_lt_of_pos _ (by omega), fun k hk => ?_⟩
      obtain ⟨m, rfl⟩ : ∃ m, k = m + 1 := ⟨k - 1, by omega⟩
      unfold spec_l20Rd_pick.f
      rw [if_neg (by omega), e1]
      simp only [spec_l20Rd_pick.j0]
      rw [if_neg hle, e2, if_pos hlt, if_pos hp, if_neg (by omega), w64 (n := rd b p) (by omega) (by omega)]
    · have m1 : 0 ≤ Int.tmod p (b.length : Int) := Int.tmod_nonneg _ hp
      have m2 : Int.tmod p (b.length : Int) < (b.length : Int) := Int.tmod_lt_of_pos _ hlen
      have e3 : wrap64 (wrap64 (p * 7) + 3) = p * 7 + 3 := by rw [w64 (n := p * 7) (by omega) (by omega), w64 (by omega) (by omega)]
      have m3 : 0 ≤ Int.tmod (p * 7 + 3) (b.length : Int) := Int.tmod_nonneg _ (by omega)
      have m4 : Int.tmod (p * 7 + 3) (b.length : Int) < (b.length : Int) := Int.tmod_lt_of_pos _ hlen
      have a1 := hb.at_ (Int.tmod p (b.length : Int))
      have a2 := hb.at_ (Int.tmod (p * 7 + 3) (b.length : Int))
      have d1 : 0 ≤ Int.tdiv p (b.length : Int) := Int.tdiv_nonneg hp (by omega)
      have d2 : Int.tdiv p (b.length : Int) ≤ p := by
        rw [Int.tdiv_eq_ediv_of_nonneg hp]
        exact Int.ediv_le_self _ hp
      generalize hA : rd b (Int.tmod p (b.length : Int)) = A at a1
      generalize hB : rd b (Int.tmod (p * 7 + 3) (b.length : Int)) = B at a2
      generalize hD : Int.tdiv p (b.length : Int) = D at d1 d2
      have eY : wrap64 (wrap64 (wrap64 (wrap64 (wrap64 A * 131) + wrap64 (wrap64 B * 1117)) + wrap64 (p * 29)) + wrap64 (wrap64 D * 53)) = A * 131 + B * 1117 + p * 29 + D * 53 := by
        rw [w64 (n := A) (by omega) (by omega), w64 (n := B) (by omega) (by omega), w64 (n := D) (by omega) (by omega), w64 (n := A * 131) (by omega) (by omega), w64 (n := B * 1117) (by omega) (by omega), w64 (n := p * 29) (by omega) (by omega), w64 (n := D * 53) (by omega) (by omega), w64 (n := A * 131 + B * 1117) (by omega) (by omega), w64 (n := A * 131 + B * 1117 + p * 29) (by omega) (by omega), w64 (by omega) (by omega)]
      generalize hY : A * 131 + B * 1117 + p * 29 + D * 53 = Y at eY
      have y1 : 0 ≤ Y := by omega
      have y2 : Y ≤ 200000000 := by omega
      have eq : Int.tdiv Y 64 = Y / 64 := Int.tdiv_eq_ediv_of_nonneg y1
      have hx : 0 ≤ Go.bits .xor .i64 Y (wrap64 (Int.tdiv Y 64)) := by
        rw [eq, w64 (by omega) (by omega)]
        exact xor_nonneg _ _ y1 (by omega) (by omega) (by omega)
      refine ⟨Int.tmod (Go.bits .xor .i64 Y (wrap64 (Int.tdiv Y 64))) n, Int.tmod_nonneg _ hx, Int.tmod_lt_of_pos _ (by omega), fun k hk => ?_⟩
      obtain ⟨m, rfl⟩ : ∃ m, k = m + 1 := ⟨k - 1, by omega⟩
      unfold spec_l20Rd_pick.f
      rw [if_neg (by omega), e1]
      simp only [spec_l20Rd_pick.j0]
      rw [if_neg hle, e2, if_neg hlt, if_neg hl, if_pos m1, if_pos m2, e3, if_pos m3, if_pos m4, if_neg (by omega), hA, hB, hD, eY]
theorem odd_ok {b : List Int} (hb : Rd b) (p n : Int) (hp : 0 ≤ p) (hp2 : p ≤ 1000000) (hn : 0 ≤ n) (hn2 : n ≤ 1000000) :
    ∃ (v : Bool) (p' : Int), p ≤ p' ∧ p' ≤ p + 1 ∧ ∀ k, 1 ≤ k → spec_l20Rd_odd.f k b p n = some (v, p') := by
  by_cases h : n > 0
  · obtain ⟨v, h0, h1, hv⟩ := pick_ok hb p n hp hp2 (by omega) hn2
    exact ⟨v == wrap64 (n - 1), p + 1, by omega, by omega, fun k hk => by unfold spec_l20Rd_odd.f; rw [if_pos h, hv k hk]; rfl⟩
  · exact ⟨false, p, by omega, by omega, fun k hk => by unfold spec_l20Rd_odd.f; rw [if_neg h]⟩
theorem open_ok (l0 : List Int) (hb : ∀ x ∈ l0, (Lit.int .u8 x).wf = true) : ∃ b, Rd b ∧ spec_l20Open.f l0 = some (b, 0) := by
  have hx : ∀ x ∈ l0, 0 ≤ x ∧ x ≤ 255 := fun x hx => by
    have := hb x hx
    simp [Lit.wf, IntKind.min, IntKind.max, IntKind.bits, IntKind.signed] at this
    omega
  unfold spec_l20Open.f
  by_cases h : (l0.length : Int) > 2000
  · rw [if_pos h, if_pos (by omega)]
    exact ⟨l0.take 2000, ⟨fun x hm => hx x (List.mem_of_mem_take hm), by simp; omega⟩, rfl⟩
  · rw [if_neg h]
    exact ⟨l0, ⟨hx, by omega⟩, rfl⟩
end Go.Proofs.Ytniniocdniegnaa.L
namespace Go.Proofs.Ytniniocdniegnaa.L
open Go.RowKit Go.Proofs.Ytniniocdniegnaa.B Go.Proofs.Ytniniocdniegnaa.Y Go.Proofs.Ytniniocdniegnaa.Hand Go.Proofs.YtniniocdniegnaaW.PrintWords Go.Proofs.YtniniocdniegnaaW.PrintLast Go.Proofs.YtniniocdniegnaaW.PrintMore
set_option linter.unusedVariables false
set_option linter.unusedSimpArgs false
theorem bit_nat (a w : Nat) (hw : w ≤ 62) : spec_l1Bit.f (a : Int) (w : Int) = some (if a.testBit w = true then 1 else 0) := by
  unfold spec_l1Bit.f
  rw [if_pos (by omega), shr_nat a w hw, tmod2]
theorem both_l0 (a b : Nat) : ∀ (d w k : Nat), w + d = 8 → d < k →
    spec_l1Both.l0 k a b (sumN w (fun i => a.testBit i && b.testBit i) : Nat) w = some ((sumN 8 (fun i => a.testBit i && b.testBit i) : Nat) : Int) := by
  intro d
  induction d with
  | zero =>
    intro w k hw hk
    obtain ⟨m, rfl⟩ : ∃ m, k = m + 1 := ⟨k - 1, by omega⟩
    obtain rfl : w = 8 := by omega
    simp only [spec_l1Both.l0]
    rw [if_neg (by omega)]
  | succ d ih =>
    intro w k hw hk
    obtain ⟨m, rfl⟩ : ∃ m, k = m + 1 := ⟨k - 1, by omega⟩
    have hlt := sumN_lt w (fun i => a.testBit i && b.testBit i)
    have hp : 2 ^ w ≤ 2 ^ 7 := Nat.pow_le_pow_right (by decide) (by omega)
    have e1 : wrap64 ((w : Int) + 1) = ((w + 1 : Nat) : Int) := by rw [w64 (by omega) (by omega)]; simp
    have key : ∀ x y : Bool, wrap64 (((sumN w (fun i => a.testBit i && b.testBit i) : Nat) : Int) + shl .i64 (wrap64 ((if x = true then 1 else 0) * (if y = true then 1 else 0))) (w : Int)) = ((sumN w (fun i => a.testBit i && b.testBit i) + (if (x && y) = true then 2 ^ w else 0) : Nat) : Int) := by
      intro x y
      generalize sumN w (fun i => a.testBit i && b.testBit i) = q at hlt
      have s0 : shl .i64 (wrap64 0) (w : Int) = 0 := by
        have := shl_nat 0 w (by omega) (by omega)
        rw [Nat.zero_mul] at this
        rw [show wrap64 0 = 0 from w64 (by omega) (by omega)]
        exact this
      have s1 : shl .i64 (wrap64 1) (w : Int) = ((2 ^ w : Nat) : Int) := by
        have := shl_nat 1 w (by omega) (by omega)
        rw [Nat.one_mul] at this
        rw [show wrap64 1 = 1 from w64 (by omega) (by omega)]
        exact this
      generalize 2 ^ w = e at s1 hlt hp
      cases x <;> cases y
      · show wrap64 ((q : Int) + shl .i64 (wrap64 0) (w : Int)) = _
        rw [s0, w64 (by omega) (by omega)]; simp
      · show wrap64 ((q : Int) + shl .i64 (wrap64 0) (w : Int)) = _
        rw [s0, w64 (by omega) (by omega)]; simp
      · show wrap64 ((q : Int) + shl .i64 (wrap64 0) (w : Int)) = _
        rw [s0, w64 (by omega) (by omega)]; simp
      · show wrap64 ((q : Int) + shl .i64 (wrap64 1) (w : Int)) = _
        rw [s1, w64 (by omega) (by omega)]; simp
    have key := key (a.testBit w) (b.testBit w)
    rw [show sumN w (fun i => a.testBit i && b.testBit i) + (if (a.testBit w && b.testBit w) = true then 2 ^ w else 0) = sumN (w + 1) (fun i => a.testBit i && b.testBit i) from rfl] at key
    simp only [spec_l1Both.l0]
    rw [if_pos (by omega), bit_nat a w (by omega)]
    simp only [Option.bind_some]
    rw [bit_nat b w (by omega)]
    simp only [Option.bind_some]
    rw [if_pos (by omega), key, e1]
    exact ih (w + 1) m (by omega) (by omega)
/-- What is in both sets. -/
theorem both_nat (a b k : Nat) (ha : a < 256) (hk : 9 ≤ k) : spec_l1Both.f k (a : Int) (b : Int) = some ((a &&& b : Nat) : Int) := by
  have h := both_l0 a b 8 0 k (by omega) (by omega)
  have e : sumN 8 (fun i => a.testBit i && b.testBit i) = a &&& b := by
    have h2 : a &&& b < 2 ^ 8 := Nat.lt_of_le_of_lt Nat.and_le_left ha
    rw [← sumN_bits 8 (a &&& b) h2]
    exact sumN_congr _ _ _ fun i _ => by rw [Nat.testBit_and]
  rw [e] at h
  unfold spec_l1Both.f
  simpa [sumN] using h
theorem both_int (a b : Int) (k : Nat) (ha : 0 ≤ a) (ha2 : a < 256) (hb : 0 ≤ b) (hk : 9 ≤ k) : spec_l1Both.f k a b = some ((a.toNat &&& b.toNat : Nat) : Int) := by
  obtain ⟨x, rfl⟩ := Int.eq_ofNat_of_zero_le ha
  obtain ⟨y, rfl⟩ := Int.eq_ofNat_of_zero_le hb
  exact both_nat x y k (by omega) hk
theorem set_j0 {b : List Int} (hb : Rd b) (p n all : Int) (hp : 0 ≤ p) (hp2 : p ≤ 900000) (hn : 0 ≤ n) (hn2 : n ≤ 1000000) (ha : 1 ≤ all) (ha2 : all ≤ 255) :
    ∃ s p' : Int, p ≤ p' ∧ p' ≤ p + 5 ∧ -1 ≤ s ∧ s ≤ 256 ∧ ∀ k, 12 ≤ k → spec_l20Set.j0 k n all b p = some (s, p') := by
  have ew : wrap64 (all + 1) = all + 1 := w64 (by omega) (by omega)
  obtain ⟨v, p1, a1, a2, hv⟩ := odd_ok hb p n hp (by omega) hn hn2
  cases v with
  | true =>
    obtain ⟨i, i0, i1, hi⟩ := pick_ok hb p1 2 (by omega) (by omega) (by omega) (by omega)
    have hr : -1 ≤ rd [-1, all + 1] i ∧ rd [-1, all + 1] i ≤ 256 := by
      rcases (show i = 0 ∨ i = 1 by omega) with rfl | rfl
      · show -1 ≤ (-1 : Int) ∧ (-1 : Int) ≤ 256; omega
      · show -1 ≤ all + 1 ∧ all + 1 ≤ 256; omega
    refine ⟨rd [-1, all + 1] i, p1 + 1, by omega, by omega, hr.1, hr.2, fun k hk => ?_⟩
    obtain ⟨m, rfl⟩ : ∃ m, k = m + 1 := ⟨k - 1, by omega⟩
    simp only [spec_l20Set.j0]
    rw [hv m (by omega)]
    simp only [Option.bind_some, if_true]
    rw [hi m (by omega)]
    simp only [Option.bind_some]
    rw [if_pos i0, if_pos (by simp; omega), ew]
  | false =>
    obtain ⟨x, x0, x1, hx⟩ := pick_ok hb p1 256 (by omega) (by omega) (by omega) (by omega)
    obtain ⟨y, y0, y1, hy⟩ := pick_ok hb (p1 + 1) 3 (by omega) (by omega) (by omega) (by omega)
    obtain ⟨z, z0, z1, hz⟩ := pick_ok hb (p1 + 1 + 1) 256 (by omega) (by omega) (by omega) (by omega)
    have s0 : 0 ≤ Int.tmod x (all + 1) := Int.tmod_nonneg _ x0
    have s1 : Int.tmod x (all + 1) < all + 1 := Int.tmod_lt_of_pos _ (by omega)
    by_cases h : y = 0
    · have hbo := fun k hk => both_int (Int.tmod x (all + 1)) z k s0 (by omega) z0 hk
      have q0 : 0 ≤ (((Int.tmod x (all + 1)).toNat &&& z.toNat : Nat) : Int) := by omega
      generalize (((Int.tmod x (all + 1)).toNat &&& z.toNat : Nat) : Int) = q at hbo q0
      have r0 : 0 ≤ Int.tmod q (all + 1) := Int.tmod_nonneg _ q0
      have r1 : Int.tmod q (all + 1) < all + 1 := Int.tmod_lt_of_pos _ (by omega)
      refine ⟨Int.tmod q (all + 1), p1 + 1 + 1 + 1, by omega, by omega, by omega, by omega, fun k hk => ?_⟩
      obtain ⟨m, rfl⟩ : ∃ m, k = m + 1 := ⟨k - 1, by omega⟩
      simp only [spec_l20Set.j0]
      rw [hv m (by omega)]
      simp only [Option.bind_some]
      rw [if_neg (by simp), hx m (by omega)]
      simp only [Option.bind_some]
      rw [ew, if_neg (by omega), hy m (by omega)]
      simp only [Option.bind_some]
      rw [if_pos h, hz m (by omega)]
      simp only [Option.bind_some]
      rw [hbo m (by omega)]
      simp only [Option.bind_some]
    · refine ⟨Int.tmod x (all + 1), p1 + 1 + 1, by omega, by omega, by omega, by omega, fun k hk => ?_⟩
      obtain ⟨m, rfl⟩ : ∃ m, k = m + 1 := ⟨k - 1, by omega⟩
      simp only [spec_l20Set.j0]
      rw [hv m (by omega)]
      simp only [Option.bind_some]
      rw [if_neg (by simp), hx m (by omega)]
      simp only [Option.bind_some]
      rw [ew, if_neg (by omega), hy m (by omega)]
      simp only [Option.bind_some]
      rw [if_neg h]
theorem set_ok {b : List Int} (hb : Rd b) (p t n : Int) (hp : 0 ≤ p) (hp2 : p ≤ 900000) (hn : 0 ≤ n) (hn2 : n ≤ 1000000) :
    ∃ s p' : Int, p ≤ p' ∧ p' ≤ p + 5 ∧ -1 ≤ s ∧ s ≤ 256 ∧ ∀ k, 12 ≤ k → spec_l20Set.f k b p t n = some (s, p') := by
  cases h : okT t with
  | true =>
    have hr : 1 ≤ allW t ∧ allW t ≤ 255 := by rcases okT_cases h with rfl | rfl | rfl <;> decide
    obtain ⟨s, p', h1, h2, h3, h4, h5⟩ := set_j0 hb p n (allW t) hp hp2 hn hn2 hr.1 hr.2
    refine ⟨s, p', h1, h2, h3, h4, fun k hk => ?_⟩
    unfold spec_l20Set.f
    rw [l1In_13, h]
    simp only [Option.bind_some, if_true]
    rw [l1All_eq t h]
    simp only [Option.bind_some]
    exact h5 k hk
  | false =>
    obtain ⟨s, p', h1, h2, h3, h4, h5⟩ := set_j0 hb p n 1 hp hp2 hn hn2 (by omega) (by omega)
    refine ⟨s, p', h1, h2, h3, h4, fun k hk => ?_⟩
    unfold spec_l20Set.f
    rw [l1In_13, h]
    simp only [Option.bind_some]
    rw [if_neg (by simp)]
    exact h5 k hk
end Go.Proofs.Ytniniocdniegnaa.L
namespace Go.Proofs.Ytniniocdniegnaa.L
open Go.RowKit Go.Proofs.Ytniniocdniegnaa.B Go.Proofs.Ytniniocdniegnaa.Y Go.Proofs.Ytniniocdniegnaa.Hand Go.Proofs.YtniniocdniegnaaW.PrintWords Go.Proofs.YtniniocdniegnaaW.PrintLast Go.Proofs.YtniniocdniegnaaW.PrintMore
set_option linter.unusedVariables false
set_option linter.unusedSimpArgs false
theorem sameInts_l0 (x : List Int) (hl : x.length ≤ 2000000) : ∀ (d i k : Nat), i + d = x.length → d < k → laws_sameInts.l0 k x x i = some true := by
  intro d
  induction d with
  | zero =>
    intro i k hi hk
    obtain ⟨m, rfl⟩ : ∃ m, k = m + 1 := ⟨k - 1, by omega⟩
    simp only [laws_sameInts.l0]
    rw [if_neg (by omega)]
  | succ d ih =>
    intro i k hi hk
    obtain ⟨m, rfl⟩ : ∃ m, k = m + 1 := ⟨k - 1, by omega⟩
    simp only [laws_sameInts.l0]
    rw [if_pos (by omega), if_pos (by omega), if_pos (by omega), if_pos trivial, next64 i (by omega)]
    exact ih (i + 1) m (by omega) (by omega)
theorem sameInts_refl (l : List Int) (k : Nat) (hl : l.length ≤ 2000000) (hk : l.length < k) : laws_sameInts.f k l l = some true := by
  unfold laws_sameInts.f
  rw [if_pos rfl]
  exact sameInts_l0 l hl l.length 0 k (by omega) hk
end Go.Proofs.Ytniniocdniegnaa.L
namespace Go.Proofs.Ytniniocdniegnaa.L
open Go.RowKit Go.Proofs.Ytniniocdniegnaa.Hand Go.Proofs.YtniniocdniegnaaW.PrintWords
set_option linter.unusedVariables false
set_option linter.unusedSimpArgs false
/-- How many numbers below x are in the list. -/
def cnt (l : List Int) (x : Nat) : Nat := (List.range x).countP (fun q : Nat => l.any (fun y => y == (q : Int)))
/-- Tidy ranks. -/
def tidyL (l : List Int) : List Int := l.map (fun x => (cnt l x.toNat : Int))
theorem tidyL_length (l : List Int) : (tidyL l).length = l.length := by unfold tidyL; simp
theorem rd_map (l : List Int) (f : Int → Int) (i : Nat) (h : i < l.length) : rd (l.map f) (i : Int) = f (rd l (i : Int)) := by
  unfold rd
  rw [Int.toNat_natCast, List.getD_eq_getElem?_getD, List.getD_eq_getElem?_getD, List.getElem?_map, List.getElem?_eq_getElem h]; rfl
theorem tidyL_rd (l : List Int) (i : Nat) (h : i < l.length) : rd (tidyL l) (i : Int) = (cnt l (rd l (i : Int)).toNat : Int) := rd_map l _ i h
theorem rd_mem (l : List Int) (i : Nat) (h : i < l.length) : rd l (i : Int) ∈ l := by
  unfold rd
  rw [Int.toNat_natCast, List.getD_eq_getElem?_getD, List.getElem?_eq_getElem h]; exact List.getElem_mem h
theorem cnt_succ (l : List Int) (x : Nat) : cnt l (x + 1) = cnt l x + if l.any (fun y => y == (x : Int)) = true then 1 else 0 := by
  unfold cnt
  rw [List.range_succ, List.countP_append, List.countP_singleton]
/-- Is place v the first of its rank, and is its rank below x. -/
def firstB (l : List Int) (x : Int) (v : Nat) : Bool := decide (rd l (v : Int) < x) && (List.range v).all (fun u => decide (rd l (u : Int) ≠ rd l (v : Int)))
theorem count_or (p : Nat → Bool) (y : Int) (x : Nat) :
    (List.range x).countP (fun q : Nat => p q || ((q : Int) == y)) = (List.range x).countP p + if 0 ≤ y ∧ y < x ∧ p y.toNat = false then 1 else 0 := by
  induction x with
  | zero => simp; omega
  | succ x ih =>
    rw [List.range_succ, List.countP_append, List.countP_append, ih, List.countP_singleton, List.countP_singleton]
    by_cases e : (x : Int) = y
    · subst e
      have n1 : ¬ (0 ≤ (x : Int) ∧ (x : Int) < (x : Int) ∧ p (x : Int).toNat = false) := fun h => absurd h.2.1 (by omega)
      rw [if_neg n1, Int.toNat_natCast]
      cases hp : p x with
      | true =>
        have n2 : ¬ (0 ≤ (x : Int) ∧ (x : Int) < ((x + 1 : Nat) : Int) ∧ true = false) := fun h => absurd h.2.2 (by simp)
        rw [if_neg n2]; simp
      | false =>
        have n2 : 0 ≤ (x : Int) ∧ (x : Int) < ((x + 1 : Nat) : Int) ∧ false = false := ⟨by omega, by omega, rfl⟩
        rw [if_pos n2]; simp
    · have e2 : ((x : Int) == y) = false := by simpa using e
      rw [e2, Bool.or_false]
      by_cases h : 0 ≤ y ∧ y < x ∧ p y.toNat = false
      · have h' : 0 ≤ y ∧ y < ((x + 1 : Nat) : Int) ∧ p y.toNat = false := ⟨h.1, by omega, h.2.2⟩
        rw [if_pos h, if_pos h']; omega
      · have h' : ¬ (0 ≤ y ∧ y < ((x + 1 : Nat) : Int) ∧ p y.toNat = false) := fun k => h ⟨k.1, by omega, k.2.2⟩
        rw [if_neg h, if_neg h']; omega
theorem take_snoc (l : List Int) (m : Nat) (h : m < l.length) : l.take (m + 1) = l.take m ++ [rd l (m : Int)] := by
  rw [List.take_succ_eq_append_getElem h]
  congr 1
  unfold rd
  rw [Int.toNat_natCast, List.getD_eq_getElem?_getD, List.getElem?_eq_getElem h]; rfl
theorem any_take (l : List Int) (y : Int) : ∀ m, m ≤ l.length → ((l.take m).any (fun z => z == y) = false ↔ (List.range m).all (fun u => decide (rd l (u : Int) ≠ y)) = true) := by
  intro m
  induction m with
  | zero => simp
  | succ m ih =>
    intro hm
    rw [take_snoc l m (by omega), List.any_append, List.range_succ, List.all_append, Bool.or_eq_false_iff, Bool.and_eq_true, ih (by omega)]
    simp
theorem lots_take (l : List Int) (x : Nat) (h0 : ∀ y ∈ l, 0 ≤ y) : ∀ m, m ≤ l.length → (List.range x).countP (fun q : Nat => (l.take m).any (fun y => y == (q : Int))) = (List.range m).countP (firstB l x) := by
  intro m
  induction m with
  | zero => simp
  | succ m ih =>
    intro hm
    have e : (fun q : Nat => (l.take (m + 1)).any (fun y => y == (q : Int))) = fun q : Nat => (l.take m).any (fun y => y == (q : Int)) || ((q : Int) == rd l (m : Int)) := by
      funext q
      rw [take_snoc l m (by omega), List.any_append]
      congr 1
      simp only [List.any_cons, List.any_nil, Bool.or_false]
      rw [Bool.eq_iff_iff, beq_iff_eq, beq_iff_eq]
      exact eq_comm
    rw [e, count_or, ih (by omega), List.range_succ, List.countP_append, List.countP_singleton]
    congr 1
    have hy := h0 _ (rd_mem l m (by omega))
    have h1 := any_take l (rd l (m : Int)) m (by omega)
    have h2 : (((rd l (m : Int)).toNat : Nat) : Int) = rd l (m : Int) := by omega
    unfold firstB
    by_cases hc : rd l (m : Int) < (x : Int)
    · rw [decide_eq_true hc, Bool.true_and]
      cases hb : (List.range m).all (fun u => decide (rd l (u : Int) ≠ rd l (m : Int))) with
      | true => rw [if_pos ⟨hy, hc, by rw [h2]; exact h1.2 hb⟩]; rfl
      | false => rw [if_neg (by rintro ⟨_, _, c⟩; rw [h2] at c; rw [h1.1 c] at hb; cases hb)]; rfl
    · rw [decide_eq_false hc, if_neg (by rintro ⟨_, b, _⟩; exact hc b)]; rfl
/-- Tidy ranks go by the order of the ranks alone. -/
theorem cnt_lots (l : List Int) (x : Nat) (h0 : ∀ y ∈ l, 0 ≤ y) : cnt l x = (List.range l.length).countP (firstB l x) := by
  have := lots_take l x h0 l.length (Nat.le_refl _)
  rw [List.take_length] at this
  exact this
/-- Two rows of ranks are in the same order. -/
def Same (a b : List Int) : Prop := a.length = b.length ∧ ∀ i j : Nat, i < a.length → j < a.length → (rd a (i : Int) ≤ rd a (j : Int) ↔ rd b (i : Int) ≤ rd b (j : Int))
theorem Same.symm {a b : List Int} (h : Same a b) : Same b a := ⟨h.1.symm, fun i j hi hj => (h.2 i j (by rw [h.1]; exact hi) (by rw [h.1]; exact hj)).symm⟩
theorem leastN_le (l : List Int) (s : Int) : ∀ n, leastN l s n ≤ 10 ∧ ∀ v : Nat, v < n → bit s v = true → leastN l s n ≤ rd l (v : Int)
  | 0 => ⟨Int.le_refl _, fun v hv => absurd hv (by omega)⟩
  | n + 1 => by
    obtain ⟨h1, h2⟩ := leastN_le l s n
    simp only [leastN]
    cases hb : bit s n with
    | true =>
      rw [if_pos rfl]
      have hm : mn (leastN l s n) (rd l (n : Int)) ≤ leastN l s n ∧ mn (leastN l s n) (rd l (n : Int)) ≤ rd l (n : Int) := by unfold mn; split <;> omega
      refine ⟨Int.le_trans hm.1 h1, fun v hv hbv => ?_⟩
      rcases Nat.lt_or_ge v n with h3 | h3
      · exact Int.le_trans hm.1 (h2 v h3 hbv)
      · obtain rfl : v = n := by omega
        exact hm.2
    | false =>
      rw [if_neg (by simp)]
      refine ⟨h1, fun v hv hbv => ?_⟩
      rcases Nat.lt_or_ge v n with h3 | h3
      · exact h2 v h3 hbv
      · obtain rfl : v = n := by omega
        rw [hb] at hbv; cases hbv
theorem leastN_mem (l : List Int) (s : Int) : ∀ n, leastN l s n = 10 ∨ ∃ v : Nat, v < n ∧ bit s v = true ∧ rd l (v : Int) = leastN l s n
  | 0 => .inl rfl
  | n + 1 => by
    simp only [leastN]
    cases hb : bit s n with
    | true =>
      rw [if_pos rfl]
      have hm : mn (leastN l s n) (rd l (n : Int)) = leastN l s n ∨ mn (leastN l s n) (rd l (n : Int)) = rd l (n : Int) := by unfold mn; split <;> simp
      rcases hm with hm | hm
      · rcases leastN_mem l s n with h | ⟨v, h1, h2, h3⟩
        · left; rw [hm, h]
        · right; exact ⟨v, by omega, h2, by rw [hm, h3]⟩
      · right; exact ⟨n, by omega, hb, hm.symm⟩
    | false =>
      rw [if_neg (by simp)]
      rcases leastN_mem l s n with h | ⟨v, h1, h2, h3⟩
      · exact .inl h
      · exact .inr ⟨v, by omega, h2, h3⟩
/-- A world has the least rank of a set just if no world of the set has a lesser one. -/
theorem least_iff (l : List Int) (s : Int) (h9 : ∀ y ∈ l, y ≤ 9) (w : Nat) (hw : w < l.length) (hb : bit s w = true) :
    (rd l (w : Int) == least l s) = true ↔ ∀ v : Nat, v < l.length → bit s v = true → rd l (w : Int) ≤ rd l (v : Int) := by
  have h1 := leastN_le l s l.length
  have h2 := leastN_mem l s l.length
  rw [beq_iff_eq]
  constructor
  · intro h v hv hbv
    rw [h]
    exact h1.2 v hv hbv
  · intro h
    have h3 := h1.2 w hw hb
    have h4 := h9 _ (rd_mem l w hw)
    unfold least
    rcases h2 with h2 | ⟨v, hv, hbv, e⟩
    · omega
    · have := h v hv hbv
      omega
theorem rev_bit (l : List Int) (s : Int) (w : Nat) : bit (rev l s) w = (decide (w < l.length) && (bit s w && (rd l (w : Int) == least l s))) := by
  unfold rev bit
  rw [Int.toNat_natCast, sumN_testBit]
theorem Same.rev {a b : List Int} (h : Same a b) (ha : ∀ y ∈ a, y ≤ 9) (hb : ∀ y ∈ b, y ≤ 9) (s : Int) : rev a s = rev b s := by
  unfold Hand.rev
  rw [← h.1]
  congr 1
  apply sumN_congr
  intro w hw
  have hw2 : w < b.length := by rw [← h.1]; exact hw
  cases hbw : bit s w with
  | false => rfl
  | true =>
    rw [Bool.true_and, Bool.true_and, Bool.eq_iff_iff, least_iff a s ha w hw hbw, least_iff b s hb w hw2 hbw]
    constructor
    · intro h3 v hv hbv
      exact (h.2 w v hw (by rw [h.1]; exact hv)).1 (h3 v (by rw [h.1]; exact hv) hbv)
    · intro h3 v hv hbv
      exact (h.2 w v hw hv).2 (h3 v (by rw [← h.1]; exact hv) hbv)
/-- The worlds i and j, as a set. -/
def pair (i j : Nat) : Int := ((2 ^ i ||| 2 ^ j : Nat) : Int)
theorem pair_bit (i j v : Nat) : bit (pair i j) v = (decide (i = v) || decide (j = v)) := by
  unfold pair bit
  rw [Int.toNat_natCast, Nat.testBit_or, Nat.testBit_two_pow, Nat.testBit_two_pow]
theorem rev_pair (l : List Int) (i j : Nat) (hi : i < l.length) (hj : j < l.length) (h9 : ∀ y ∈ l, y ≤ 9) : bit (rev l (pair i j)) i = true ↔ rd l (i : Int) ≤ rd l (j : Int) := by
  have hb : bit (pair i j) i = true := by rw [pair_bit]; simp
  rw [rev_bit, decide_eq_true hi, Bool.true_and, hb, Bool.true_and, least_iff l _ h9 i hi hb]
  constructor
  · intro h
    exact h j hj (by rw [pair_bit]; simp)
  · intro h v hv hbv
    rw [pair_bit, Bool.or_eq_true, decide_eq_true_eq, decide_eq_true_eq] at hbv
    rcases hbv with rfl | rfl
    · exact Int.le_refl _
    · exact h
theorem pair_lt (i j n : Nat) (hi : i < n) (hj : j < n) : 2 ^ i ||| 2 ^ j < 2 ^ n :=
  Nat.or_lt_two_pow (Nat.pow_lt_pow_right (by decide) hi) (Nat.pow_lt_pow_right (by decide) hj)
end Go.Proofs.Ytniniocdniegnaa.L
namespace Go.Proofs.Ytniniocdniegnaa.L
open Go.RowKit Go.Proofs.Ytniniocdniegnaa.B Go.Proofs.Ytniniocdniegnaa.Y Go.Proofs.Ytniniocdniegnaa.Hand Go.Proofs.YtniniocdniegnaaW.PrintWords Go.Proofs.YtniniocdniegnaaW.PrintLast Go.Proofs.YtniniocdniegnaaW.PrintMore
set_option linter.unusedVariables false
set_option linter.unusedSimpArgs false
theorem sMax_l0 (t c : Int) (ht : t ≤ 2) (hs : okS t c = true) (hc : ¬ c = 0) : ∀ (d i k : Nat), i + d = (allW t).toNat + 1 → 2 * d + 20 ≤ k →
    spec_MaxTable.l0 k t c ((List.range i).map (maxE c)) i = some (maxTab t c) := by
  obtain ⟨g1, g2, g3, g4⟩ := okS_cases hs
  have hW := allW_range g1
  have hin : (decide (1 ≤ t) && decide (t ≤ 2)) = true := by rcases okT_cases g1 with rfl | rfl | rfl <;> simp; omega
  intro d
  induction d with
  | zero =>
    intro i k hi hk
    obtain ⟨m, rfl⟩ : ∃ m, k = m + 2 := ⟨k - 2, by omega⟩
    simp only [spec_MaxTable.l0]
    rw [l1In_eq, hin]
    simp only [Option.bind_some, if_true]
    rw [sSetOk_eq, hs]
    simp only [Option.bind_some, if_true]
    rw [if_neg hc, l1All_eq t g1]
    simp only [Option.bind_some, spec_MaxTable.j1]
    rw [if_neg (by simp; omega), show i = (allW t).toNat + 1 by omega]; rfl
  | succ d ih =>
    intro i k hi hk
    obtain ⟨m, rfl⟩ : ∃ m, k = m + 2 := ⟨k - 2, by omega⟩
    simp only [spec_MaxTable.l0]
    rw [l1In_eq, hin]
    simp only [Option.bind_some, if_true]
    rw [sSetOk_eq, hs]
    simp only [Option.bind_some, if_true]
    rw [if_neg hc, l1All_eq t g1]
    simp only [Option.bind_some, spec_MaxTable.j1]
    rw [if_pos (by simp; omega), both_int (i : Int) c m (by omega) (by omega) g2 (by omega), Int.toNat_natCast]
    simp only [Option.bind_some]
    have hE : maxE c i = if i &&& c.toNat = 0 then (i : Int) else ((i &&& c.toNat : Nat) : Int) := rfl
    have hn : (List.range (i + 1)).map (maxE c) = (List.range i).map (maxE c) ++ [maxE c i] := range_snoc i (maxE c)
    have ih1 := ih (i + 1) m (by omega) (by omega)
    rw [hn, hE] at ih1
    by_cases hz : i &&& c.toNat = 0
    · rw [if_pos (by omega), if_pos (by simp; omega), next64 i (by omega)]
      rw [if_pos hz] at ih1
      exact ih1
    · rw [if_neg (by omega), if_pos (by simp; omega), next64 i (by omega)]
      rw [if_neg hz] at ih1
      exact ih1
theorem sMaxTable_eq (t c : Int) (k : Nat) (hk : 60 ≤ k) : spec_MaxTable.f k t c = some (if t ≤ 2 ∧ okS t c = true ∧ ¬ c = 0 then maxTab t c else []) := by
  unfold spec_MaxTable.f
  by_cases h : t ≤ 2 ∧ okS t c = true ∧ ¬ c = 0
  · rw [if_pos h]
    obtain ⟨g1, g2, g3, g4⟩ := okS_cases h.2.1
    have hW : allW t ≤ 15 := by rcases okT_cases g1 with rfl | rfl | rfl <;> first | decide | (exfalso; omega)
    exact sMax_l0 t c h.1 h.2.1 h.2.2 ((allW t).toNat + 1) 0 k (by omega) (by omega)
  · rw [if_neg h]
    obtain ⟨m, rfl⟩ : ∃ m, k = m + 2 := ⟨k - 2, by omega⟩
    simp only [spec_MaxTable.l0]
    rw [l1In_eq]
    simp only [Option.bind_some]
    cases hin : (decide (1 ≤ t) && decide (t ≤ 2)) with
    | false => simp [spec_MaxTable.j1]
    | true =>
      rw [if_pos rfl, sSetOk_eq]
      simp only [Option.bind_some]
      cases hs : okS t c with
      | false => simp [spec_MaxTable.j1]
      | true =>
        have hc : c = 0 := by
          simp at hin
          rcases Classical.em (c = 0) with h0 | h0
          · exact h0
          · exact absurd ⟨hin.2, hs, h0⟩ h
        rw [if_pos rfl, if_pos hc]
        simp [spec_MaxTable.j1]
theorem MaxTable_eq (t c : Int) : impl_MaxTable.f t c = some (if t ≤ 2 ∧ okS t c = true ∧ ¬ c = 0 then maxTab t c else []) := rfl
theorem maxTab_len (t c : Int) : (if t ≤ 2 ∧ okS t c = true ∧ ¬ c = 0 then maxTab t c else []).length ≤ 256 := by
  split
  · rename_i h
    obtain ⟨g1, g2, g3, g4⟩ := okS_cases h.2.1
    have := allW_range g1
    unfold maxTab
    simp; omega
  · simp
end Go.Proofs.Ytniniocdniegnaa.L
namespace Go.Proofs.Ytniniocdniegnaa.L
open Go.RowKit Go.Proofs.Ytniniocdniegnaa.B Go.Proofs.Ytniniocdniegnaa.Y Go.Proofs.Ytniniocdniegnaa.Hand Go.Proofs.YtniniocdniegnaaW.PrintWords Go.Proofs.YtniniocdniegnaaW.PrintLast Go.Proofs.YtniniocdniegnaaW.PrintMore
set_option linter.unusedVariables false
set_option linter.unusedSimpArgs false
theorem allW_pow {t : Int} (h : okT t = true) : (allW t).toNat + 1 = 2 ^ (nW t).toNat ∧ (nW t).toNat ≤ 8 ∧ 2 ≤ (nW t).toNat := by
  rcases okT_cases h with rfl | rfl | rfl <;> decide
theorem rev_lt (l : List Int) (s : Int) (n : Nat) (hl : l.length ≤ n) : 0 ≤ rev l s ∧ rev l s < 2 ^ n := by
  unfold rev
  have h := sumN_lt l.length (fun w => bit s w && (rd l (w : Int) == least l s))
  have h2 : 2 ^ l.length ≤ 2 ^ n := Nat.pow_le_pow_right (by decide) hl
  refine ⟨by omega, ?_⟩
  have h3 : (sumN l.length (fun w => bit s w && (rd l (w : Int) == least l s))) < 2 ^ n := by omega
  exact_mod_cast h3
end Go.Proofs.Ytniniocdniegnaa.L
namespace Go.Proofs.Ytniniocdniegnaa.L
open Go.RowKit Go.Proofs.Ytniniocdniegnaa.B Go.Proofs.Ytniniocdniegnaa.Y Go.Proofs.Ytniniocdniegnaa.Hand Go.Proofs.YtniniocdniegnaaW.PrintWords Go.Proofs.YtniniocdniegnaaW.PrintLast Go.Proofs.YtniniocdniegnaaW.PrintMore
set_option linter.unusedVariables false
set_option linter.unusedSimpArgs false
theorem rev_nat (l : List Int) (s : Int) (h : l.length ≤ 8) : ∃ c : Nat, rev l s = (c : Int) ∧ c < 256 := by
  refine ⟨sumN l.length (fun w => bit s w && (rd l (w : Int) == least l s)), rfl, ?_⟩
  exact Nat.lt_of_lt_of_le (sumN_lt _ _) (Nat.pow_le_pow_right (n := 2) (by decide) h)
theorem set_nat {t s : Int} (h : okS t s = true) : ∃ a : Nat, s = (a : Int) ∧ a < 256 ∧ (a : Int) ≤ allW t := by
  obtain ⟨g1, g2, g3, g4⟩ := okS_cases h
  exact ⟨s.toNat, by omega, by omega, by omega⟩
/-- CoreOf. -/
def coreE (t : Int) (l : List Int) : Int := if okR t l = true then core l else -1
theorem CoreOf_eq (t : Int) (l : List Int) (k : Nat) (hk : 20 ≤ k) : impl_CoreOf.f k t l = some (coreE t l) := by
  unfold impl_CoreOf.f coreE
  rw [isRank_eq t l k hk]
  simp only [Option.bind_some]
  cases hr : okR t l with
  | false => simp
  | true =>
    obtain ⟨h1, h2, h3, h4, h5, h6⟩ := okR_cases hr
    have : impl_coreOf.f t l = some (core l) := by unfold impl_coreOf.f; rw [if_pos ⟨h1, h2⟩]
    rw [if_pos rfl, this]
    simp
end Go.Proofs.Ytniniocdniegnaa.L
namespace Go.Proofs.Ytniniocdniegnaa.L
open Go.RowKit Go.Proofs.Ytniniocdniegnaa.B Go.Proofs.Ytniniocdniegnaa.Y Go.Proofs.Ytniniocdniegnaa.Hand Go.Proofs.YtniniocdniegnaaW.PrintWords Go.Proofs.YtniniocdniegnaaW.PrintLast Go.Proofs.YtniniocdniegnaaW.PrintMore
set_option linter.unusedVariables false
set_option linter.unusedSimpArgs false
theorem okTab_cases' {t : Int} {l : List Int} (h : okTab t l = true) : okT t = true ∧ t ≤ 2 ∧ (l.length : Int) = allW t + 1 ∧ (∀ x ∈ l, 0 ≤ x ∧ x ≤ 255) ∧ 4 ≤ l.length ∧ l.length ≤ 16 := by
  unfold okTab at h
  simp only [Bool.and_eq_true, decide_eq_true_eq, List.all_eq_true] at h
  obtain ⟨⟨h1, h2⟩, h3, h4⟩ := h
  have hc : t = 1 ∨ t = 2 := by omega
  refine ⟨by unfold okT; simp; omega, h2, h3, fun x hx => ?_, ?_⟩
  · have := okS_cases (h4 x hx)
    omega
  · rcases hc with rfl | rfl
    · have : allW 1 = 3 := by decide
      omega
    · have : allW 2 = 15 := by decide
      omega
/-- FirstFault. -/
def fauE (t : Int) (l : List Int) : Int := if okTab t l = true then fault l else -1
theorem FirstFault_eq (t : Int) (l : List Int) (k : Nat) (hk : 70000 ≤ k) : impl_FirstFault.f k t l = some (fauE t l) := by
  unfold impl_FirstFault.f fauE
  rw [show impl_isTable.f t l = some (okTab t l) from rfl]
  simp only [Option.bind_some]
  cases h : okTab t l with
  | false => simp
  | true =>
    obtain ⟨h1, h2, h3, h4, h5, h6⟩ := okTab_cases' h
    rw [if_pos rfl, firstFault_eq l k (by omega) h4 hk]
    simp
end Go.Proofs.Ytniniocdniegnaa.L
namespace Go.Proofs.Ytniniocdniegnaa.L
open Go.RowKit Go.Proofs.Ytniniocdniegnaa.B Go.Proofs.Ytniniocdniegnaa.Y Go.Proofs.Ytniniocdniegnaa.Hand Go.Proofs.YtniniocdniegnaaW.PrintWords Go.Proofs.YtniniocdniegnaaW.PrintLast Go.Proofs.YtniniocdniegnaaW.PrintMore
set_option linter.unusedVariables false
set_option linter.unusedSimpArgs false
/-- A world is in a revision just if it comes and none that comes has a lesser rank. -/
theorem revN_iff (l : List Int) (h9 : ∀ y ∈ l, y ≤ 9) (s w : Nat) : (rev l (s : Int)).toNat.testBit w = true ↔
    w < l.length ∧ s.testBit w = true ∧ ∀ v : Nat, v < l.length → s.testBit v = true → rd l (w : Int) ≤ rd l (v : Int) := by
  have hb : ∀ v, bit (s : Int) v = s.testBit v := fun v => by unfold bit; simp
  have h := rev_bit l (s : Int) w
  rw [show bit (rev l (s : Int)) w = (rev l (s : Int)).toNat.testBit w from rfl, hb] at h
  rw [h]
  constructor
  · intro h1
    rw [Bool.and_eq_true, Bool.and_eq_true, decide_eq_true_eq] at h1
    obtain ⟨h1, h2, h3⟩ := h1
    refine ⟨h1, h2, fun v hv hbv => (least_iff l s h9 w h1 (by rw [hb]; exact h2)).1 h3 v hv (by rw [hb]; exact hbv)⟩
  · rintro ⟨h1, h2, h3⟩
    rw [decide_eq_true h1, h2, Bool.true_and, Bool.true_and]
    exact (least_iff l s h9 w h1 (by rw [hb]; exact h2)).2 fun v hv hbv => h3 v hv (by rw [← hb]; exact hbv)
theorem revN_sub (l : List Int) (h9 : ∀ y ∈ l, y ≤ 9) (s : Nat) : (rev l (s : Int)).toNat &&& s = (rev l (s : Int)).toNat := by
  apply Nat.eq_of_testBit_eq
  intro i
  rw [Nat.testBit_and]
  cases h : (rev l (s : Int)).toNat.testBit i with
  | false => rfl
  | true => rw [((revN_iff l h9 s i).1 h).2.1]; rfl
theorem exists_bit {s : Nat} (h : s ≠ 0) : ∃ i, s.testBit i = true := Nat.exists_testBit_of_ne_zero h
/-- A least one among the worlds that come. -/
theorem least_of (l : List Int) (s : Nat) : ∀ n : Nat, n ≤ l.length → (∃ v, v < n ∧ s.testBit v = true) → ∃ v, v < n ∧ s.testBit v = true ∧ ∀ u : Nat, u < n → s.testBit u = true → rd l (v : Int) ≤ rd l (u : Int)
  | 0, _, ⟨v, hv, _⟩ => absurd hv (by omega)
  | n + 1, hn, ⟨v, hv, hs⟩ => by
    by_cases h : ∃ v, v < n ∧ s.testBit v = true
    · obtain ⟨a, ha, hb, hc⟩ := least_of l s n (by omega) h
      by_cases hx : s.testBit n = true ∧ rd l (n : Int) < rd l (a : Int)
      · refine ⟨n, by omega, hx.1, fun u hu hsu => ?_⟩
        rcases Nat.lt_succ_iff_lt_or_eq.1 hu with h1 | h1
        · have := hc u h1 hsu; omega
        · rw [h1]; exact Int.le_refl _
      · refine ⟨a, by omega, hb, fun u hu hsu => ?_⟩
        rcases Nat.lt_succ_iff_lt_or_eq.1 hu with h1 | h1
        · exact hc u h1 hsu
        · rw [h1] at hsu ⊢
          by_cases h2 : rd l (n : Int) < rd l (a : Int)
          · exact absurd ⟨hsu, h2⟩ hx
          · omega
    · have hvn : v = n := by
        rcases Nat.lt_succ_iff_lt_or_eq.1 hv with h1 | h1
        · exact absurd ⟨v, h1, hs⟩ h
        · exact h1
      refine ⟨v, hv, hs, fun u hu hsu => ?_⟩
      rcases Nat.lt_succ_iff_lt_or_eq.1 hu with h1 | h1
      · exact absurd ⟨u, h1, hsu⟩ h
      · rw [h1, hvn]; exact Int.le_refl _
theorem revN_pos (l : List Int) (h9 : ∀ y ∈ l, y ≤ 9) (s : Nat) (hs : s ≠ 0) (hl : s < 2 ^ l.length) : (rev l (s : Int)).toNat ≠ 0 := by
  obtain ⟨i, hi⟩ := exists_bit hs
  have hil : i < l.length := by
    by_cases h : i < l.length
    · exact h
    · have := Nat.testBit_lt_two_pow (Nat.lt_of_lt_of_le hl (Nat.pow_le_pow_right (n := 2) (by decide) (show l.length ≤ i by omega)))
      rw [this] at hi; cases hi
  obtain ⟨v, hv, hb, hc⟩ := least_of l s l.length (Nat.le_refl _) ⟨i, hil, hi⟩
  have := (revN_iff l h9 s v).2 ⟨hv, hb, hc⟩
  intro h0
  rw [h0, Nat.zero_testBit] at this
  cases this
theorem revN_meet (l : List Int) (h9 : ∀ y ∈ l, y ≤ 9) (a b : Nat) (h : (rev l (a : Int)).toNat &&& b ≠ 0) : (rev l (a : Int)).toNat &&& b = (rev l ((a &&& b : Nat) : Int)).toNat := by
  obtain ⟨u, hu⟩ := exists_bit h
  rw [Nat.testBit_and, Bool.and_eq_true] at hu
  obtain ⟨u1, u2, u3⟩ := (revN_iff l h9 a u).1 hu.1
  apply Nat.eq_of_testBit_eq
  intro w
  rw [Nat.testBit_and, Bool.eq_iff_iff, Bool.and_eq_true, revN_iff l h9 a w, revN_iff l h9 (a &&& b) w]
  constructor
  · rintro ⟨⟨h1, h2, h3⟩, h4⟩
    refine ⟨h1, by rw [Nat.testBit_and, h2, h4]; rfl, fun v hv hbv => h3 v hv ?_⟩
    rw [Nat.testBit_and, Bool.and_eq_true] at hbv
    exact hbv.1
  · rintro ⟨h1, h2, h3⟩
    rw [Nat.testBit_and, Bool.and_eq_true] at h2
    refine ⟨⟨h1, h2.1, fun v hv hbv => ?_⟩, h2.2⟩
    have := h3 u u1 (by rw [Nat.testBit_and, u2, hu.2]; rfl)
    have := u3 v hv hbv
    omega
theorem fromTab_len (t : Int) (l : List Int) : (fromTab t l).length = (allW t).toNat + 1 := by unfold fromTab; simp
theorem fromTab_rd (t : Int) (l : List Int) (s : Nat) (h : s < (allW t).toNat + 1) : rd (fromTab t l) (s : Int) = rev l (s : Int) := by
  unfold rd fromTab
  rw [Int.toNat_natCast, List.getD_eq_getElem?_getD, List.getElem?_map, List.getElem?_range h]; rfl
theorem fromTab_ent (t : Int) (l : List Int) (s : Nat) (h : s < (allW t).toNat + 1) : ent (fromTab t l) s = (rev l (s : Int)).toNat := by
  unfold ent; rw [fromTab_rd t l s h]
theorem okTab_from {t : Int} {l : List Int} (hr : okR t l = true) (h2 : t ≤ 2) : okTab t (fromTab t l) = true := by
  obtain ⟨g1, g2, g3, g4, g5, g6⟩ := okR_cases hr
  have hA := allW_range g1
  obtain ⟨p1, p2, p3⟩ := allW_pow g1
  have h1 : 1 ≤ t := by rcases okT_cases g1 with rfl | rfl | rfl <;> decide
  unfold okTab
  rw [decide_eq_true h1, decide_eq_true h2, decide_eq_true (by rw [fromTab_len]; omega), Bool.true_and, Bool.true_and, Bool.true_and, List.all_eq_true]
  intro x hx
  unfold fromTab at hx
  obtain ⟨s, hs, rfl⟩ := List.mem_map.1 hx
  have hlt := rev_lt l (s : Int) (nW t).toNat (by omega)
  have e : ((2 : Int) ^ (nW t).toNat) = ((2 ^ (nW t).toNat : Nat) : Int) := by simp
  rw [e, ← p1] at hlt
  unfold okS
  rw [g1]
  simp
  omega
theorem fault_from {t : Int} {l : List Int} (hr : okR t l = true) : fault (fromTab t l) = 0 := by
  obtain ⟨g1, g2, g3, g4, g5, g6⟩ := okR_cases hr
  have h9 : ∀ y ∈ l, y ≤ 9 := fun y hy => (g3 y hy).2
  obtain ⟨p1, p2, p3⟩ := allW_pow g1
  have hn : l.length = (nW t).toNat := by omega
  unfold fault
  have f1 : fault1 (fromTab t l) = true := by
    unfold fault1
    rw [fromTab_len, List.all_eq_true]
    intro s hs
    rw [fromTab_ent t l s (List.mem_range.1 hs), beq_iff_eq]
    exact revN_sub l h9 s
  have f2 : fault2 (fromTab t l) = true := by
    unfold fault2
    rw [fromTab_len, List.all_eq_true]
    intro s hs
    have hs := List.mem_range.1 hs
    rw [fromTab_ent t l s hs]
    by_cases h0 : s = 0
    · simp [h0]
    · have := revN_pos l h9 s h0 (by rw [hn, ← p1]; exact hs)
      simp only [Bool.or_eq_true, beq_iff_eq, Bool.not_eq_true', beq_eq_false_iff_ne]
      exact .inr this
  have f3 : fault3 (fromTab t l) = true := by
    unfold fault3
    rw [fromTab_len, List.all_eq_true]
    intro a ha
    have ha := List.mem_range.1 ha
    rw [List.all_eq_true]
    intro b hb
    have hab : a &&& b ≤ a := Nat.and_le_left
    unfold fault3At
    rw [fromTab_ent t l a ha, fromTab_ent t l (a &&& b) (by omega)]
    by_cases h0 : (rev l (a : Int)).toNat &&& b = 0
    · simp [h0]
    · rw [revN_meet l h9 a b h0]; simp
  rw [if_pos f1, if_pos f2, if_pos f3]
theorem befB_from {t : Int} {l : List Int} (hr : okR t l = true) (v w : Nat) (hv : v < l.length) (hw : w < l.length) : befB (fromTab t l) v w = decide (rd l (v : Int) ≤ rd l (w : Int)) := by
  obtain ⟨g1, g2, g3, g4, g5, g6⟩ := okR_cases hr
  obtain ⟨p1, p2, p3⟩ := allW_pow g1
  have hn : l.length = (nW t).toNat := by omega
  have hlt := pair_lt v w l.length hv hw
  unfold befB
  rw [fromTab_ent t l _ (by rw [p1, ← hn]; exact hlt)]
  have h := rev_pair l v w hv hw (fun y hy => (g3 y hy).2)
  rw [Bool.eq_iff_iff, decide_eq_true_eq]
  exact h
theorem firstB_from {t : Int} {l : List Int} (hr : okR t l = true) (v : Nat) (hv : v < l.length) : ∀ x, x ≤ v → Hand.firstB (fromTab t l) v x = (List.range x).all (fun u => decide (rd l (u : Int) ≠ rd l (v : Int)))
  | 0, _ => rfl
  | x + 1, hx => by
    simp only [Hand.firstB]
    rw [firstB_from hr v hv x (by omega), befB_from hr x v (by omega) hv, befB_from hr v x hv (by omega), List.range_succ, List.all_append]
    congr 1
    simp only [List.all_cons, List.all_nil, Bool.and_true]
    rw [Bool.eq_iff_iff]
    simp only [Bool.not_eq_true', Bool.and_eq_false_imp, decide_eq_true_eq, decide_eq_false_iff_not]
    omega
theorem lotsN_from {t : Int} {l : List Int} (hr : okR t l = true) (w : Nat) (hw : w < l.length) : ∀ n, n ≤ l.length → lotsN (fromTab t l) w n = (List.range n).countP (L.firstB l (rd l (w : Int)))
  | 0, _ => rfl
  | v + 1, hv => by
    simp only [lotsN]
    rw [lotsN_from hr w hw v (by omega), List.range_succ, List.countP_append, firstB_from hr v (by omega) v (Nat.le_refl _), befB_from hr v w (by omega) hw, befB_from hr w v hw (by omega)]
    congr 1
    simp only [List.countP_cons, List.countP_nil, Nat.zero_add]
    have : ((List.range v).all (fun u => decide (rd l (u : Int) ≠ rd l (v : Int))) && (decide (rd l (v : Int) ≤ rd l (w : Int)) && !decide (rd l (w : Int) ≤ rd l (v : Int)))) = L.firstB l (rd l (w : Int)) v := by
      unfold L.firstB
      rw [Bool.and_comm]
      congr 1
      rw [Bool.eq_iff_iff]
      simp only [Bool.and_eq_true, Bool.not_eq_true', decide_eq_true_eq, decide_eq_false_iff_not]
      omega
    rw [this]
theorem ranks_from {t : Int} {l : List Int} (hr : okR t l = true) : fromRanks (fromTab t l) (nW t).toNat = tidyL l := by
  obtain ⟨g1, g2, g3, g4, g5, g6⟩ := okR_cases hr
  have hn : (nW t).toNat = l.length := by omega
  rw [hn]
  apply List.ext_getElem?
  intro i
  unfold fromRanks
  by_cases hi : i < l.length
  · rw [List.getElem?_map, List.getElem?_range hi, rd_get (tidyL l) i (by rw [tidyL_length]; exact hi), tidyL_rd l i hi]
    simp only [Option.map_some]
    have h0 := g3 _ (rd_mem l i hi)
    obtain ⟨x, hx⟩ := Int.eq_ofNat_of_zero_le h0.1
    rw [lotsN_from hr i hi l.length (Nat.le_refl _), hx, Int.toNat_natCast, cnt_lots l x (fun y hy => (g3 y hy).1)]
  · rw [List.getElem?_eq_none (by simp; omega), List.getElem?_eq_none (by rw [tidyL_length]; omega)]
end Go.Proofs.Ytniniocdniegnaa.L
namespace Go.Proofs.Ytniniocdniegnaa.L
open Go.RowKit Go.Proofs.Ytniniocdniegnaa.B Go.Proofs.Ytniniocdniegnaa.Y Go.Proofs.Ytniniocdniegnaa.Hand Go.Proofs.YtniniocdniegnaaW.PrintWords Go.Proofs.YtniniocdniegnaaW.PrintLast Go.Proofs.YtniniocdniegnaaW.PrintMore
set_option linter.unusedVariables false
set_option linter.unusedSimpArgs false
/-- What the postulates say of a row T of entries of the sets of n worlds. -/
structure Rat (n : Nat) (T : Nat → Nat) : Prop where
  sub : ∀ s, s < 2 ^ n → T s &&& s = T s
  pos : ∀ s, s < 2 ^ n → s ≠ 0 → T s ≠ 0
  meet : ∀ a b, a < 2 ^ n → b < 2 ^ n → T a &&& b ≠ 0 → T a &&& b = T (a &&& b)
/-- The set of two worlds. -/
def two (v w : Nat) : Nat := 2 ^ v ||| 2 ^ w
theorem two_bit (v w i : Nat) : (two v w).testBit i = (decide (v = i) || decide (w = i)) := by
  unfold two; rw [Nat.testBit_or, Nat.testBit_two_pow, Nat.testBit_two_pow]
theorem two_lt {n v w : Nat} (hv : v < n) (hw : w < n) : two v w < 2 ^ n := Nat.or_lt_two_pow (two_le hv) (two_le hw)
theorem bit_lt {n s i : Nat} (hs : s < 2 ^ n) (hi : s.testBit i = true) : i < n := by
  by_cases h : i < n
  · exact h
  · rw [Nat.testBit_lt_two_pow (Nat.lt_of_lt_of_le hs (Nat.pow_le_pow_right (n := 2) (by decide) (by omega)))] at hi; cases hi
/-- Of a set, two worlds: if one of them is in the entry, the entry of both tells which are. -/
theorem Rat.pair {n : Nat} {T : Nat → Nat} (h : Rat n T) {s v w : Nat} (hs : s < 2 ^ n) (hv : s.testBit v = true) (hw : s.testBit w = true) (hE : (T s).testBit v = true ∨ (T s).testBit w = true) (i : Nat) (hi : i = v ∨ i = w) : (T (two v w)).testBit i = (T s).testBit i := by
  have hvn := bit_lt hs hv
  have hwn := bit_lt hs hw
  have h2 := two_lt hvn hwn
  have hst : s &&& two v w = two v w := by
    apply Nat.eq_of_testBit_eq
    intro j
    rw [Nat.testBit_and, two_bit]
    by_cases e1 : v = j
    · subst e1; simp [hv]
    · by_cases e2 : w = j
      · subst e2; simp [hw]
      · simp [e1, e2]
  have hne : T s &&& two v w ≠ 0 := by
    intro h0
    rcases hE with hE | hE
    · have : (T s &&& two v w).testBit v = true := by rw [Nat.testBit_and, hE, two_bit]; simp
      rw [h0, Nat.zero_testBit] at this; cases this
    · have : (T s &&& two v w).testBit w = true := by rw [Nat.testBit_and, hE, two_bit]; simp
      rw [h0, Nat.zero_testBit] at this; cases this
  have hm := h.meet s (two v w) hs h2 hne
  rw [hst] at hm
  rw [← hm, Nat.testBit_and, two_bit]
  rcases hi with rfl | rfl <;> simp
end Go.Proofs.Ytniniocdniegnaa.L
namespace Go.Proofs.Ytniniocdniegnaa.Pure
open Go.RowKit Go.Proofs.Ytniniocdniegnaa.B Go.Proofs.Ytniniocdniegnaa.Y Go.Proofs.Ytniniocdniegnaa.Hand Go.Proofs.Ytniniocdniegnaa.L Go.Proofs.YtniniocdniegnaaW.PrintWords Go.Proofs.YtniniocdniegnaaW.PrintLast Go.Proofs.YtniniocdniegnaaW.PrintMore
set_option linter.unusedVariables false
set_option linter.unusedSimpArgs false
/-- The ranks of the full meet by a set: 0 for its worlds, and 1 for the others. -/
def mr (n c : Nat) : List Int := (List.range n).map fun w => if c.testBit w = true then 0 else 1
theorem mr_len (n c : Nat) : (mr n c).length = n := by unfold mr; simp
theorem mr_rd (n c w : Nat) (h : w < n) : rd (mr n c) (w : Int) = if c.testBit w = true then 0 else 1 := by
  unfold rd mr
  rw [Int.toNat_natCast, List.getD_eq_getElem?_getD, List.getElem?_map, List.getElem?_range h]; rfl
theorem mr_mem (n c : Nat) : ∀ x ∈ mr n c, 0 ≤ x ∧ x ≤ 1 := by
  intro x hx
  unfold mr at hx
  obtain ⟨w, hw, rfl⟩ := List.mem_map.1 hx
  split <;> omega
theorem mr_ok {t : Int} (ht : okT t = true) (c : Nat) (hc : c ≠ 0) (hc2 : (c : Int) ≤ allW t) : okR t (mr (nW t).toNat c) = true := by
  obtain ⟨p1, p2, p3⟩ := allW_pow ht
  have hn := nW_pos ht
  unfold okR
  rw [ht, Bool.true_and, Bool.and_eq_true, Bool.and_eq_true, decide_eq_true_eq, List.all_eq_true, List.any_eq_true]
  refine ⟨by rw [mr_len]; omega, fun x hx => by have := mr_mem _ _ x hx; simp; omega, ?_⟩
  obtain ⟨i, hi⟩ := exists_bit hc
  have hin := bit_lt (n := (nW t).toNat) (show c < _ by omega) hi
  refine ⟨rd (mr (nW t).toNat c) (i : Int), rd_mem _ i (by rw [mr_len]; exact hin), ?_⟩
  rw [mr_rd _ _ i hin, hi]; rfl
theorem mr_rev (n c s : Nat) (hs : s < 2 ^ n) (hc : c < 2 ^ n) (hn : n ≤ 8) : rev (mr n c) (s : Int) = maxE (c : Int) s := by
  have h9 : ∀ y ∈ mr n c, y ≤ 9 := fun y hy => by have := mr_mem n c y hy; omega
  obtain ⟨r, hr, r1⟩ := rev_nat (mr n c) (s : Int) (by rw [mr_len]; exact hn)
  have hiff := fun w => revN_iff (mr n c) h9 s w
  rw [hr] at hiff ⊢
  simp only [Int.toNat_natCast, mr_len] at hiff
  have key : r = if s &&& c = 0 then s else s &&& c := by
    apply Nat.eq_of_testBit_eq
    intro w
    rw [Bool.eq_iff_iff, hiff w]
    by_cases h0 : s &&& c = 0
    · rw [if_pos h0]
      have hno : ∀ v, s.testBit v = true → c.testBit v = false := fun v hv => by
        have : (s &&& c).testBit v = false := by rw [h0, Nat.zero_testBit]
        rw [Nat.testBit_and, hv] at this; simpa using this
      constructor
      · exact fun h => h.2.1
      · intro hw
        have hwn := bit_lt hs hw
        refine ⟨hwn, hw, fun v hvn hv => ?_⟩
        rw [mr_rd n c w hwn, mr_rd n c v hvn, hno w hw, hno v hv]; omega
    · rw [if_neg h0]
      obtain ⟨u, hu⟩ := exists_bit h0
      rw [Nat.testBit_and, Bool.and_eq_true] at hu
      have hun := bit_lt hs hu.1
      constructor
      · rintro ⟨q1, q2, q3⟩
        have := q3 u hun hu.1
        rw [mr_rd n c w q1, mr_rd n c u hun, hu.2] at this
        rw [Nat.testBit_and, q2, Bool.true_and]
        cases hcw : c.testBit w with
        | true => rfl
        | false => rw [hcw] at this; simp at this
      · intro hw
        rw [Nat.testBit_and, Bool.and_eq_true] at hw
        have hwn := bit_lt hs hw.1
        refine ⟨hwn, hw.1, fun v hvn hv => ?_⟩
        rw [mr_rd n c w hwn, mr_rd n c v hvn, hw.2]
        cases c.testBit v <;> decide
  unfold maxE
  rw [Int.toNat_natCast, key]
  split <;> rfl
theorem max_from {t : Int} (ht : okT t = true) (c : Nat) (hc2 : (c : Int) ≤ allW t) : maxTab t (c : Int) = fromTab t (mr (nW t).toNat c) := by
  obtain ⟨p1, p2, p3⟩ := allW_pow ht
  unfold maxTab fromTab
  apply List.map_congr_left
  intro s hs
  have hs := List.mem_range.1 hs
  rw [mr_rev _ c s (by omega) (by omega) p2]
theorem cnt_one (l : List Int) (h : (0 : Int) ∈ l) : cnt l 1 = 1 := by
  rw [cnt_succ, if_pos (List.any_eq_true.2 ⟨0, h, by simp⟩)]; rfl
theorem mr_tidy (n c : Nat) (h : (0 : Int) ∈ mr n c) : tidyL (mr n c) = mr n c := by
  apply List.ext_getElem?
  intro i
  by_cases hi : i < n
  · rw [rd_get (tidyL (mr n c)) i (by rw [tidyL_length, mr_len]; exact hi), rd_get (mr n c) i (by rw [mr_len]; exact hi), tidyL_rd _ i (by rw [mr_len]; exact hi), mr_rd n c i hi]
    congr 1
    cases c.testBit i with
    | true => rfl
    | false =>
      simp only [Bool.false_eq_true, if_false]
      rw [show (1 : Int).toNat = 1 from rfl, cnt_one _ h]; rfl
  · rw [List.getElem?_eq_none (by rw [tidyL_length, mr_len]; omega), List.getElem?_eq_none (by rw [mr_len]; omega)]
theorem mr_core (n c : Nat) (hc : c < 2 ^ n) : core (mr n c) = (c : Int) := by
  unfold core
  rw [mr_len, ← sumN_bits n c hc]
  congr 1
  rw [sumN_bits n c hc]
  conv => rhs; rw [← sumN_bits n c hc]
  apply sumN_congr
  intro i hi
  rw [mr_rd n c i hi]
  cases c.testBit i <;> rfl
theorem loop_ok (t : Int) (c : Nat) (n : Nat) (tab : List Int) (k0 : Nat) (hn : n ≤ 8)
    (hfin : ∀ k, k0 ≤ k → (impl_FirstFault.f k t tab).bind (fun t686 => (if t686 = 0 then (if true = true then ((impl_CoreOf.f k t (mr n c)).bind fun t687 => (some (t687 == (c : Int)))) else (some false)) else (some false))) = some true) :
    ∀ (d i k : Nat), i + d = n → k0 + d < k → laws_FnMaxTable.l0 k t (c : Int) tab (mr n c) true i = some true := by
  intro d
  induction d with
  | zero =>
    intro i k hi hk
    obtain ⟨q, rfl⟩ : ∃ q, k = q + 1 := ⟨k - 1, by omega⟩
    simp only [laws_FnMaxTable.l0]
    rw [if_neg (by rw [mr_len]; omega)]
    exact hfin q (by omega)
  | succ d ih =>
    intro i k hi hk
    obtain ⟨q, rfl⟩ : ∃ q, k = q + 1 := ⟨k - 1, by omega⟩
    simp only [laws_FnMaxTable.l0]
    rw [if_pos (by rw [mr_len]; omega), if_pos (by omega), mr_rd n c i (by omega), shr_nat c i (by omega), tmod2, next64 i (by omega)]
    rw [if_pos (by cases c.testBit i <;> simp <;> decide +kernel)]
    exact ih (i + 1) q (by omega) (by omega)
theorem few_things (v u : Int) (v0 : 0 ≤ v) (v1 : v < 2) (u0 : 0 ≤ u) (u1 : u < 20) : ∃ t : Int, wrap64 (wrap64 (1 + v) + wrap64 (Int.tdiv u 19)) = t ∧ 1 ≤ t ∧ t ≤ 3 := by
  have h0 : 0 ≤ Int.tdiv u 19 := Int.tdiv_nonneg u0 (by decide)
  have h1 : Int.tdiv u 19 ≤ 1 := by
    rw [Int.tdiv_eq_ediv_of_nonneg u0]; omega
  rw [w64 (n := 1 + v) (by omega) (by omega), w64 (n := Int.tdiv u 19) (by omega) (by omega), w64 (by omega) (by omega)]
  exact ⟨_, rfl, by omega, by omega⟩
theorem draw_ok (l0 : List Int) (hb : ∀ x ∈ l0, (Lit.int .u8 x).wf = true) : ∃ (t c : Int), ∀ k, 100 ≤ k → spec_DrawMaxTable.f k l0 = some (t, c) := by
  obtain ⟨b, hB, ho⟩ := open_ok l0 hb
  obtain ⟨v, v0, v1, hv⟩ := pick_ok hB 0 2 (by omega) (by omega) (by omega) (by omega)
  obtain ⟨u, u0, u1, hu⟩ := pick_ok hB (0 + 1) 20 (by omega) (by omega) (by omega) (by omega)
  obtain ⟨t, ht, t0, t1⟩ := few_things v u v0 v1 u0 u1
  obtain ⟨c, p, _, _, _, _, hs⟩ := set_ok hB (0 + 1 + 1) t 12 (by omega) (by omega) (by omega) (by omega)
  refine ⟨t, c, fun k hk => ?_⟩
  unfold spec_DrawMaxTable.f
  rw [ho]
  simp only [Option.bind_some]
  rw [hv k (by omega)]
  simp only [Option.bind_some]
  rw [hu k (by omega)]
  simp only [Option.bind_some]
  rw [ht, hs k (by omega)]
  simp only [Option.bind_some]
theorem FnMaxTable : laws_FnMaxTable.Pure := by
  intro l0 _ _ hb
  obtain ⟨k, hk⟩ : ∃ k : Nat, 100000 ≤ k := ⟨_, Nat.le_refl _⟩
  refine ⟨k, ?_⟩
  unfold laws_FnMaxTable.f
  by_cases hl : (l0.length : Int) > 1048576
  · rw [if_pos hl]
  · rw [if_neg hl]
    obtain ⟨t, c, hd⟩ := draw_ok l0 hb
    rw [hd k (by omega)]
    simp only [Option.bind_some]
    rw [MaxTable_eq t c, sMaxTable_eq t c k (by omega)]
    simp only [Option.bind_some]
    have hlen := maxTab_len t c
    rw [sameInts_refl _ k (by omega) (by omega)]
    simp only [Option.bind_some, if_true]
    by_cases h : t ≤ 2 ∧ okS t c = true ∧ ¬ c = 0
    · rw [if_pos h]
      obtain ⟨g1, g2, g3, g4⟩ := okS_cases h.2.1
      obtain ⟨a, rfl, a1, a2⟩ := set_nat h.2.1
      have hA := allW_range g1
      obtain ⟨p1, p2, p3⟩ := allW_pow g1
      have hR := mr_ok g1 a (by have := h.2.2; omega) a2
      have hok := okTab_from hR h.1
      have hfa := fault_from hR
      have hml : (maxTab t (a : Int)).length = (allW t).toNat + 1 := by unfold maxTab; simp
      have h0 : (0 : Int) ∈ mr (nW t).toNat a := (okR_cases hR).2.2.2.1
      have hrk := ranks_from hR
      rw [mr_tidy _ _ h0] at hrk
      have hco := mr_core (nW t).toNat a (by omega)
      rw [if_neg (by omega), max_from g1 a a2, show impl_RankFrom.f t (fromTab t (mr (nW t).toNat a)) = some (fromRanks (fromTab t (mr (nW t).toNat a)) (nW t).toNat, true) by unfold impl_RankFrom.f; rw [if_pos ⟨hok, hfa⟩]]
      simp only [Option.bind_some]
      rw [hrk]
      exact loop_ok t a (nW t).toNat _ 80000 p2 (fun k hk => by
        rw [FirstFault_eq t _ k (by omega)]
        unfold fauE
        rw [if_pos hok, hfa]
        simp only [Option.bind_some, if_true]
        rw [CoreOf_eq t _ k (by omega)]
        unfold coreE
        rw [if_pos hR, hco]
        simp) (nW t).toNat 0 k (by omega) (by omega)
    · rw [if_neg h, if_pos (by simp), alive_eq]; rfl
end Go.Proofs.Ytniniocdniegnaa.Pure
