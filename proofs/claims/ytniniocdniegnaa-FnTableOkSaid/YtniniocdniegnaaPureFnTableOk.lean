/- The law FnTableOk, for all arguments. -/
import Derived.Test.YtniniocdniegnaaHm
import Derived.Test.YtniniocdniegnaaHandF
import Derived.Test.YtniniocdniegnaaQx1
import Derived.Test.YtniniocdniegnaaQx2
import Derived.Test.YtniniocdniegnaaQx3
import Derived.Test.YtniniocdniegnaaQx4
namespace Go.Proofs.Ytniniocdniegnaa.L
open Go.RowKit Go.Proofs.Ytniniocdniegnaa.B Go.Proofs.Ytniniocdniegnaa.Q Go.Proofs.Ytniniocdniegnaa.Hand Go.Proofs.YtniniocdniegnaaW.PrintWords Go.Proofs.YtniniocdniegnaaW.PrintLast Go.Proofs.YtniniocdniegnaaW.PrintMore
set_option linter.unusedVariables false
set_option linter.unusedSimpArgs false
theorem l1In_eq (a b c : Int) : spec_l1In.f a b c = some (decide (b ≤ a) && decide (a ≤ c)) := by
  unfold spec_l1In.f
  by_cases h : a ≥ b
  · rw [if_pos h]; simp [show b ≤ a from h]
  · rw [if_neg h]; simp [show ¬ b ≤ a from h]
theorem l1In_13 (a : Int) : spec_l1In.f a 1 3 = some (okT a) := l1In_eq a 1 3
theorem l1All_eq (a : Int) (h : okT a = true) : spec_l1All.f a = some (allW a) := by
  unfold spec_l1All.f allF; rw [if_pos h]
theorem sSetOk_eq (t s : Int) : spec_SetOk.f t s = some (okS t s) := by
  unfold spec_SetOk.f okS
  rw [l1In_13]
  simp only [Option.bind_some]
  cases h : okT t with
  | false => simp
  | true =>
    rw [l1All_eq t h]
    simp [l1In_eq]
theorem sWorldsOf_eq (t : Int) : spec_WorldsOf.f t = some (nW t) := by
  unfold spec_WorldsOf.f nW
  rw [l1In_13]
  simp only [Option.bind_some]
  cases h : okT t with
  | false => simp
  | true => rcases okT_cases h with rfl | rfl | rfl <;> decide +kernel
end Go.Proofs.Ytniniocdniegnaa.L
namespace Go.Proofs.Ytniniocdniegnaa.L
open Go.RowKit Go.Proofs.Ytniniocdniegnaa.B Go.Proofs.Ytniniocdniegnaa.Q Go.Proofs.Ytniniocdniegnaa.Hand Go.Proofs.YtniniocdniegnaaW.PrintWords Go.Proofs.YtniniocdniegnaaW.PrintLast Go.Proofs.YtniniocdniegnaaW.PrintMore
set_option linter.unusedVariables false
set_option linter.unusedSimpArgs false
theorem xor_i64 (a b : Nat) (ha : a < 2 ^ 62) (hb : b < 2 ^ 62) : bits .xor .i64 a b = ((a ^^^ b : Nat) : Int) := by
  have hx : a ^^^ b < 2 ^ 62 := Nat.xor_lt_two_pow ha hb
  simp only [bits, BitVec.ofInt_natCast, BitVec.toNat_xor, BitVec.toNat_ofNat]
  have e : IntKind.i64.bits = 64 := rfl
  rw [e, Nat.mod_eq_of_lt (by omega), Nat.mod_eq_of_lt (by omega)]
  exact wraps_i64 _ (by omega) (by omega)
theorem xor_nonneg (x y : Int) (hx : 0 ≤ x) (hx2 : x < 4611686018427387904) (hy : 0 ≤ y) (hy2 : y < 4611686018427387904) : 0 ≤ bits .xor .i64 x y := by
  obtain ⟨a, rfl⟩ := Int.eq_ofNat_of_zero_le hx
  obtain ⟨b, rfl⟩ := Int.eq_ofNat_of_zero_le hy
  rw [xor_i64 a b (by omega) (by omega)]
  omega
/-- A reader's bytes. -/
structure Rd (b : List Int) : Prop where
  byte : ∀ x, x ∈ b → 0 ≤ x ∧ x ≤ 255
  len : b.length ≤ 2000
theorem Rd.at_ {b : List Int} (h : Rd b) (i : Int) : 0 ≤ rd b i ∧ rd b i ≤ 255 := by
  unfold rd
  rw [List.getD_eq_getElem?_getD]
  by_cases e : i.toNat < b.length
  · rw [List.getElem?_eq_getElem e]; exact h.byte _ (List.getElem_mem e)
  · rw [List.getElem?_eq_none (by omega)]; simp
theorem pick_ok {b : List Int} (hb : Rd b) (p n : Int) (hp : 0 ≤ p) (hp2 : p ≤ 1000000) (hn : 1 ≤ n) (hn2 : n ≤ 1000000) :
    ∃ v, 0 ≤ v ∧ v < n ∧ ∀ k, 1 ≤ k → spec_l20Rd_pick.f k b p n = some (v, p + 1) := by
  have e1 : wrap64 (p + 1) = p + 1 := w64 (by omega) (by omega)
  have e2 : wrap64 (p + 1 - 1) = p := by rw [w64 (by omega) (by omega)]; omega
  by_cases hl : (b.length : Int) = 0
  · refine ⟨0, by omega, by omega, fun k hk => ?_⟩
    obtain ⟨m, rfl⟩ : ∃ m, k = m + 1 := ⟨k - 1, by omega⟩
    unfold spec_l20Rd_pick.f
    rw [if_neg (by omega), e1]
    simp only [spec_l20Rd_pick.j0]
    rw [if_pos (by rw [hl]; rfl)]
  · have hlen : 0 < (b.length : Int) := by omega
    have hlen2 : (b.length : Int) ≤ 2000 := by have := hb.len; omega
    have hle : ¬ (((b.length : Int) == 0) = true) := fun h => hl (beq_iff_eq.1 h)
    by_cases hlt : p < (b.length : Int)
    · have hr := hb.at_ p
      refine ⟨Int.tmod (rd b p) n, Int.tmod_nonneg _ hr.1, Int.tmod_lt_of_pos _ (by omega), fun k hk => ?_⟩
      obtain ⟨m, rfl⟩ : ∃ m, k = m + 1 := ⟨k - 1, by omega⟩
      unfold spec_l20Rd_pick.f
      rw [if_neg (by omega), e1]
      simp only [spec_l20Rd_pick.j0]
      rw [if_neg hle, e2, if_pos hlt, if_pos hp, if_neg (by omega), w64 (n := rd b p) (by omega) (by omega)]
    · have m1 : 0 ≤ Int.tmod p (b.length : Int) := Int.tmod_nonneg _ hp
      have m2 : Int.tmod p (b.length : Int) < (b.length : Int) := Int.tmod_lt_of_pos _ hlen
      have e3 : wrap64 (wrap64 (p * 7) + 3) = p * 7 + 3 := by rw [w64 (n := p * 7) (by omega) (by omega), w64 (by omega) (by omega)]
      have m3 : 0 ≤ Int.tmod (p * 7 + 3) (b.length : Int) := Int.tmod_nonneg _ (by omega)
      have m4 : Int.tmod (p * 7 + 3) (b.length : Int) < (b.length : Int) := Int.tmod_lt_of_pos _ hlen
      have a1 := hb.at_ (Int.tmod p (b.length : Int))
      have a2 := hb.at_ (Int.tmod (p * 7 + 3) (b.length : Int))
      have d1 : 0 ≤ Int.tdiv p (b.length : Int) := Int.tdiv_nonneg hp (by omega)
      have d2 : Int.tdiv p (b.length : Int) ≤ p := by
        rw [Int.tdiv_eq_ediv_of_nonneg hp]
        exact Int.ediv_le_self _ hp
      generalize hA : rd b (Int.tmod p (b.length : Int)) = A at a1
      generalize hB : rd b (Int.tmod (p * 7 + 3) (b.length : Int)) = B at a2
      generalize hD : Int.tdiv p (b.length : Int) = D at d1 d2
      have eY : wrap64 (wrap64 (wrap64 (wrap64 (wrap64 A * 131) + wrap64 (wrap64 B * 1117)) + wrap64 (p * 29)) + wrap64 (wrap64 D * 53)) = A * 131 + B * 1117 + p * 29 + D * 53 := by
        rw [w64 (n := A) (by omega) (by omega), w64 (n := B) (by omega) (by omega), w64 (n := D) (by omega) (by omega), w64 (n := A * 131) (by omega) (by omega), w64 (n := B * 1117) (by omega) (by omega), w64 (n := p * 29) (by omega) (by omega), w64 (n := D * 53) (by omega) (by omega), w64 (n := A * 131 + B * 1117) (by omega) (by omega), w64 (n := A * 131 + B * 1117 + p * 29) (by omega) (by omega), w64 (by omega) (by omega)]
      generalize hY : A * 131 + B * 1117 + p * 29 + D * 53 = Y at eY
      have y1 : 0 ≤ Y := by omega
      have y2 : Y ≤ 200000000 := by omega
      have eq : Int.tdiv Y 64 = Y / 64 := Int.tdiv_eq_ediv_of_nonneg y1
      have hx : 0 ≤ Go.bits .xor .i64 Y (wrap64 (Int.tdiv Y 64)) := by
        rw [eq, w64 (by omega) (by omega)]
        exact xor_nonneg _ _ y1 (by omega) (by omega) (by omega)
      refine ⟨Int.tmod (Go.bits .xor .i64 Y (wrap64 (Int.tdiv Y 64))) n, Int.tmod_nonneg _ hx, Int.tmod_lt_of_pos _ (by omega), fun k hk => ?_⟩
      obtain ⟨m, rfl⟩ : ∃ m, k = m + 1 := ⟨k - 1, by omega⟩
      unfold spec_l20Rd_pick.f
      rw [if_neg (by omega), e1]
      simp only [spec_l20Rd_pick.j0]
      rw [if_neg hle, e2, if_neg hlt, if_neg hl, if_pos m1, if_pos m2, e3, if_pos m3, if_pos m4, if_neg (by omega), hA, hB, hD, eY]
theorem odd_ok {b : List Int} (hb : Rd b) (p n : Int) (hp : 0 ≤ p) (hp2 : p ≤ 1000000) (hn : 0 ≤ n) (hn2 : n ≤ 1000000) :
    ∃ (v : Bool) (p' : Int), p ≤ p' ∧ p' ≤ p + 1 ∧ ∀ k, 1 ≤ k → spec_l20Rd_odd.f k b p n = some (v, p') := by
  by_cases h : n > 0
  · obtain ⟨v, h0, h1, hv⟩ := pick_ok hb p n hp hp2 (by omega) hn2
    exact ⟨v == wrap64 (n - 1), p + 1, by omega, by omega, fun k hk => by unfold spec_l20Rd_odd.f; rw [if_pos h, hv k hk]; rfl⟩
  · exact ⟨false, p, by omega, by omega, fun k hk => by unfold spec_l20Rd_odd.f; rw [if_neg h]⟩
theorem open_ok (l0 : List Int) (hb : ∀ x ∈ l0, (Lit.int .u8 x).wf = true) : ∃ b, Rd b ∧ spec_l20Open.f l0 = some (b, 0) := by
  have hx : ∀ x ∈ l0, 0 ≤ x ∧ x ≤ 255 := fun x hx => by
    have := hb x hx
    simp [Lit.wf, IntKind.min, IntKind.max, IntKind.bits, IntKind.signed] at this
    omega
  unfold spec_l20Open.f
  by_cases h : (l0.length : Int) > 2000
  · rw [if_pos h, if_pos (by omega)]
    exact ⟨l0.take 2000, ⟨fun x hm => hx x (List.mem_of_mem_take hm), by simp; omega⟩, rfl⟩
  · rw [if_neg h]
    exact ⟨l0, ⟨hx, by omega⟩, rfl⟩
end Go.Proofs.Ytniniocdniegnaa.L
namespace Go.Proofs.Ytniniocdniegnaa.L
open Go.RowKit Go.Proofs.Ytniniocdniegnaa.B Go.Proofs.Ytniniocdniegnaa.Q Go.Proofs.Ytniniocdniegnaa.Hand Go.Proofs.YtniniocdniegnaaW.PrintWords Go.Proofs.YtniniocdniegnaaW.PrintLast Go.Proofs.YtniniocdniegnaaW.PrintMore
set_option linter.unusedVariables false
set_option linter.unusedSimpArgs false
theorem bit_nat (a w : Nat) (hw : w ≤ 62) : spec_l1Bit.f (a : Int) (w : Int) = some (if a.testBit w = true then 1 else 0) := by
  unfold spec_l1Bit.f
  rw [if_pos (by omega), shr_nat a w hw, tmod2]
theorem both_l0 (a b : Nat) : ∀ (d w k : Nat), w + d = 8 → d < k →
    spec_l1Both.l0 k a b (sumN w (fun i => a.testBit i && b.testBit i) : Nat) w = some ((sumN 8 (fun i => a.testBit i && b.testBit i) : Nat) : Int) := by
  intro d
  induction d with
  | zero =>
    intro w k hw hk
    obtain ⟨m, rfl⟩ : ∃ m, k = m + 1 := ⟨k - 1, by omega⟩
    obtain rfl : w = 8 := by omega
    simp only [spec_l1Both.l0]
    rw [if_neg (by omega)]
  | succ d ih =>
    intro w k hw hk
    obtain ⟨m, rfl⟩ : ∃ m, k = m + 1 := ⟨k - 1, by omega⟩
    have hlt := sumN_lt w (fun i => a.testBit i && b.testBit i)
    have hp : 2 ^ w ≤ 2 ^ 7 := Nat.pow_le_pow_right (by decide) (by omega)
    have e1 : wrap64 ((w : Int) + 1) = ((w + 1 : Nat) : Int) := by rw [w64 (by omega) (by omega)]; simp
    have key : ∀ x y : Bool, wrap64 (((sumN w (fun i => a.testBit i && b.testBit i) : Nat) : Int) + shl .i64 (wrap64 ((if x = true then 1 else 0) * (if y = true then 1 else 0))) (w : Int)) = ((sumN w (fun i => a.testBit i && b.testBit i) + (if (x && y) = true then 2 ^ w else 0) : Nat) : Int) := by
      intro x y
      generalize sumN w (fun i => a.testBit i && b.testBit i) = q at hlt
      have s0 : shl .i64 (wrap64 0) (w : Int) = 0 := by
        have := shl_nat 0 w (by omega) (by omega)
        rw [Nat.zero_mul] at this
        rw [show wrap64 0 = 0 from w64 (by omega) (by omega)]
        exact this
      have s1 : shl .i64 (wrap64 1) (w : Int) = ((2 ^ w : Nat) : Int) := by
        have := shl_nat 1 w (by omega) (by omega)
        rw [Nat.one_mul] at this
        rw [show wrap64 1 = 1 from w64 (by omega) (by omega)]
        exact this
      generalize 2 ^ w = e at s1 hlt hp
      cases x <;> cases y
      · show wrap64 ((q : Int) + shl .i64 (wrap64 0) (w : Int)) = _
        rw [s0, w64 (by omega) (by omega)]; simp
      · show wrap64 ((q : Int) + shl .i64 (wrap64 0) (w : Int)) = _
        rw [s0, w64 (by omega) (by omega)]; simp
      · show wrap64 ((q : Int) + shl .i64 (wrap64 0) (w : Int)) = _
        rw [s0, w64 (by omega) (by omega)]; simp
      · show wrap64 ((q : Int) + shl .i64 (wrap64 1) (w : Int)) = _
        rw [s1, w64 (by omega) (by omega)]; simp
    have key := key (a.testBit w) (b.testBit w)
    rw [show sumN w (fun i => a.testBit i && b.testBit i) + (if (a.testBit w && b.testBit w) = true then 2 ^ w else 0) = sumN (w + 1) (fun i => a.testBit i && b.testBit i) from rfl] at key
    simp only [spec_l1Both.l0]
    rw [if_pos (by omega), bit_nat a w (by omega)]
    simp only [Option.bind_some]
    rw [bit_nat b w (by omega)]
    simp only [Option.bind_some]
    rw [if_pos (by omega), key, e1]
    exact ih (w + 1) m (by omega) (by omega)
/-- What is in both sets. -/
theorem both_nat (a b k : Nat) (ha : a < 256) (hk : 9 ≤ k) : spec_l1Both.f k (a : Int) (b : Int) = some ((a &&& b : Nat) : Int) := by
  have h := both_l0 a b 8 0 k (by omega) (by omega)
  have e : sumN 8 (fun i => a.testBit i && b.testBit i) = a &&& b := by
    have h2 : a &&& b < 2 ^ 8 := Nat.lt_of_le_of_lt Nat.and_le_left ha
    rw [← sumN_bits 8 (a &&& b) h2]
    exact sumN_congr _ _ _ fun i _ => by rw [Nat.testBit_and]
  rw [e] at h
  unfold spec_l1Both.f
  simpa [sumN] using h
theorem both_int (a b : Int) (k : Nat) (ha : 0 ≤ a) (ha2 : a < 256) (hb : 0 ≤ b) (hk : 9 ≤ k) : spec_l1Both.f k a b = some ((a.toNat &&& b.toNat : Nat) : Int) := by
  obtain ⟨x, rfl⟩ := Int.eq_ofNat_of_zero_le ha
  obtain ⟨y, rfl⟩ := Int.eq_ofNat_of_zero_le hb
  exact both_nat x y k (by omega) hk
end Go.Proofs.Ytniniocdniegnaa.L
namespace Go.Proofs.Ytniniocdniegnaa.L
open Go.RowKit Go.Proofs.Ytniniocdniegnaa.B Go.Proofs.Ytniniocdniegnaa.Q Go.Proofs.Ytniniocdniegnaa.Hand Go.Proofs.YtniniocdniegnaaW.PrintWords Go.Proofs.YtniniocdniegnaaW.PrintLast Go.Proofs.YtniniocdniegnaaW.PrintMore
set_option linter.unusedVariables false
set_option linter.unusedSimpArgs false
theorem sRankOk_l0 (t : Int) (l : List Int) (hl : l.length ≤ 2000000) : ∀ (d i k : Nat) (m : Int), i + d = l.length → d < k →
    spec_RankOk.l0 k t l m i = some ((l.drop i).all (fun x => decide (0 ≤ x) && decide (x ≤ 9)) && (okT t && (decide ((l.length : Int) = nW t) && (mnL m (l.drop i) == 0)))) := by
  intro d
  induction d with
  | zero =>
    intro i k m hi hk
    obtain ⟨q, rfl⟩ : ∃ q, k = q + 1 := ⟨k - 1, by omega⟩
    simp only [spec_RankOk.l0]
    rw [if_neg (by omega), List.drop_eq_nil_of_le (by omega), l1In_13]
    simp only [Option.bind_some]
    cases ht : okT t with
    | false => simp
    | true =>
      have hpos : 0 ≤ t := by rcases okT_cases ht with rfl | rfl | rfl <;> omega
      rw [if_pos rfl, if_pos hpos, (nW_pos ht).2.2]
      by_cases h : (l.length : Int) = nW t
      · rw [if_pos h]; simp [h, mnL]
      · rw [if_neg h]; simp [h]
  | succ d ih =>
    intro i k m hi hk
    obtain ⟨q, rfl⟩ : ∃ q, k = q + 1 := ⟨k - 1, by omega⟩
    simp only [spec_RankOk.l0]
    rw [if_pos (by omega), if_pos (by omega), l1In_eq, drop_cons l i (by omega)]
    simp only [Option.bind_some, List.all_cons]
    cases hx : (decide (0 ≤ rd l (i : Int)) && decide (rd l (i : Int) ≤ 9)) with
    | false => simp
    | true =>
      rw [if_pos rfl, next64 i (by omega), ih (i + 1) q _ (by omega) (by omega)]
      simp [mnL]
theorem sRankOk_eq (t : Int) (l : List Int) (k : Nat) (hl : l.length ≤ 2000000) (hk : l.length < k) : spec_RankOk.f k t l = some (okR t l) := by
  have h := sRankOk_l0 t l hl l.length 0 k 9 (by omega) hk
  unfold spec_RankOk.f
  rw [show ((0 : Nat) : Int) = 0 from rfl] at h
  rw [h]
  congr 1
  rw [List.drop_zero]
  unfold okR
  have a1 := mnL_le l 9
  have a2 := mnL_mem l 9
  rw [Bool.eq_iff_iff]
  simp only [Bool.and_eq_true, List.all_eq_true, List.any_eq_true, decide_eq_true_eq, beq_iff_eq]
  constructor
  · rintro ⟨h1, h2, h3, h4⟩
    rcases a2 with h | h
    · omega
    · exact ⟨h2, h3, h1, _, h, h4⟩
  · rintro ⟨h2, h3, h1, x, hx, rfl⟩
    refine ⟨h1, h2, h3, ?_⟩
    have := a1.2 0 hx
    rcases a2 with h | h
    · have := h1 _ hx; omega
    · have := h1 _ h; omega
end Go.Proofs.Ytniniocdniegnaa.L
namespace Go.Proofs.Ytniniocdniegnaa.L
open Go.RowKit Go.Proofs.Ytniniocdniegnaa.Hand Go.Proofs.YtniniocdniegnaaW.PrintWords
set_option linter.unusedVariables false
set_option linter.unusedSimpArgs false
theorem rd_mem (l : List Int) (i : Nat) (h : i < l.length) : rd l (i : Int) ∈ l := by
  unfold rd
  rw [Int.toNat_natCast, List.getD_eq_getElem?_getD, List.getElem?_eq_getElem h]; exact List.getElem_mem h
/-- Two rows of ranks are in the same order. -/
def Same (a b : List Int) : Prop := a.length = b.length ∧ ∀ i j : Nat, i < a.length → j < a.length → (rd a (i : Int) ≤ rd a (j : Int) ↔ rd b (i : Int) ≤ rd b (j : Int))
theorem Same.symm {a b : List Int} (h : Same a b) : Same b a := ⟨h.1.symm, fun i j hi hj => (h.2 i j (by rw [h.1]; exact hi) (by rw [h.1]; exact hj)).symm⟩
theorem leastN_le (l : List Int) (s : Int) : ∀ n, leastN l s n ≤ 10 ∧ ∀ v : Nat, v < n → bit s v = true → leastN l s n ≤ rd l (v : Int)
  | 0 => ⟨Int.le_refl _, fun v hv => absurd hv (by omega)⟩
  | n + 1 => by
    obtain ⟨h1, h2⟩ := leastN_le l s n
    simp only [leastN]
    cases hb : bit s n with
    | true =>
      rw [if_pos rfl]
      have hm : mn (leastN l s n) (rd l (n : Int)) ≤ leastN l s n ∧ mn (leastN l s n) (rd l (n : Int)) ≤ rd l (n : Int) := by unfold mn; split <;> omega
      refine ⟨Int.le_trans hm.1 h1, fun v hv hbv => ?_⟩
      rcases Nat.lt_or_ge v n with h3 | h3
      · exact Int.le_trans hm.1 (h2 v h3 hbv)
      · obtain rfl : v = n := by omega
        exact hm.2
    | false =>
      rw [if_neg (by simp)]
      refine ⟨h1, fun v hv hbv => ?_⟩
      rcases Nat.lt_or_ge v n with h3 | h3
      · exact h2 v h3 hbv
      · obtain rfl : v = n := by omega
        rw [hb] at hbv; cases hbv
theorem leastN_mem (l : List Int) (s : Int) : ∀ n, leastN l s n = 10 ∨ ∃ v : Nat, v < n ∧ bit s v = true ∧ rd l (v : Int) = leastN l s n
  | 0 => .inl rfl
  | n + 1 => by
    simp only [leastN]
    cases hb : bit s n with
    | true =>
      rw [if_pos rfl]
      have hm : mn (leastN l s n) (rd l (n : Int)) = leastN l s n ∨ mn (leastN l s n) (rd l (n : Int)) = rd l (n : Int) := by unfold mn; split <;> simp
      rcases hm with hm | hm
      · rcases leastN_mem l s n with h | ⟨v, h1, h2, h3⟩
        · left; rw [hm, h]
        · right; exact ⟨v, by omega, h2, by rw [hm, h3]⟩
      · right; exact ⟨n, by omega, hb, hm.symm⟩
    | false =>
      rw [if_neg (by simp)]
      rcases leastN_mem l s n with h | ⟨v, h1, h2, h3⟩
      · exact .inl h
      · exact .inr ⟨v, by omega, h2, h3⟩
/-- A world has the least rank of a set just if no world of the set has a lesser one. -/
theorem least_iff (l : List Int) (s : Int) (h9 : ∀ y ∈ l, y ≤ 9) (w : Nat) (hw : w < l.length) (hb : bit s w = true) :
    (rd l (w : Int) == least l s) = true ↔ ∀ v : Nat, v < l.length → bit s v = true → rd l (w : Int) ≤ rd l (v : Int) := by
  have h1 := leastN_le l s l.length
  have h2 := leastN_mem l s l.length
  rw [beq_iff_eq]
  constructor
  · intro h v hv hbv
    rw [h]
    exact h1.2 v hv hbv
  · intro h
    have h3 := h1.2 w hw hb
    have h4 := h9 _ (rd_mem l w hw)
    unfold least
    rcases h2 with h2 | ⟨v, hv, hbv, e⟩
    · omega
    · have := h v hv hbv
      omega
theorem Same.rev {a b : List Int} (h : Same a b) (ha : ∀ y ∈ a, y ≤ 9) (hb : ∀ y ∈ b, y ≤ 9) (s : Int) : rev a s = rev b s := by
  unfold Hand.rev
  rw [← h.1]
  congr 1
  apply sumN_congr
  intro w hw
  have hw2 : w < b.length := by rw [← h.1]; exact hw
  cases hbw : bit s w with
  | false => rfl
  | true =>
    rw [Bool.true_and, Bool.true_and, Bool.eq_iff_iff, least_iff a s ha w hw hbw, least_iff b s hb w hw2 hbw]
    constructor
    · intro h3 v hv hbv
      exact (h.2 w v hw (by rw [h.1]; exact hv)).1 (h3 v (by rw [h.1]; exact hv) hbv)
    · intro h3 v hv hbv
      exact (h.2 w v hw hv).2 (h3 v (by rw [← h.1]; exact hv) hbv)
end Go.Proofs.Ytniniocdniegnaa.L
namespace Go.Proofs.Ytniniocdniegnaa.L
open Go.RowKit Go.Proofs.Ytniniocdniegnaa.B Go.Proofs.Ytniniocdniegnaa.Q Go.Proofs.Ytniniocdniegnaa.Hand Go.Proofs.YtniniocdniegnaaW.PrintWords Go.Proofs.YtniniocdniegnaaW.PrintLast Go.Proofs.YtniniocdniegnaaW.PrintMore
set_option linter.unusedVariables false
set_option linter.unusedSimpArgs false
theorem sTableOk_l0 (t : Int) (l : List Int) (hl : l.length ≤ 2000000) : ∀ (d i k : Nat), i + d = l.length → d < k →
    spec_TableOk.l0 k t l i = some ((l.drop i).all (fun s => okS t s) && ((decide (1 ≤ t) && decide (t ≤ 2)) && decide ((l.length : Int) = allW t + 1))) := by
  intro d
  induction d with
  | zero =>
    intro i k hi hk
    obtain ⟨q, rfl⟩ : ∃ q, k = q + 1 := ⟨k - 1, by omega⟩
    simp only [spec_TableOk.l0]
    rw [if_neg (by omega), List.drop_eq_nil_of_le (by omega), l1In_eq]
    simp only [Option.bind_some, List.all_nil, Bool.true_and]
    cases hb : (decide (1 ≤ t) && decide (t ≤ 2)) with
    | false => simp
    | true =>
      have ht : okT t = true := by
        unfold okT; simp at hb; simp; omega
      have := allW_range ht
      rw [if_pos rfl, l1All_eq t ht]
      simp only [Option.bind_some]
      rw [w64 (by omega) (by omega)]
      rfl
  | succ d ih =>
    intro i k hi hk
    obtain ⟨q, rfl⟩ : ∃ q, k = q + 1 := ⟨k - 1, by omega⟩
    simp only [spec_TableOk.l0]
    rw [if_pos (by omega), if_pos (by omega), sSetOk_eq, drop_cons l i (by omega)]
    simp only [Option.bind_some, List.all_cons]
    cases hx : okS t (rd l (i : Int)) with
    | false => simp
    | true =>
      rw [if_pos rfl, next64 i (by omega), ih (i + 1) q (by omega) (by omega)]
      simp
theorem sTableOk_eq (t : Int) (l : List Int) (k : Nat) (hl : l.length ≤ 2000000) (hk : l.length < k) : spec_TableOk.f k t l = some (okTab t l) := by
  have h := sTableOk_l0 t l hl l.length 0 k (by omega) hk
  unfold spec_TableOk.f
  rw [show ((0 : Nat) : Int) = 0 from rfl, List.drop_zero] at h
  rw [h]
  unfold okTab
  rw [Bool.and_comm, Bool.and_assoc]
theorem TableOk_eq (t : Int) (l : List Int) : impl_TableOk.f t l = some (okTab t l) := rfl
theorem sMax_l0 (t c : Int) (ht : t ≤ 2) (hs : okS t c = true) (hc : ¬ c = 0) : ∀ (d i k : Nat), i + d = (allW t).toNat + 1 → 2 * d + 20 ≤ k →
    spec_MaxTable.l0 k t c ((List.range i).map (maxE c)) i = some (maxTab t c) := by
  obtain ⟨g1, g2, g3, g4⟩ := okS_cases hs
  have hW := allW_range g1
  have hin : (decide (1 ≤ t) && decide (t ≤ 2)) = true := by rcases okT_cases g1 with rfl | rfl | rfl <;> simp; omega
  intro d
  induction d with
  | zero =>
    intro i k hi hk
    obtain ⟨m, rfl⟩ : ∃ m, k = m + 2 := ⟨k - 2, by omega⟩
    simp only [spec_MaxTable.l0]
    rw [l1In_eq, hin]
    simp only [Option.bind_some, if_true]
    rw [sSetOk_eq, hs]
    simp only [Option.bind_some, if_true]
    rw [if_neg hc, l1All_eq t g1]
    simp only [Option.bind_some, spec_MaxTable.j1]
    rw [if_neg (by simp; omega), show i = (allW t).toNat + 1 by omega]; rfl
  | succ d ih =>
    intro i k hi hk
    obtain ⟨m, rfl⟩ : ∃ m, k = m + 2 := ⟨k - 2, by omega⟩
    simp only [spec_MaxTable.l0]
    rw [l1In_eq, hin]
    simp only [Option.bind_some, if_true]
    rw [sSetOk_eq, hs]
    simp only [Option.bind_some, if_true]
    rw [if_neg hc, l1All_eq t g1]
    simp only [Option.bind_some, spec_MaxTable.j1]
    rw [if_pos (by simp; omega), both_int (i : Int) c m (by omega) (by omega) g2 (by omega), Int.toNat_natCast]
    simp only [Option.bind_some]
    have hE : maxE c i = if i &&& c.toNat = 0 then (i : Int) else ((i &&& c.toNat : Nat) : Int) := rfl
    have hn : (List.range (i + 1)).map (maxE c) = (List.range i).map (maxE c) ++ [maxE c i] := range_snoc i (maxE c)
    have ih1 := ih (i + 1) m (by omega) (by omega)
    rw [hn, hE] at ih1
    by_cases hz : i &&& c.toNat = 0
    · rw [if_pos (by omega), if_pos (by simp; omega), next64 i (by omega)]
      rw [if_pos hz] at ih1
      exact ih1
    · rw [if_neg (by omega), if_pos (by simp; omega), next64 i (by omega)]
      rw [if_neg hz] at ih1
      exact ih1
theorem sMaxTable_eq (t c : Int) (k : Nat) (hk : 60 ≤ k) : spec_MaxTable.f k t c = some (if t ≤ 2 ∧ okS t c = true ∧ ¬ c = 0 then maxTab t c else []) := by
  unfold spec_MaxTable.f
  by_cases h : t ≤ 2 ∧ okS t c = true ∧ ¬ c = 0
  · rw [if_pos h]
    obtain ⟨g1, g2, g3, g4⟩ := okS_cases h.2.1
    have hW : allW t ≤ 15 := by rcases okT_cases g1 with rfl | rfl | rfl <;> first | decide | (exfalso; omega)
    exact sMax_l0 t c h.1 h.2.1 h.2.2 ((allW t).toNat + 1) 0 k (by omega) (by omega)
  · rw [if_neg h]
    obtain ⟨m, rfl⟩ : ∃ m, k = m + 2 := ⟨k - 2, by omega⟩
    simp only [spec_MaxTable.l0]
    rw [l1In_eq]
    simp only [Option.bind_some]
    cases hin : (decide (1 ≤ t) && decide (t ≤ 2)) with
    | false => simp [spec_MaxTable.j1]
    | true =>
      rw [if_pos rfl, sSetOk_eq]
      simp only [Option.bind_some]
      cases hs : okS t c with
      | false => simp [spec_MaxTable.j1]
      | true =>
        have hc : c = 0 := by
          simp at hin
          rcases Classical.em (c = 0) with h0 | h0
          · exact h0
          · exact absurd ⟨hin.2, hs, h0⟩ h
        rw [if_pos rfl, if_pos hc]
        simp [spec_MaxTable.j1]
end Go.Proofs.Ytniniocdniegnaa.L
namespace Go.Proofs.Ytniniocdniegnaa.L
open Go.RowKit Go.Proofs.Ytniniocdniegnaa.B Go.Proofs.Ytniniocdniegnaa.Q Go.Proofs.Ytniniocdniegnaa.Hand Go.Proofs.YtniniocdniegnaaW.PrintWords Go.Proofs.YtniniocdniegnaaW.PrintLast Go.Proofs.YtniniocdniegnaaW.PrintMore
set_option linter.unusedVariables false
set_option linter.unusedSimpArgs false
theorem bit_step (q i : Nat) (P : Nat → Bool) (hi : i ≤ 8) (hP : P i = true) : wrap64 ((sumN i P : Nat) + shl .i64 1 (i : Int)) = ((sumN (i + 1) P : Nat) : Int) := by
  have hlt := sumN_lt i P
  have hp : 2 ^ i ≤ 2 ^ 8 := Nat.pow_le_pow_right (by decide) hi
  have s1 : shl .i64 1 (i : Int) = ((2 ^ i : Nat) : Int) := by
    have := shl_nat 1 i (by omega) (by omega)
    rw [Nat.one_mul] at this
    exact this
  have e : sumN (i + 1) P = sumN i P + 2 ^ i := by simp [sumN, hP]
  rw [s1, e]
  generalize 2 ^ i = m at *
  rw [w64 (by omega) (by omega)]; simp
theorem sl2_l1 (a : Nat) (l : List Int) (m : Int) (hl : l.length ≤ 8) : ∀ (d i k : Nat), i + d = l.length → d < k →
    spec_l2Least.l1 k l a m (sumN i (fun w => a.testBit w && (rd l (w : Int) == m)) : Nat) i = some ((sumN l.length (fun w => a.testBit w && (rd l (w : Int) == m)) : Nat) : Int) := by
  intro d
  induction d with
  | zero =>
    intro i k hi hk
    obtain ⟨q, rfl⟩ : ∃ q, k = q + 1 := ⟨k - 1, by omega⟩
    obtain rfl : i = l.length := by omega
    simp only [spec_l2Least.l1]
    rw [if_neg (by omega)]
  | succ d ih =>
    intro i k hi hk
    obtain ⟨q, rfl⟩ : ∃ q, k = q + 1 := ⟨k - 1, by omega⟩
    have ih1 := ih (i + 1) q (by omega) (by omega)
    simp only [spec_l2Least.l1]
    rw [if_pos (by omega), bit_nat a i (by omega), next64 i (by omega)]
    simp only [Option.bind_some]
    cases ht : a.testBit i with
    | true =>
      rw [if_pos rfl, if_pos (by omega)]
      by_cases hm : rd l (i : Int) = m
      · rw [if_pos hm, bit_step 0 i (fun w => a.testBit w && (rd l (w : Int) == m)) (by omega) (by simp [ht, hm])]
        exact ih1
      · rw [if_neg hm]
        rw [sumN_skip i _ (by simp [ht, hm])] at ih1
        exact ih1
    | false =>
      rw [if_neg (by simp)]
      rw [sumN_skip i _ (by simp [ht])] at ih1
      exact ih1
theorem sl2_l0 (a : Nat) (l : List Int) (hl : l.length ≤ 8) : ∀ (d i k : Nat), i + d = l.length → d + l.length + 1 < k →
    spec_l2Least.l0 k l a (leastN l a i) i = some (rev l (a : Int)) := by
  intro d
  induction d with
  | zero =>
    intro i k hi hk
    obtain ⟨q, rfl⟩ : ∃ q, k = q + 1 := ⟨k - 1, by omega⟩
    obtain rfl : i = l.length := by omega
    simp only [spec_l2Least.l0]
    rw [if_neg (by omega)]
    have h := sl2_l1 a l (least l a) hl l.length 0 q (by omega) (by omega)
    unfold rev bit
    rw [Int.toNat_natCast]
    exact h
  | succ d ih =>
    intro i k hi hk
    obtain ⟨q, rfl⟩ : ∃ q, k = q + 1 := ⟨k - 1, by omega⟩
    have hb : bit (a : Int) i = a.testBit i := by unfold bit; simp
    have ih1 := ih (i + 1) q (by omega) (by omega)
    simp only [leastN, hb] at ih1
    simp only [spec_l2Least.l0]
    rw [if_pos (by omega), bit_nat a i (by omega), next64 i (by omega)]
    simp only [Option.bind_some]
    cases ht : a.testBit i with
    | true => rw [ht, if_pos rfl] at ih1; rw [if_pos rfl, if_pos (by omega)]; exact ih1
    | false => rw [ht, if_neg (by simp)] at ih1; rw [if_neg (by simp)]; exact ih1
theorem sl2Least_eq (l : List Int) (s : Int) (k : Nat) (hl : l.length ≤ 8) (h0 : 0 ≤ s) (hk : 20 ≤ k) : spec_l2Least.f k l s = some (rev l s) := by
  obtain ⟨a, rfl⟩ := Int.eq_ofNat_of_zero_le h0
  exact sl2_l0 a l hl l.length 0 k (by omega) (by omega)
end Go.Proofs.Ytniniocdniegnaa.L
namespace Go.Proofs.Ytniniocdniegnaa.L
open Go.RowKit Go.Proofs.Ytniniocdniegnaa.B Go.Proofs.Ytniniocdniegnaa.Q Go.Proofs.Ytniniocdniegnaa.Hand Go.Proofs.YtniniocdniegnaaW.PrintWords Go.Proofs.YtniniocdniegnaaW.PrintLast Go.Proofs.YtniniocdniegnaaW.PrintMore
set_option linter.unusedVariables false
set_option linter.unusedSimpArgs false
theorem fromTab_len (t : Int) (l : List Int) : (fromTab t l).length = (allW t).toNat + 1 := by unfold fromTab; simp
theorem sTab_l0 (t : Int) (l : List Int) (ht : t ≤ 2) (hr : okR t l = true) : ∀ (d i k : Nat), i + d = (allW t).toNat + 1 → d + 40 ≤ k →
    spec_TableFrom.l0 k t l ((List.range i).map fun s : Nat => rev l (s : Int)) i = some (fromTab t l) := by
  obtain ⟨g1, g2, g3, g4, g5, g6⟩ := okR_cases hr
  have hA := allW_range g1
  have hin : (decide (1 ≤ t) && decide (t ≤ 2)) = true := by rcases okT_cases g1 with rfl | rfl | rfl <;> simp; omega
  intro d
  induction d with
  | zero =>
    intro i k hi hk
    obtain ⟨m, rfl⟩ : ∃ m, k = m + 1 := ⟨k - 1, by omega⟩
    simp only [spec_TableFrom.l0]
    rw [l1In_eq, hin]
    simp only [Option.bind_some, if_true]
    rw [sRankOk_eq t l m (by omega) (by omega), hr]
    simp only [Option.bind_some, if_true]
    rw [l1All_eq t g1]
    simp only [Option.bind_some]
    rw [if_neg (by omega)]
    unfold fromTab
    rw [show i = (allW t).toNat + 1 by omega]
  | succ d ih =>
    intro i k hi hk
    obtain ⟨m, rfl⟩ : ∃ m, k = m + 1 := ⟨k - 1, by omega⟩
    have ih1 := ih (i + 1) m (by omega) (by omega)
    rw [range_snocN i] at ih1
    simp only [spec_TableFrom.l0]
    rw [l1In_eq, hin]
    simp only [Option.bind_some, if_true]
    rw [sRankOk_eq t l m (by omega) (by omega), hr]
    simp only [Option.bind_some, if_true]
    rw [l1All_eq t g1]
    simp only [Option.bind_some]
    rw [if_pos (by omega), sl2Least_eq l (i : Int) m g6 (by omega) (by omega)]
    simp only [Option.bind_some]
    rw [if_pos (by simp; omega), next64 i (by omega)]
    exact ih1
theorem sTableFrom_eq (t : Int) (l : List Int) (k : Nat) (hl : l.length ≤ 2000000) (hk : l.length + 400 ≤ k) : spec_TableFrom.f k t l = some (if t ≤ 2 ∧ okR t l = true then fromTab t l else []) := by
  unfold spec_TableFrom.f
  by_cases h : t ≤ 2 ∧ okR t l = true
  · rw [if_pos h]
    obtain ⟨g1, g2, g3, g4, g5, g6⟩ := okR_cases h.2
    have hA := allW_range g1
    exact sTab_l0 t l h.1 h.2 ((allW t).toNat + 1) 0 k (by omega) (by omega)
  · rw [if_neg h]
    obtain ⟨m, rfl⟩ : ∃ m, k = m + 1 := ⟨k - 1, by omega⟩
    simp only [spec_TableFrom.l0]
    rw [l1In_eq]
    simp only [Option.bind_some]
    cases hin : (decide (1 ≤ t) && decide (t ≤ 2)) with
    | false => simp
    | true =>
      rw [if_pos rfl, sRankOk_eq t l m hl (by omega)]
      simp only [Option.bind_some]
      cases hr : okR t l with
      | false => simp
      | true =>
        simp at hin
        exact absurd ⟨hin.2, hr⟩ h
end Go.Proofs.Ytniniocdniegnaa.L
namespace Go.Proofs.Ytniniocdniegnaa.L
open Go.RowKit Go.Proofs.Ytniniocdniegnaa.B Go.Proofs.Ytniniocdniegnaa.Q Go.Proofs.Ytniniocdniegnaa.Hand Go.Proofs.YtniniocdniegnaaW.PrintWords Go.Proofs.YtniniocdniegnaaW.PrintLast Go.Proofs.YtniniocdniegnaaW.PrintMore
set_option linter.unusedVariables false
set_option linter.unusedSimpArgs false
theorem rank0_l0 {b : List Int} (hb : Rd b) (x9 : Int) (t : Int) (n : Nat) (ht : okT t = true) (hnW : nW t = (n : Int)) (hn : 1 ≤ n) (hn2 : n ≤ 8) (h9 : 0 ≤ x9) (h92 : x9 < 3) : ∀ (d : Nat) (p : Int) (x7 : List Int), x7.length + d = n → 0 ≤ p → p ≤ 950000 - d → (∀ x ∈ x7, 0 ≤ x ∧ x ≤ 9) →
    ∃ l p', okR t l = true ∧ p ≤ p' ∧ p' ≤ p + d + 5 ∧ ∀ k, d + 20 ≤ k → spec_l20Rank.l0 k 0 x7 n x9 x7.length b p = some (l, p') := by
  intro d
  induction d with
  | zero =>
    intro p x7 h7 hp hp2 hx
    obtain ⟨v, v0, v1, hv⟩ := pick_ok hb p (n : Int) hp (by omega) (by omega) (by omega)
    have hset : ∀ x ∈ x7.set v.toNat 0, 0 ≤ x ∧ x ≤ 9 := fun x hx' => by
      rcases List.mem_or_eq_of_mem_set hx' with h | h
      · exact hx x h
      · omega
    have hlen : (x7.set v.toNat 0).length = n := by rw [List.length_set]; omega
    have h0 : (0 : Int) ∈ x7.set v.toNat 0 := List.mem_set (by omega) 0
    refine ⟨x7.set v.toNat 0, p + 1, ?_, by omega, by omega, fun k hk => ?_⟩
    · unfold okR
      rw [ht, Bool.true_and, Bool.and_eq_true, Bool.and_eq_true, decide_eq_true_eq, List.all_eq_true, List.any_eq_true]
      refine ⟨by rw [hlen, hnW], fun x hx' => by have := hset x hx'; simp; omega, 0, h0, by simp⟩
    · obtain ⟨m, rfl⟩ : ∃ m, k = m + 1 := ⟨k - 1, by omega⟩
      simp only [spec_l20Rank.l0]
      rw [if_neg (by omega), hv m (by omega)]
      simp only [Option.bind_some]
      rw [if_pos v0, if_pos (by omega)]
      have ho : spec_l20Rd_odd.f m b (p + 1) 0 = some (false, p + 1) := by unfold spec_l20Rd_odd.f; rw [if_neg (by omega)]
      rw [ho]
      simp
  | succ d ih =>
    intro p x7 h7 hp hp2 hx
    obtain ⟨w, w0, w1, hw⟩ : ∃ w : Int, rd [2, 4, 10] x9 = w ∧ 1 ≤ w ∧ w ≤ 10 := by
      rcases (show x9 = 0 ∨ x9 = 1 ∨ x9 = 2 by omega) with rfl | rfl | rfl <;> exact ⟨_, rfl, by decide, by decide⟩
    obtain ⟨v, v0, v1, hv⟩ := pick_ok hb p w hp (by omega) (by omega) (by omega)
    obtain ⟨l, p', hl, q1, q2, hk2⟩ := ih (p + 1) (x7 ++ [v]) (by rw [List.length_append]; simp; omega) (by omega) (by omega) (fun x hx' => by
      rcases List.mem_append.1 hx' with h | h
      · exact hx x h
      · simp at h; omega)
    refine ⟨l, p', hl, by omega, by omega, fun k hk => ?_⟩
    obtain ⟨m, rfl⟩ : ∃ m, k = m + 1 := ⟨k - 1, by omega⟩
    have e7 : (((x7 ++ [v]).length : Nat) : Int) = ((x7.length + 1 : Nat) : Int) := by simp
    have hk3 := hk2 m (by omega)
    rw [e7] at hk3
    simp only [spec_l20Rank.l0]
    rw [if_pos (by omega)]
    simp only [Option.bind_some]
    rw [if_pos h9, if_pos (by simp; omega), w0, hv m (by omega)]
    simp only [Option.bind_some]
    rw [if_pos (by omega), next64 x7.length (by omega)]
    exact hk3
theorem rank_ok0 {b : List Int} (hb : Rd b) (p t : Int) (ht : okT t = true) (hp : 0 ≤ p) (hp2 : p ≤ 900000) :
    ∃ l p', okR t l = true ∧ p ≤ p' ∧ p' ≤ p + 20 ∧ ∀ k, 40 ≤ k → spec_l20Rank.f k b p t 0 = some (l, p') := by
  obtain ⟨n1, n2, n3⟩ := nW_pos ht
  obtain ⟨m, hm⟩ := Int.eq_ofNat_of_zero_le (show 0 ≤ nW t by omega)
  have hmx : mx (nW t) 1 = (m : Int) := by unfold mx; split <;> omega
  obtain ⟨v, v0, v1, hv⟩ := pick_ok hb p 3 hp (by omega) (by omega) (by omega)
  obtain ⟨l, p', hl, q1, q2, hk2⟩ := rank0_l0 hb v t m ht hm (by omega) (by omega) v0 v1 m (p + 1) [] (by simp) (by omega) (by omega) (fun x hx => by cases hx)
  refine ⟨l, p', hl, by omega, by omega, fun k hk => ?_⟩
  unfold spec_l20Rank.f
  rw [sWorldsOf_eq]
  simp only [Option.bind_some]
  rw [hv k (by omega), hmx]
  simp only [Option.bind_some]
  exact hk2 k (by omega)
theorem table_j0 {b : List Int} (hb : Rd b) (n t : Int) (l : List Int) (p : Int) (hn : 0 ≤ n) (hn2 : n ≤ 1000000) (ht : 1 ≤ t ∧ t ≤ 3) (hl : 1 ≤ l.length ∧ l.length ≤ 16) (hp : 0 ≤ p) (hp2 : p ≤ 900000) :
    ∃ (t' : Int) (l' : List Int) (p' : Int), 1 ≤ t' ∧ t' ≤ 3 ∧ l'.length ≤ 17 ∧ p ≤ p' ∧ p' ≤ p + 2 ∧ ∀ k, 10 ≤ k → spec_l20Table.j0 k n t l b p = some (t', l', p') := by
  obtain ⟨o, p1, o1, o2, ho⟩ := odd_ok hb p n hp (by omega) hn hn2
  cases o with
  | false =>
    refine ⟨t, l, p1, ht.1, ht.2, by omega, by omega, by omega, fun k hk => ?_⟩
    obtain ⟨m, rfl⟩ : ∃ m, k = m + 1 := ⟨k - 1, by omega⟩
    simp only [spec_l20Table.j0]
    rw [ho m (by omega)]
    simp
  | true =>
    obtain ⟨u, u0, u1, hu⟩ := pick_ok hb p1 3 (by omega) (by omega) (by omega) (by omega)
    rcases (show u = 0 ∨ u = 1 ∨ u = 2 by omega) with rfl | rfl | rfl
    · refine ⟨3, l, p1 + 1, by omega, by omega, by omega, by omega, by omega, fun k hk => ?_⟩
      obtain ⟨m, rfl⟩ : ∃ m, k = m + 1 := ⟨k - 1, by omega⟩
      simp only [spec_l20Table.j0]
      rw [ho m (by omega)]
      simp only [Option.bind_some, if_true]
      rw [hu m (by omega)]
      simp
    · refine ⟨t, l ++ [0], p1 + 1, ht.1, ht.2, by simp; omega, by omega, by omega, fun k hk => ?_⟩
      obtain ⟨m, rfl⟩ : ∃ m, k = m + 1 := ⟨k - 1, by omega⟩
      simp only [spec_l20Table.j0]
      rw [ho m (by omega)]
      simp only [Option.bind_some, if_true]
      rw [hu m (by omega)]
      simp only [Option.bind_some]
      rw [if_neg (by omega), if_pos trivial, if_pos (by omega)]
    · refine ⟨t, l.set 0 (-1), p1 + 1, ht.1, ht.2, by rw [List.length_set]; omega, by omega, by omega, fun k hk => ?_⟩
      obtain ⟨m, rfl⟩ : ∃ m, k = m + 1 := ⟨k - 1, by omega⟩
      simp only [spec_l20Table.j0]
      rw [ho m (by omega)]
      simp only [Option.bind_some, if_true]
      rw [hu m (by omega)]
      simp only [Option.bind_some]
      rw [if_neg (by omega), if_neg (by omega), if_pos (by omega)]; rfl
theorem table_ok {b : List Int} (hb : Rd b) (p n : Int) (hp : 0 ≤ p) (hp2 : p ≤ 100000) (hn : 0 ≤ n) (hn2 : n ≤ 1000000) :
    ∃ (t' : Int) (l' : List Int) (p' : Int), 1 ≤ t' ∧ t' ≤ 3 ∧ l'.length ≤ 17 ∧ p ≤ p' ∧ p' ≤ p + 60 ∧ ∀ k, 700 ≤ k → spec_l20Table.f k b p n = some (t', l', p') := by
  obtain ⟨v, v0, v1, hv⟩ := pick_ok hb p 2 hp (by omega) (by omega) (by omega)
  obtain ⟨t, et, ht0, t1, t2⟩ : ∃ t : Int, wrap64 (1 + v) = t ∧ okT t = true ∧ 1 ≤ t ∧ t ≤ 2 := by
    refine ⟨1 + v, w64 (by omega) (by omega), by unfold okT; simp; omega, by omega, by omega⟩
  obtain ⟨l, p1, hl, q1, q2, hr⟩ := rank_ok0 hb (p + 1) t ht0 (by omega) (by omega)
  obtain ⟨g1, g2, g3, g4, g5, g6⟩ := okR_cases hl
  have hA := allW_range ht0
  have hA2 : allW t ≤ 15 := by rcases (show t = 1 ∨ t = 2 by omega) with rfl | rfl <;> decide
  have hlen := fromTab_len t l
  obtain ⟨m, hm⟩ := Int.eq_ofNat_of_zero_le (show 0 ≤ allW t by omega)
  have hlen2 : (((fromTab t l).length : Nat) : Int) = allW t + 1 := by omega
  obtain ⟨c, c0, c1, hc⟩ := pick_ok hb p1 6 (by omega) (by omega) (by omega) (by omega)
  have start : ∀ k, 700 ≤ k → spec_l20Table.f k b p n = (if c = 0 then ((spec_l1All.f t).bind fun t317 => ((spec_l20Rd_pick.f k b (p1 + 1) t317).bind fun bt318 => ((spec_MaxTable.f k t (wrap64 (1 + bt318.1))).bind fun t320 => (spec_l20Table.j0 k n t t320 b bt318.2)))) else (if c = 1 then ((spec_l20Rd_pick.f k b (p1 + 1) ((fromTab t l).length : Int)).bind fun bt323 => ((spec_l20Rd_pick.f k b bt323.2 ((fromTab t l).length : Int)).bind fun bt325 => (if 0 ≤ bt323.1 then (if bt323.1 < ((fromTab t l).length : Int) then (spec_l20Table.j0 k n t ((fromTab t l).set (bt323.1 : Int).toNat bt325.1) b bt325.2) else (none)) else (none)))) else (if c = 2 then ((spec_l20Rd_pick.f k b (p1 + 1) ((fromTab t l).length : Int)).bind fun bt328 => ((spec_l20Rd_pick.f k b bt328.2 ((fromTab t l).length : Int)).bind fun bt330 => ((spec_l1Both.f k bt328.1 bt330.1).bind fun t332 => (if 0 ≤ bt328.1 then (if bt328.1 < ((fromTab t l).length : Int) then (spec_l20Table.j0 k n t ((fromTab t l).set (bt328.1 : Int).toNat t332) b bt330.2) else (none)) else (none))))) else (spec_l20Table.j0 k n t (fromTab t l) b (p1 + 1))))) := by
    intro k hk
    unfold spec_l20Table.f
    rw [hv k (by omega)]
    simp only [Option.bind_some]
    rw [et, hr k (by omega)]
    simp only [Option.bind_some]
    rw [sTableFrom_eq t l k (by omega) (by omega), if_pos ⟨t2, hl⟩]
    simp only [Option.bind_some]
    rw [hc k (by omega)]
    rfl
  generalize hF : fromTab t l = F at *
  by_cases e0 : c = 0
  · obtain ⟨x, x0, x1, hx⟩ := pick_ok hb (p1 + 1) (allW t) (by omega) (by omega) (by omega) (by omega)
    have ew : wrap64 (1 + x) = 1 + x := w64 (by omega) (by omega)
    have hs : t ≤ 2 ∧ okS t (1 + x) = true ∧ ¬ 1 + x = 0 := ⟨t2, by unfold okS; rw [ht0]; simp; omega, by omega⟩
    have hml : (maxTab t (1 + x)).length = (allW t).toNat + 1 := by unfold maxTab; simp
    obtain ⟨t', l', p', r1, r2, r3, r4, r5, hj⟩ := table_j0 hb n t (maxTab t (1 + x)) (p1 + 1 + 1) hn hn2 ⟨t1, by omega⟩ (by omega) (by omega) (by omega)
    refine ⟨t', l', p', r1, r2, r3, by omega, by omega, fun k hk => ?_⟩
    rw [start k hk, if_pos e0, l1All_eq t ht0]
    simp only [Option.bind_some]
    rw [hx k (by omega)]
    simp only [Option.bind_some]
    rw [ew, sMaxTable_eq t (1 + x) k (by omega), if_pos hs]
    simp only [Option.bind_some]
    exact hj k (by omega)
  · by_cases e1 : c = 1
    · obtain ⟨x, x0, x1, hx⟩ := pick_ok hb (p1 + 1) (F.length : Int) (by omega) (by omega) (by omega) (by omega)
      obtain ⟨y, y0, y1, hy⟩ := pick_ok hb (p1 + 1 + 1) (F.length : Int) (by omega) (by omega) (by omega) (by omega)
      obtain ⟨t', l', p', r1, r2, r3, r4, r5, hj⟩ := table_j0 hb n t (F.set x.toNat y) (p1 + 1 + 1 + 1) hn hn2 ⟨t1, by omega⟩ (by rw [List.length_set]; omega) (by omega) (by omega)
      refine ⟨t', l', p', r1, r2, r3, by omega, by omega, fun k hk => ?_⟩
      rw [start k hk, if_neg e0, if_pos e1, hx k (by omega)]
      simp only [Option.bind_some]
      rw [hy k (by omega)]
      simp only [Option.bind_some]
      rw [if_pos x0, if_pos x1]
      exact hj k (by omega)
    · by_cases e2 : c = 2
      · obtain ⟨x, x0, x1, hx⟩ := pick_ok hb (p1 + 1) (F.length : Int) (by omega) (by omega) (by omega) (by omega)
        obtain ⟨y, y0, y1, hy⟩ := pick_ok hb (p1 + 1 + 1) (F.length : Int) (by omega) (by omega) (by omega) (by omega)
        have hbo := fun k hk => both_int x y k x0 (by omega) y0 hk
        generalize ((x.toNat &&& y.toNat : Nat) : Int) = z at hbo
        obtain ⟨t', l', p', r1, r2, r3, r4, r5, hj⟩ := table_j0 hb n t (F.set x.toNat z) (p1 + 1 + 1 + 1) hn hn2 ⟨t1, by omega⟩ (by rw [List.length_set]; omega) (by omega) (by omega)
        refine ⟨t', l', p', r1, r2, r3, by omega, by omega, fun k hk => ?_⟩
        rw [start k hk, if_neg e0, if_neg e1, if_pos e2, hx k (by omega)]
        simp only [Option.bind_some]
        rw [hy k (by omega)]
        simp only [Option.bind_some]
        rw [hbo k (by omega)]
        simp only [Option.bind_some]
        rw [if_pos x0, if_pos x1]
        exact hj k (by omega)
      · obtain ⟨t', l', p', r1, r2, r3, r4, r5, hj⟩ := table_j0 hb n t F (p1 + 1) hn hn2 ⟨t1, by omega⟩ (by omega) (by omega) (by omega)
        refine ⟨t', l', p', r1, r2, r3, by omega, by omega, fun k hk => ?_⟩
        rw [start k hk, if_neg e0, if_neg e1, if_neg e2]
        exact hj k (by omega)
end Go.Proofs.Ytniniocdniegnaa.L
namespace Go.Proofs.Ytniniocdniegnaa.Pure
open Go.RowKit Go.Proofs.Ytniniocdniegnaa.B Go.Proofs.Ytniniocdniegnaa.Q Go.Proofs.Ytniniocdniegnaa.Hand Go.Proofs.Ytniniocdniegnaa.L Go.Proofs.YtniniocdniegnaaW.PrintWords Go.Proofs.YtniniocdniegnaaW.PrintLast Go.Proofs.YtniniocdniegnaaW.PrintMore
set_option linter.unusedVariables false
set_option linter.unusedSimpArgs false
theorem draw_ok (l0 : List Int) (hb : ∀ x ∈ l0, (Lit.int .u8 x).wf = true) : ∃ (t : Int) (l : List Int), l.length ≤ 17 ∧ ∀ k, 800 ≤ k → spec_DrawTableOk.f k l0 = some (t, l) := by
  obtain ⟨b, hB, ho⟩ := open_ok l0 hb
  obtain ⟨t, l, p, t0, t1, hl, _, _, hs⟩ := table_ok hB 0 3 (by omega) (by omega) (by omega) (by omega)
  refine ⟨t, l, hl, fun k hk => ?_⟩
  unfold spec_DrawTableOk.f
  rw [ho]
  simp only [Option.bind_some]
  rw [hs k (by omega)]
  simp only [Option.bind_some]
theorem rest_ok : laws_FnTableOk.l0 5000 [] 0 = some true := by decide +kernel
theorem FnTableOk : laws_FnTableOk.Pure := by
  intro l0 _ _ hb
  refine ⟨5000, ?_⟩
  unfold laws_FnTableOk.f
  by_cases hl : (l0.length : Int) > 1048576
  · rw [if_pos hl]
  · rw [if_neg hl]
    obtain ⟨t, l, hf, hd⟩ := draw_ok l0 hb
    rw [hd 5000 (by omega)]
    simp only [Option.bind_some]
    rw [TableOk_eq t l, sTableOk_eq t l 5000 (by omega) (by omega)]
    simp only [Option.bind_some]
    rw [if_neg (by simp)]
    exact rest_ok
end Go.Proofs.Ytniniocdniegnaa.Pure
