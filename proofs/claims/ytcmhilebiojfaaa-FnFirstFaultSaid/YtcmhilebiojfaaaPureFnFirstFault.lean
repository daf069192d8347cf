/- The law FnFirstFault, for all arguments. -/
import Derived.Test.YtcmhilebiojfaaaHm
import Derived.Test.YtcmhilebiojfaaaHandF
import Derived.Test.YtcmhilebiojfaaaVx1
import Derived.Test.YtcmhilebiojfaaaVx2
import Derived.Test.YtcmhilebiojfaaaVx3
import Derived.Test.YtcmhilebiojfaaaVx4
import Derived.Test.YtcmhilebiojfaaaVx6
import Derived.Test.YtcmhilebiojfaaaVx7
namespace Go.Proofs.Ytcmhilebiojfaaa.L
open Go.RowKit Go.Proofs.Ytcmhilebiojfaaa.B Go.Proofs.Ytcmhilebiojfaaa.V Go.Proofs.Ytcmhilebiojfaaa.Hand Go.Proofs.YtcmhilebiojfaaaW.PrintWords Go.Proofs.YtcmhilebiojfaaaW.PrintLast Go.Proofs.YtcmhilebiojfaaaW.PrintMore
set_option linter.unusedVariables false
set_option linter.unusedSimpArgs false
theorem l1In_eq (a b c : Int) : spec_l1In.f a b c = some (decide (b ≤ a) && decide (a ≤ c)) := by
  unfold spec_l1In.f
  by_cases h : a ≥ b
  · rw [if_pos h]; simp [show b ≤ a from h]
  · rw [if_neg h]; simp [show ¬ b ≤ a from h]
theorem l1In_13 (a : Int) : spec_l1In.f a 1 3 = some (okT a) := l1In_eq a 1 3
theorem l1All_eq (a : Int) (h : okT a = true) : spec_l1All.f a = some (allW a) := by
  unfold spec_l1All.f allF; rw [if_pos h]
theorem sSetOk_eq (t s : Int) : spec_SetOk.f t s = some (okS t s) := by
  unfold spec_SetOk.f okS
  rw [l1In_13]
  simp only [Option.bind_some]
  cases h : okT t with
  | false => simp
  | true =>
    rw [l1All_eq t h]
    simp [l1In_eq]
theorem WorldsOf_eq (t : Int) : impl_WorldsOf.f t = some (nW t) := by
  unfold impl_WorldsOf.f nW
  rw [areThings_eq]
  simp only [Option.bind_some]
  cases h : okT t with
  | false => simp
  | true => rcases okT_cases h with rfl | rfl | rfl <;> decide +kernel
theorem sWorldsOf_eq (t : Int) : spec_WorldsOf.f t = some (nW t) := by
  unfold spec_WorldsOf.f nW
  rw [l1In_13]
  simp only [Option.bind_some]
  cases h : okT t with
  | false => simp
  | true => rcases okT_cases h with rfl | rfl | rfl <;> decide +kernel
theorem alive_eq : laws_alive.f = some true := by
  unfold laws_alive.f
  rw [WorldsOf_eq, WorldsOf_eq]
  decide +kernel
end Go.Proofs.Ytcmhilebiojfaaa.L
namespace Go.Proofs.Ytcmhilebiojfaaa.L
open Go.RowKit Go.Proofs.Ytcmhilebiojfaaa.B Go.Proofs.Ytcmhilebiojfaaa.V Go.Proofs.Ytcmhilebiojfaaa.Hand Go.Proofs.YtcmhilebiojfaaaW.PrintWords Go.Proofs.YtcmhilebiojfaaaW.PrintLast Go.Proofs.YtcmhilebiojfaaaW.PrintMore
set_option linter.unusedVariables false
set_option linter.unusedSimpArgs false
theorem sRankOk_l0 (t : Int) (l : List Int) (hl : l.length ≤ 2000000) : ∀ (d i k : Nat) (m : Int), i + d = l.length → d < k →
    spec_RankOk.l0 k t l m i = some ((l.drop i).all (fun x => decide (0 ≤ x) && decide (x ≤ 9)) && (okT t && (decide ((l.length : Int) = nW t) && (mnL m (l.drop i) == 0)))) := by
  intro d
  induction d with
  | zero =>
    intro i k m hi hk
    obtain ⟨q, rfl⟩ : ∃ q, k = q + 1 := ⟨k - 1, by omega⟩
    simp only [spec_RankOk.l0]
    rw [if_neg (by omega), List.drop_eq_nil_of_le (by omega), l1In_13]
    simp only [Option.bind_some]
    cases ht : okT t with
    | false => simp
    | true =>
      have hpos : 0 ≤ t := by rcases okT_cases ht with rfl | rfl | rfl <;> omega
      rw [if_pos rfl, if_pos hpos, (nW_pos ht).2.2]
      by_cases h : (l.length : Int) = nW t
      · rw [if_pos h]; simp [h, mnL]
      · rw [if_neg h]; simp [h]
  | succ d ih =>
    intro i k m hi hk
    obtain ⟨q, rfl⟩ : ∃ q, k = q + 1 := ⟨k - 1, by omega⟩
    simp only [spec_RankOk.l0]
    rw [if_pos (by omega), if_pos (by omega), l1In_eq, drop_cons l i (by omega)]
    simp only [Option.bind_some, List.all_cons]
    cases hx : (decide (0 ≤ rd l (i : Int)) && decide (rd l (i : Int) ≤ 9)) with
    | false => simp
    | true =>
      rw [if_pos rfl, next64 i (by omega), ih (i + 1) q _ (by omega) (by omega)]
      simp [mnL]
theorem sRankOk_eq (t : Int) (l : List Int) (k : Nat) (hl : l.length ≤ 2000000) (hk : l.length < k) : spec_RankOk.f k t l = some (okR t l) := by
  have h := sRankOk_l0 t l hl l.length 0 k 9 (by omega) hk
  unfold spec_RankOk.f
  rw [show ((0 : Nat) : Int) = 0 from rfl] at h
  rw [h]
  congr 1
  rw [List.drop_zero]
  unfold okR
  have a1 := mnL_le l 9
  have a2 := mnL_mem l 9
  rw [Bool.eq_iff_iff]
  simp only [Bool.and_eq_true, List.all_eq_true, List.any_eq_true, decide_eq_true_eq, beq_iff_eq]
  constructor
  · rintro ⟨h1, h2, h3, h4⟩
    rcases a2 with h | h
    · omega
    · exact ⟨h2, h3, h1, _, h, h4⟩
  · rintro ⟨h2, h3, h1, x, hx, rfl⟩
    refine ⟨h1, h2, h3, ?_⟩
    have := a1.2 0 hx
    rcases a2 with h | h
    · have := h1 _ hx; omega
    · have := h1 _ h; omega
end Go.Proofs.Ytcmhilebiojfaaa.L
namespace Go.Proofs.Ytcmhilebiojfaaa.L
open Go.RowKit Go.Proofs.Ytcmhilebiojfaaa.B Go.Proofs.Ytcmhilebiojfaaa.V Go.Proofs.Ytcmhilebiojfaaa.Hand Go.Proofs.YtcmhilebiojfaaaW.PrintWords Go.Proofs.YtcmhilebiojfaaaW.PrintLast Go.Proofs.YtcmhilebiojfaaaW.PrintMore
set_option linter.unusedVariables false
set_option linter.unusedSimpArgs false
theorem xor_i64 (a b : Nat) (ha : a < 2 ^ 62) (hb : b < 2 ^ 62) : bits .xor .i64 a b = ((a ^^^ b : Nat) : Int) := by
  have hx : a ^^^ b < 2 ^ 62 := Nat.xor_lt_two_pow ha hb
  simp only [bits, BitVec.ofInt_natCast, BitVec.toNat_xor, BitVec.toNat_ofNat]
  have e : IntKind.i64.bits = 64 := rfl
  rw [e, Nat.mod_eq_of_lt (by omega), Nat.mod_eq_of_lt (by omega)]
  exact wraps_i64 _ (by omega) (by omega)
theorem xor_nonneg (x y : Int) (hx : 0 ≤ x) (hx2 : x < 4611686018427387904) (hy : 0 ≤ y) (hy2 : y < 4611686018427387904) : 0 ≤ bits .xor .i64 x y := by
  obtain ⟨a, rfl⟩ := Int.eq_ofNat_of_zero_le hx
  obtain ⟨b, rfl⟩ := Int.eq_ofNat_of_zero_le hy
  rw [xor_i64 a b (by omega) (by omega)]
  omega
/-- A reader's bytes. -/
structure Rd (b : List Int) : Prop where
  byte : ∀ x, x ∈ b → 0 ≤ x ∧ x ≤ 255
  len : b.length ≤ 2000
theorem Rd.at_ {b : List Int} (h : Rd b) (i : Int) : 0 ≤ rd b i ∧ rd b i ≤ 255 := by
  unfold rd
  rw [List.getD_eq_getElem?_getD]
  by_cases e : i.toNat < b.length
  · rw [List.getElem?_eq_getElem e]; exact h.byte _ (List.getElem_mem e)
  · rw [List.getElem?_eq_none (by omega)]; simp
theorem pick_ok {b : List Int} (hb : Rd b) (p n : Int) (hp : 0 ≤ p) (hp2 : p ≤ 1000000) (hn : 1 ≤ n) (hn2 : n ≤ 1000000) :
    ∃ v, 0 ≤ v ∧ v < n ∧ ∀ k, 1 ≤ k → spec_l20Rd_pick.f k b p n = some (v, p + 1) := by
  have e1 : wrap64 (p + 1) = p + 1 := w64 (by omega) (by omega)
  have e2 : wrap64 (p + 1 - 1) = p := by rw [w64 (by omega) (by omega)]; omega
  by_cases hl : (b.length : Int) = 0
  · refine ⟨0, by omega, by omega, fun k hk => ?_⟩
    obtain ⟨m, rfl⟩ : ∃ m, k = m + 1 := ⟨k - 1, by omega⟩
    unfold spec_l20Rd_pick.f
    rw [if_neg (by omega), e1]
    simp only [spec_l20Rd_pick.j0]
    rw [if_pos (by rw [hl]; rfl)]
  · have hlen : 0 < (b.length : Int) := by omega
    have hlen2 : (b.length : Int) ≤ 2000 := by have := hb.len; omega
    have hle : ¬ (((b.length : Int) == 0) = true) := fun h => hl (beq_iff_eq.1 h)
    by_cases hlt : p < (b.length : Int)
    · have hr := hb.at_ p
      refine ⟨Int.tmod (rd b p) n, Int.tmod_nonneg _ hr.1, Int.tmod_lt_of_pos _ (by omega), fun k hk => ?_⟩
      obtain ⟨m, rfl⟩ : ∃ m, k = m + 1 := ⟨k - 1, by omega⟩
      unfold spec_l20Rd_pick.f
      rw [if_neg (by omega), e1]
      simp only [spec_l20Rd_pick.j0]
      rw [if_neg hle, e2, if_pos hlt, if_pos hp, if_neg (by omega), w64 (n := rd b p) (by omega) (by omega)]
    · have m1 : 0 ≤ Int.tmod p (b.length : Int) := Int.tmod_nonneg _ hp
      have m2 : Int.tmod p (b.length : Int) < (b.length : Int) := Int.tmod_lt_of_pos _ hlen
      have e3 : wrap64 (wrap64 (p * 7) + 3) = p * 7 + 3 := by rw [w64 (n := p * 7) (by omega) (by omega), w64 (by omega) (by omega)]
      have m3 : 0 ≤ Int.tmod (p * 7 + 3) (b.length : Int) := Int.tmod_nonneg _ (by omega)
      have m4 : Int.tmod (p * 7 + 3) (b.length : Int) < (b.length : Int) := Int.tmod_lt_of_pos _ hlen
      have a1 := hb.at_ (Int.tmod p (b.length : Int))
      have a2 := hb.at_ (Int.tmod (p * 7 + 3) (b.length : Int))
      have d1 : 0 ≤ Int.tdiv p (b.length : Int) := Int.tdiv_nonneg hp (by omega)
      have d2 : Int.tdiv p (b.length : Int) ≤ p := by
        rw [Int.tdiv_eq_ediv_of_nonneg hp]
        exact Int.ediv_le_self _ hp
      generalize hA : rd b (Int.tmod p (b.length : Int)) = A at a1
      generalize hB : rd b (Int.tmod (p * 7 + 3) (b.length : Int)) = B at a2
      generalize hD : Int.tdiv p (b.length : Int) = D at d1 d2
      have eY : wrap64 (wrap64 (wrap64 (wrap64 (wrap64 A * 131) + wrap64 (wrap64 B * 1117)) + wrap64 (p * 29)) + wrap64 (wrap64 D * 53)) = A * 131 + B * 1117 + p * 29 + D * 53 := by
        rw [w64 (n := A) (by omega) (by omega), w64 (n := B) (by omega) (by omega), w64 (n := D) (by omega) (by omega), w64 (n := A * 131) (by omega) (by omega), w64 (n := B * 1117) (by omega) (by omega), w64 (n := p * 29) (by omega) (by omega), w64 (n := D * 53) (by omega) (by omega), w64 (n := A * 131 + B * 1117) (by omega) (by omega), w64 (n := A * 131 + B * 1117 + p * 29) (by omega) (by omega), w64 (by omega) (by omega)]
      generalize hY : A * 131 + B * 1117 + p * 29 + D * 53 = Y at eY
      have y1 : 0 ≤ Y := by omega
      have y2 : Y ≤ 200000000 := by omega
      have eq : Int.tdiv Y 64 = Y / 64 := Int.tdiv_eq_ediv_of_nonneg y1
      have hx : 0 ≤ Go.bits .xor .i64 Y (wrap64 (Int.tdiv Y 64)) := by
        rw [eq, w64 (by omega) (by omega)]
        exact xor_nonneg _ _ y1 (by omega) (by omega) (by omega)
      refine ⟨Int.tmod (Go.bits .xor .i64 Y (wrap64 (Int.tdiv Y 64))) n, Int.tmod_nonneg _ hx, Int.tmod_lt_of_pos _ (by omega), fun k hk => ?_⟩
      obtain ⟨m, rfl⟩ : ∃ m, k = m + 1 := ⟨k - 1, by omega⟩
      unfold spec_l20Rd_pick.f
      rw [if_neg (by omega), e1]
      simp only [spec_l20Rd_pick.j0]
      rw [if_neg hle, e2, if_neg hlt, if_neg hl, if_pos m1, if_pos m2, e3, if_pos m3, if_pos m4, if_neg (by omega), hA, hB, hD, eY]
theorem odd_ok {b : List Int} (hb : Rd b) (p n : Int) (hp : 0 ≤ p) (hp2 : p ≤ 1000000) (hn : 0 ≤ n) (hn2 : n ≤ 1000000) :
    ∃ (v : Bool) (p' : Int), p ≤ p' ∧ p' ≤ p + 1 ∧ ∀ k, 1 ≤ k → spec_l20Rd_odd.f k b p n = some (v, p') := by
  by_cases h : n > 0
  · obtain ⟨v, h0, h1, hv⟩ := pick_ok hb p n hp hp2 (by omega) hn2
    exact ⟨v == wrap64 (n - 1), p + 1, by omega, by omega, fun k hk => by unfold spec_l20Rd_odd.f; rw [if_pos h, hv k hk]; rfl⟩
  · exact ⟨false, p, by omega, by omega, fun k hk => by unfold spec_l20Rd_odd.f; rw [if_neg h]⟩
theorem open_ok (l0 : List Int) (hb : ∀ x ∈ l0, (Lit.int .u8 x).wf = true) : ∃ b, Rd b ∧ spec_l20Open.f l0 = some (b, 0) := by
  have hx : ∀ x ∈ l0, 0 ≤ x ∧ x ≤ 255 := fun x hx => by
    have := hb x hx
    simp [Lit.wf, IntKind.min, IntKind.max, IntKind.bits, IntKind.signed] at this
    omega
  unfold spec_l20Open.f
  by_cases h : (l0.length : Int) > 2000
  · rw [if_pos h, if_pos (by omega)]
    exact ⟨l0.take 2000, ⟨fun x hm => hx x (List.mem_of_mem_take hm), by simp; omega⟩, rfl⟩
  · rw [if_neg h]
    exact ⟨l0, ⟨hx, by omega⟩, rfl⟩
end Go.Proofs.Ytcmhilebiojfaaa.L
namespace Go.Proofs.Ytcmhilebiojfaaa.L
open Go.RowKit Go.Proofs.Ytcmhilebiojfaaa.B Go.Proofs.Ytcmhilebiojfaaa.V Go.Proofs.Ytcmhilebiojfaaa.Hand Go.Proofs.YtcmhilebiojfaaaW.PrintWords Go.Proofs.YtcmhilebiojfaaaW.PrintLast Go.Proofs.YtcmhilebiojfaaaW.PrintMore
set_option linter.unusedVariables false
set_option linter.unusedSimpArgs false
theorem bit_nat (a w : Nat) (hw : w ≤ 62) : spec_l1Bit.f (a : Int) (w : Int) = some (if a.testBit w = true then 1 else 0) := by
  unfold spec_l1Bit.f
  rw [if_pos (by omega), shr_nat a w hw, tmod2]
theorem both_l0 (a b : Nat) : ∀ (d w k : Nat), w + d = 8 → d < k →
    spec_l1Both.l0 k a b (sumN w (fun i => a.testBit i && b.testBit i) : Nat) w = some ((sumN 8 (fun i => a.testBit i && b.testBit i) : Nat) : Int) := by
  intro d
  induction d with
  | zero =>
    intro w k hw hk
    obtain ⟨m, rfl⟩ : ∃ m, k = m + 1 := ⟨k - 1, by omega⟩
    obtain rfl : w = 8 := by omega
    simp only [spec_l1Both.l0]
    rw [if_neg (by omega)]
  | succ d ih =>
    intro w k hw hk
    obtain ⟨m, rfl⟩ : ∃ m, k = m + 1 := ⟨k - 1, by omega⟩
    have hlt := sumN_lt w (fun i => a.testBit i && b.testBit i)
    have hp : 2 ^ w ≤ 2 ^ 7 := Nat.pow_le_pow_right (by decide) (by omega)
    have e1 : wrap64 ((w : Int) + 1) = ((w + 1 : Nat) : Int) := by rw [w64 (by omega) (by omega)]; simp
    have key : ∀ x y : Bool, wrap64 (((sumN w (fun i => a.testBit i && b.testBit i) : Nat) : Int) + shl .i64 (wrap64 ((if x = true then 1 else 0) * (if y = true then 1 else 0))) (w : Int)) = ((sumN w (fun i => a.testBit i && b.testBit i) + (if (x && y) = true then 2 ^ w else 0) : Nat) : Int) := by
      intro x y
      generalize sumN w (fun i => a.testBit i && b.testBit i) = q at hlt
      have s0 : shl .i64 (wrap64 0) (w : Int) = 0 := by
        have := shl_nat 0 w (by omega) (by omega)
        rw [Nat.zero_mul] at this
        rw [show wrap64 0 = 0 from w64 (by omega) (by omega)]
        exact this
      have s1 : shl .i64 (wrap64 1) (w : Int) = ((2 ^ w : Nat) : Int) := by
        have := shl_nat 1 w (by omega) (by omega)
        rw [Nat.one_mul] at this
        rw [show wrap64 1 = 1 from w64 (by omega) (by omega)]
        exact this
      generalize 2 ^ w = e at s1 hlt hp
      cases x <;> cases y
      · show wrap64 ((q : Int) + shl .i64 (wrap64 0) (w : Int)) = _
        rw [s0, w64 (by omega) (by omega)]; simp
      · show wrap64 ((q : Int) + shl .i64 (wrap64 0) (w : Int)) = _
        rw [s0, w64 (by omega) (by omega)]; simp
      · show wrap64 ((q : Int) + shl .i64 (wrap64 0) (w : Int)) = _
        rw [s0, w64 (by omega) (by omega)]; simp
      · show wrap64 ((q : Int) + shl .i64 (wrap64 1) (w : Int)) = _
        rw [s1, w64 (by omega) (by omega)]; simp
    have key := key (a.testBit w) (b.testBit w)
    rw [show sumN w (fun i => a.testBit i && b.testBit i) + (if (a.testBit w && b.testBit w) = true then 2 ^ w else 0) = sumN (w + 1) (fun i => a.testBit i && b.testBit i) from rfl] at key
    simp only [spec_l1Both.l0]
    rw [if_pos (by omega), bit_nat a w (by omega)]
    simp only [Option.bind_some]
    rw [bit_nat b w (by omega)]
    simp only [Option.bind_some]
    rw [if_pos (by omega), key, e1]
    exact ih (w + 1) m (by omega) (by omega)
/-- What is in both sets. -/
theorem both_nat (a b k : Nat) (ha : a < 256) (hk : 9 ≤ k) : spec_l1Both.f k (a : Int) (b : Int) = some ((a &&& b : Nat) : Int) := by
  have h := both_l0 a b 8 0 k (by omega) (by omega)
  have e : sumN 8 (fun i => a.testBit i && b.testBit i) = a &&& b := by
    have h2 : a &&& b < 2 ^ 8 := Nat.lt_of_le_of_lt Nat.and_le_left ha
    rw [← sumN_bits 8 (a &&& b) h2]
    exact sumN_congr _ _ _ fun i _ => by rw [Nat.testBit_and]
  rw [e] at h
  unfold spec_l1Both.f
  simpa [sumN] using h
theorem both_int (a b : Int) (k : Nat) (ha : 0 ≤ a) (ha2 : a < 256) (hb : 0 ≤ b) (hk : 9 ≤ k) : spec_l1Both.f k a b = some ((a.toNat &&& b.toNat : Nat) : Int) := by
  obtain ⟨x, rfl⟩ := Int.eq_ofNat_of_zero_le ha
  obtain ⟨y, rfl⟩ := Int.eq_ofNat_of_zero_le hb
  exact both_nat x y k (by omega) hk
end Go.Proofs.Ytcmhilebiojfaaa.L
namespace Go.Proofs.Ytcmhilebiojfaaa.L
open Go.RowKit Go.Proofs.Ytcmhilebiojfaaa.Hand Go.Proofs.YtcmhilebiojfaaaW.PrintWords
set_option linter.unusedVariables false
set_option linter.unusedSimpArgs false
/-- How many numbers below x are in the list. -/
def cnt (l : List Int) (x : Nat) : Nat := (List.range x).countP (fun q : Nat => l.any (fun y => y == (q : Int)))
/-- Tidy ranks. -/
def tidyL (l : List Int) : List Int := l.map (fun x => (cnt l x.toNat : Int))
theorem tidyL_length (l : List Int) : (tidyL l).length = l.length := by unfold tidyL; simp
theorem rd_map (l : List Int) (f : Int → Int) (i : Nat) (h : i < l.length) : rd (l.map f) (i : Int) = f (rd l (i : Int)) := by
  unfold rd
  rw [Int.toNat_natCast, List.getD_eq_getElem?_getD, List.getD_eq_getElem?_getD, List.getElem?_map, List.getElem?_eq_getElem h]; rfl
theorem tidyL_rd (l : List Int) (i : Nat) (h : i < l.length) : rd (tidyL l) (i : Int) = (cnt l (rd l (i : Int)).toNat : Int) := rd_map l _ i h
theorem rd_mem (l : List Int) (i : Nat) (h : i < l.length) : rd l (i : Int) ∈ l := by
  unfold rd
  rw [Int.toNat_natCast, List.getD_eq_getElem?_getD, List.getElem?_eq_getElem h]; exact List.getElem_mem h
theorem mem_rd {l : List Int} {x : Int} (h : x ∈ l) : ∃ i : Nat, i < l.length ∧ rd l (i : Int) = x := by
  obtain ⟨i, hi, e⟩ := List.mem_iff_getElem.1 h
  refine ⟨i, hi, ?_⟩
  unfold rd
  rw [Int.toNat_natCast, List.getD_eq_getElem?_getD, List.getElem?_eq_getElem hi]; exact e
theorem cnt_succ (l : List Int) (x : Nat) : cnt l (x + 1) = cnt l x + if l.any (fun y => y == (x : Int)) = true then 1 else 0 := by
  unfold cnt
  rw [List.range_succ, List.countP_append, List.countP_singleton]
theorem cnt_mono (l : List Int) {x y : Nat} (h : x ≤ y) : cnt l x ≤ cnt l y := by
  induction y with
  | zero => obtain rfl : x = 0 := by omega
            exact Nat.le_refl _
  | succ y ih =>
    rcases Nat.lt_or_ge x (y + 1) with h1 | h1
    · rw [cnt_succ]; have := ih (by omega); omega
    · obtain rfl : x = y + 1 := by omega
      exact Nat.le_refl _
theorem cnt_lt {l : List Int} {x y : Nat} (h : x < y) (hx : (x : Int) ∈ l) : cnt l x < cnt l y := by
  have h1 := cnt_mono l (show x + 1 ≤ y from h)
  rw [cnt_succ, if_pos (List.any_eq_true.2 ⟨_, hx, by simp⟩)] at h1
  omega
theorem cnt_le (l : List Int) (x : Nat) : cnt l x ≤ x := by
  unfold cnt
  have := List.countP_le_length (p := fun q : Nat => l.any (fun y => y == (q : Int))) (l := List.range x)
  simpa using this
/-- Is place v the first of its rank, and is its rank below x. -/
def firstB (l : List Int) (x : Int) (v : Nat) : Bool := decide (rd l (v : Int) < x) && (List.range v).all (fun u => decide (rd l (u : Int) ≠ rd l (v : Int)))
theorem count_or (p : Nat → Bool) (y : Int) (x : Nat) :
    (List.range x).countP (fun q : Nat => p q || ((q : Int) == y)) = (List.range x).countP p + if 0 ≤ y ∧ y < x ∧ p y.toNat = false then 1 else 0 := by
  induction x with
  | zero => simp; omega
  | succ x ih =>
    rw [List.range_succ, List.countP_append, List.countP_append, ih, List.countP_singleton, List.countP_singleton]
    by_cases e : (x : Int) = y
    · subst e
      have n1 : ¬ (0 ≤ (x : Int) ∧ (x : Int) < (x : Int) ∧ p (x : Int).toNat = false) := fun h => absurd h.2.1 (by omega)
      rw [if_neg n1, Int.toNat_natCast]
      cases hp : p x with
      | true =>
        have n2 : ¬ (0 ≤ (x : Int) ∧ (x : Int) < ((x + 1 : Nat) : Int) ∧ true = false) := fun h => absurd h.2.2 (by simp)
        rw [if_neg n2]; simp
      | false =>
        have n2 : 0 ≤ (x : Int) ∧ (x : Int) < ((x + 1 : Nat) : Int) ∧ false = false := ⟨by omega, by omega, rfl⟩
        rw [if_pos n2]; simp
    · have e2 : ((x : Int) == y) = false := by simpa using e
      rw [e2, Bool.or_false]
      by_cases h : 0 ≤ y ∧ y < x ∧ p y.toNat = false
      · have h' : 0 ≤ y ∧ y < ((x + 1 : Nat) : Int) ∧ p y.toNat = false := ⟨h.1, by omega, h.2.2⟩
        rw [if_pos h, if_pos h']; omega
      · have h' : ¬ (0 ≤ y ∧ y < ((x + 1 : Nat) : Int) ∧ p y.toNat = false) := fun k => h ⟨k.1, by omega, k.2.2⟩
        rw [if_neg h, if_neg h']; omega
theorem take_snoc (l : List Int) (m : Nat) (h : m < l.length) : l.take (m + 1) = l.take m ++ [rd l (m : Int)] := by
  rw [List.take_succ_eq_append_getElem h]
  congr 1
  unfold rd
  rw [Int.toNat_natCast, List.getD_eq_getElem?_getD, List.getElem?_eq_getElem h]; rfl
theorem any_take (l : List Int) (y : Int) : ∀ m, m ≤ l.length → ((l.take m).any (fun z => z == y) = false ↔ (List.range m).all (fun u => decide (rd l (u : Int) ≠ y)) = true) := by
  intro m
  induction m with
  | zero => simp
  | succ m ih =>
    intro hm
    rw [take_snoc l m (by omega), List.any_append, List.range_succ, List.all_append, Bool.or_eq_false_iff, Bool.and_eq_true, ih (by omega)]
    simp
theorem lots_take (l : List Int) (x : Nat) (h0 : ∀ y ∈ l, 0 ≤ y) : ∀ m, m ≤ l.length → (List.range x).countP (fun q : Nat => (l.take m).any (fun y => y == (q : Int))) = (List.range m).countP (firstB l x) := by
  intro m
  induction m with
  | zero => simp
  | succ m ih =>
    intro hm
    have e : (fun q : Nat => (l.take (m + 1)).any (fun y => y == (q : Int))) = fun q : Nat => (l.take m).any (fun y => y == (q : Int)) || ((q : Int) == rd l (m : Int)) := by
      funext q
      rw [take_snoc l m (by omega), List.any_append]
      congr 1
      simp only [List.any_cons, List.any_nil, Bool.or_false]
      rw [Bool.eq_iff_iff, beq_iff_eq, beq_iff_eq]
      exact eq_comm
    rw [e, count_or, ih (by omega), List.range_succ, List.countP_append, List.countP_singleton]
    congr 1
    have hy := h0 _ (rd_mem l m (by omega))
    have h1 := any_take l (rd l (m : Int)) m (by omega)
    have h2 : (((rd l (m : Int)).toNat : Nat) : Int) = rd l (m : Int) := by omega
    unfold firstB
    by_cases hc : rd l (m : Int) < (x : Int)
    · rw [decide_eq_true hc, Bool.true_and]
      cases hb : (List.range m).all (fun u => decide (rd l (u : Int) ≠ rd l (m : Int))) with
      | true => rw [if_pos ⟨hy, hc, by rw [h2]; exact h1.2 hb⟩]; rfl
      | false => rw [if_neg (by rintro ⟨_, _, c⟩; rw [h2] at c; rw [h1.1 c] at hb; cases hb)]; rfl
    · rw [decide_eq_false hc, if_neg (by rintro ⟨_, b, _⟩; exact hc b)]; rfl
/-- Tidy ranks go by the order of the ranks alone. -/
theorem cnt_lots (l : List Int) (x : Nat) (h0 : ∀ y ∈ l, 0 ≤ y) : cnt l x = (List.range l.length).countP (firstB l x) := by
  have := lots_take l x h0 l.length (Nat.le_refl _)
  rw [List.take_length] at this
  exact this
/-- Two rows of ranks are in the same order. -/
def Same (a b : List Int) : Prop := a.length = b.length ∧ ∀ i j : Nat, i < a.length → j < a.length → (rd a (i : Int) ≤ rd a (j : Int) ↔ rd b (i : Int) ≤ rd b (j : Int))
theorem Same.symm {a b : List Int} (h : Same a b) : Same b a := ⟨h.1.symm, fun i j hi hj => (h.2 i j (by rw [h.1]; exact hi) (by rw [h.1]; exact hj)).symm⟩
theorem Same.trans {a b c : List Int} (h : Same a b) (k : Same b c) : Same a c := ⟨h.1.trans k.1, fun i j hi hj => (h.2 i j hi hj).trans (k.2 i j (by rw [← h.1]; exact hi) (by rw [← h.1]; exact hj))⟩
theorem Same.tidy {a b : List Int} (h : Same a b) (ha : ∀ y ∈ a, 0 ≤ y) (hb : ∀ y ∈ b, 0 ≤ y) : tidyL a = tidyL b := by
  apply List.ext_getElem?
  intro i
  by_cases hi : i < a.length
  · have hi2 : i < b.length := by rw [← h.1]; exact hi
    have e : ∀ (l : List Int) (j : Nat), j < l.length → l[j]? = some (rd l (j : Int)) := fun l j hj => by
      unfold rd
      rw [Int.toNat_natCast, List.getD_eq_getElem?_getD, List.getElem?_eq_getElem hj]; rfl
    rw [e _ _ (by rw [tidyL_length]; exact hi), e _ _ (by rw [tidyL_length]; exact hi2), tidyL_rd a i hi, tidyL_rd b i hi2]
    have pa := ha _ (rd_mem a i hi)
    have pb := hb _ (rd_mem b i hi2)
    rw [cnt_lots a _ ha, cnt_lots b _ hb, ← h.1]
    congr 2
    apply List.countP_congr
    intro v hv
    have hv : v < a.length := List.mem_range.1 hv
    have c1 : (rd a (v : Int) < (((rd a (i : Int)).toNat : Nat) : Int)) ↔ (rd b (v : Int) < (((rd b (i : Int)).toNat : Nat) : Int)) := by
      have := h.2 i v hi hv
      omega
    have c2 : ∀ u, u < v → (rd a (u : Int) ≠ rd a (v : Int) ↔ rd b (u : Int) ≠ rd b (v : Int)) := fun u hu => by
      have h1 := h.2 u v (by omega) hv
      have h2 := h.2 v u hv (by omega)
      omega
    unfold firstB
    rw [Bool.and_eq_true, Bool.and_eq_true, decide_eq_true_eq, decide_eq_true_eq, List.all_eq_true, List.all_eq_true]
    constructor
    · rintro ⟨h1, h2⟩
      exact ⟨c1.1 h1, fun u hu => decide_eq_true ((c2 u (List.mem_range.1 hu)).1 (of_decide_eq_true (h2 u hu)))⟩
    · rintro ⟨h1, h2⟩
      exact ⟨c1.2 h1, fun u hu => decide_eq_true ((c2 u (List.mem_range.1 hu)).2 (of_decide_eq_true (h2 u hu)))⟩
  · rw [List.getElem?_eq_none (by rw [tidyL_length]; omega), List.getElem?_eq_none (by rw [tidyL_length, ← h.1]; omega)]
theorem same_tidy (l : List Int) (h0 : ∀ y ∈ l, 0 ≤ y) : Same l (tidyL l) := by
  refine ⟨(tidyL_length l).symm, fun i j hi hj => ?_⟩
  rw [tidyL_rd l i hi, tidyL_rd l j hj]
  have pi := h0 _ (rd_mem l i hi)
  have pj := h0 _ (rd_mem l j hj)
  constructor
  · intro h
    have := cnt_mono l (show (rd l (i : Int)).toNat ≤ (rd l (j : Int)).toNat by omega)
    omega
  · intro h
    rcases Int.lt_or_le (rd l (j : Int)) (rd l (i : Int)) with h1 | h1
    · have := cnt_lt (l := l) (show (rd l (j : Int)).toNat < (rd l (i : Int)).toNat by omega) (by rw [Int.toNat_of_nonneg pj]; exact rd_mem l j hj)
      omega
    · exact h1
theorem tidyL_nonneg (l : List Int) : ∀ y ∈ tidyL l, 0 ≤ y := by
  intro y hy
  unfold tidyL at hy
  obtain ⟨x, _, rfl⟩ := List.mem_map.1 hy
  omega
theorem tidy_tidy (l : List Int) (h0 : ∀ y ∈ l, 0 ≤ y) : tidyL (tidyL l) = tidyL l := ((same_tidy l h0).tidy h0 (tidyL_nonneg l)).symm
theorem tidy_le (l : List Int) (m : Int) (h0 : ∀ y ∈ l, 0 ≤ y ∧ y ≤ m) : ∀ y ∈ tidyL l, 0 ≤ y ∧ y ≤ m := by
  intro y hy
  unfold tidyL at hy
  obtain ⟨x, hx, rfl⟩ := List.mem_map.1 hy
  have h1 := cnt_le l x.toNat
  have := h0 x hx
  omega
theorem tidy_zero (l : List Int) (h : (0 : Int) ∈ l) : (0 : Int) ∈ tidyL l := by
  unfold tidyL
  exact List.mem_map.2 ⟨0, h, by simp [cnt]⟩
theorem leastN_le (l : List Int) (s : Int) : ∀ n, leastN l s n ≤ 10 ∧ ∀ v : Nat, v < n → bit s v = true → leastN l s n ≤ rd l (v : Int)
  | 0 => ⟨Int.le_refl _, fun v hv => absurd hv (by omega)⟩
  | n + 1 => by
    obtain ⟨h1, h2⟩ := leastN_le l s n
    simp only [leastN]
    cases hb : bit s n with
    | true =>
      rw [if_pos rfl]
      have hm : mn (leastN l s n) (rd l (n : Int)) ≤ leastN l s n ∧ mn (leastN l s n) (rd l (n : Int)) ≤ rd l (n : Int) := by unfold mn; split <;> omega
      refine ⟨Int.le_trans hm.1 h1, fun v hv hbv => ?_⟩
      rcases Nat.lt_or_ge v n with h3 | h3
      · exact Int.le_trans hm.1 (h2 v h3 hbv)
      · obtain rfl : v = n := by omega
        exact hm.2
    | false =>
      rw [if_neg (by simp)]
      refine ⟨h1, fun v hv hbv => ?_⟩
      rcases Nat.lt_or_ge v n with h3 | h3
      · exact h2 v h3 hbv
      · obtain rfl : v = n := by omega
        rw [hb] at hbv; cases hbv
theorem leastN_mem (l : List Int) (s : Int) : ∀ n, leastN l s n = 10 ∨ ∃ v : Nat, v < n ∧ bit s v = true ∧ rd l (v : Int) = leastN l s n
  | 0 => .inl rfl
  | n + 1 => by
    simp only [leastN]
    cases hb : bit s n with
    | true =>
      rw [if_pos rfl]
      have hm : mn (leastN l s n) (rd l (n : Int)) = leastN l s n ∨ mn (leastN l s n) (rd l (n : Int)) = rd l (n : Int) := by unfold mn; split <;> simp
      rcases hm with hm | hm
      · rcases leastN_mem l s n with h | ⟨v, h1, h2, h3⟩
        · left; rw [hm, h]
        · right; exact ⟨v, by omega, h2, by rw [hm, h3]⟩
      · right; exact ⟨n, by omega, hb, hm.symm⟩
    | false =>
      rw [if_neg (by simp)]
      rcases leastN_mem l s n with h | ⟨v, h1, h2, h3⟩
      · exact .inl h
      · exact .inr ⟨v, by omega, h2, h3⟩
/-- A world has the least rank of a set just if no world of the set has a lesser one. -/
theorem least_iff (l : List Int) (s : Int) (h9 : ∀ y ∈ l, y ≤ 9) (w : Nat) (hw : w < l.length) (hb : bit s w = true) :
    (rd l (w : Int) == least l s) = true ↔ ∀ v : Nat, v < l.length → bit s v = true → rd l (w : Int) ≤ rd l (v : Int) := by
  have h1 := leastN_le l s l.length
  have h2 := leastN_mem l s l.length
  rw [beq_iff_eq]
  constructor
  · intro h v hv hbv
    rw [h]
    exact h1.2 v hv hbv
  · intro h
    have h3 := h1.2 w hw hb
    have h4 := h9 _ (rd_mem l w hw)
    unfold least
    rcases h2 with h2 | ⟨v, hv, hbv, e⟩
    · omega
    · have := h v hv hbv
      omega
theorem rev_bit (l : List Int) (s : Int) (w : Nat) : bit (rev l s) w = (decide (w < l.length) && (bit s w && (rd l (w : Int) == least l s))) := by
  unfold rev bit
  rw [Int.toNat_natCast, sumN_testBit]
theorem Same.rev {a b : List Int} (h : Same a b) (ha : ∀ y ∈ a, y ≤ 9) (hb : ∀ y ∈ b, y ≤ 9) (s : Int) : rev a s = rev b s := by
  unfold Hand.rev
  rw [← h.1]
  congr 1
  apply sumN_congr
  intro w hw
  have hw2 : w < b.length := by rw [← h.1]; exact hw
  cases hbw : bit s w with
  | false => rfl
  | true =>
    rw [Bool.true_and, Bool.true_and, Bool.eq_iff_iff, least_iff a s ha w hw hbw, least_iff b s hb w hw2 hbw]
    constructor
    · intro h3 v hv hbv
      exact (h.2 w v hw (by rw [h.1]; exact hv)).1 (h3 v (by rw [h.1]; exact hv) hbv)
    · intro h3 v hv hbv
      exact (h.2 w v hw hv).2 (h3 v (by rw [← h.1]; exact hv) hbv)
/-- The worlds i and j, as a set. -/
def pair (i j : Nat) : Int := ((2 ^ i ||| 2 ^ j : Nat) : Int)
end Go.Proofs.Ytcmhilebiojfaaa.L
namespace Go.Proofs.Ytcmhilebiojfaaa.L
open Go.RowKit Go.Proofs.Ytcmhilebiojfaaa.B Go.Proofs.Ytcmhilebiojfaaa.V Go.Proofs.Ytcmhilebiojfaaa.Hand Go.Proofs.YtcmhilebiojfaaaW.PrintWords Go.Proofs.YtcmhilebiojfaaaW.PrintLast Go.Proofs.YtcmhilebiojfaaaW.PrintMore
set_option linter.unusedVariables false
set_option linter.unusedSimpArgs false
theorem sTableOk_l0 (t : Int) (l : List Int) (hl : l.length ≤ 2000000) : ∀ (d i k : Nat), i + d = l.length → d < k →
    spec_TableOk.l0 k t l i = some ((l.drop i).all (fun s => okS t s) && ((decide (1 ≤ t) && decide (t ≤ 2)) && decide ((l.length : Int) = allW t + 1))) := by
  intro d
  induction d with
  | zero =>
    intro i k hi hk
    obtain ⟨q, rfl⟩ : ∃ q, k = q + 1 := ⟨k - 1, by omega⟩
    simp only [spec_TableOk.l0]
    rw [if_neg (by omega), List.drop_eq_nil_of_le (by omega), l1In_eq]
    simp only [Option.bind_some, List.all_nil, Bool.true_and]
    cases hb : (decide (1 ≤ t) && decide (t ≤ 2)) with
    | false => simp
    | true =>
      have ht : okT t = true := by
        unfold okT; simp at hb; simp; omega
      have := allW_range ht
      rw [if_pos rfl, l1All_eq t ht]
      simp only [Option.bind_some]
      rw [w64 (by omega) (by omega)]
      rfl
  | succ d ih =>
    intro i k hi hk
    obtain ⟨q, rfl⟩ : ∃ q, k = q + 1 := ⟨k - 1, by omega⟩
    simp only [spec_TableOk.l0]
    rw [if_pos (by omega), if_pos (by omega), sSetOk_eq, drop_cons l i (by omega)]
    simp only [Option.bind_some, List.all_cons]
    cases hx : okS t (rd l (i : Int)) with
    | false => simp
    | true =>
      rw [if_pos rfl, next64 i (by omega), ih (i + 1) q (by omega) (by omega)]
      simp
theorem sTableOk_eq (t : Int) (l : List Int) (k : Nat) (hl : l.length ≤ 2000000) (hk : l.length < k) : spec_TableOk.f k t l = some (okTab t l) := by
  have h := sTableOk_l0 t l hl l.length 0 k (by omega) hk
  unfold spec_TableOk.f
  rw [show ((0 : Nat) : Int) = 0 from rfl, List.drop_zero] at h
  rw [h]
  unfold okTab
  rw [Bool.and_comm, Bool.and_assoc]
/-- The entry of MaxTable for a set. -/
def maxE (c : Int) (s : Nat) : Int := if s &&& c.toNat = 0 then (s : Int) else ((s &&& c.toNat : Nat) : Int)
/-- MaxTable, where there is one. -/
def maxTab (t c : Int) : List Int := (List.range ((allW t).toNat + 1)).map (maxE c)
theorem sMax_l0 (t c : Int) (ht : t ≤ 2) (hs : okS t c = true) (hc : ¬ c = 0) : ∀ (d i k : Nat), i + d = (allW t).toNat + 1 → 2 * d + 20 ≤ k →
    spec_MaxTable.l0 k t c ((List.range i).map (maxE c)) i = some (maxTab t c) := by
  obtain ⟨g1, g2, g3, g4⟩ := okS_cases hs
  have hW := allW_range g1
  have hin : (decide (1 ≤ t) && decide (t ≤ 2)) = true := by rcases okT_cases g1 with rfl | rfl | rfl <;> simp; omega
  intro d
  induction d with
  | zero =>
    intro i k hi hk
    obtain ⟨m, rfl⟩ : ∃ m, k = m + 2 := ⟨k - 2, by omega⟩
    simp only [spec_MaxTable.l0]
    rw [l1In_eq, hin]
    simp only [Option.bind_some, if_true]
    rw [sSetOk_eq, hs]
    simp only [Option.bind_some, if_true]
    rw [if_neg hc, l1All_eq t g1]
    simp only [Option.bind_some, spec_MaxTable.j1]
    rw [if_neg (by simp; omega), show i = (allW t).toNat + 1 by omega]; rfl
  | succ d ih =>
    intro i k hi hk
    obtain ⟨m, rfl⟩ : ∃ m, k = m + 2 := ⟨k - 2, by omega⟩
    simp only [spec_MaxTable.l0]
    rw [l1In_eq, hin]
    simp only [Option.bind_some, if_true]
    rw [sSetOk_eq, hs]
    simp only [Option.bind_some, if_true]
    rw [if_neg hc, l1All_eq t g1]
    simp only [Option.bind_some, spec_MaxTable.j1]
    rw [if_pos (by simp; omega), both_int (i : Int) c m (by omega) (by omega) g2 (by omega), Int.toNat_natCast]
    simp only [Option.bind_some]
    have hE : maxE c i = if i &&& c.toNat = 0 then (i : Int) else ((i &&& c.toNat : Nat) : Int) := rfl
    have hn : (List.range (i + 1)).map (maxE c) = (List.range i).map (maxE c) ++ [maxE c i] := range_snoc i (maxE c)
    have ih1 := ih (i + 1) m (by omega) (by omega)
    rw [hn, hE] at ih1
    by_cases hz : i &&& c.toNat = 0
    · rw [if_pos (by omega), if_pos (by simp; omega), next64 i (by omega)]
      rw [if_pos hz] at ih1
      exact ih1
    · rw [if_neg (by omega), if_pos (by simp; omega), next64 i (by omega)]
      rw [if_neg hz] at ih1
      exact ih1
theorem sMaxTable_eq (t c : Int) (k : Nat) (hk : 60 ≤ k) : spec_MaxTable.f k t c = some (if t ≤ 2 ∧ okS t c = true ∧ ¬ c = 0 then maxTab t c else []) := by
  unfold spec_MaxTable.f
  by_cases h : t ≤ 2 ∧ okS t c = true ∧ ¬ c = 0
  · rw [if_pos h]
    obtain ⟨g1, g2, g3, g4⟩ := okS_cases h.2.1
    have hW : allW t ≤ 15 := by rcases okT_cases g1 with rfl | rfl | rfl <;> first | decide | (exfalso; omega)
    exact sMax_l0 t c h.1 h.2.1 h.2.2 ((allW t).toNat + 1) 0 k (by omega) (by omega)
  · rw [if_neg h]
    obtain ⟨m, rfl⟩ : ∃ m, k = m + 2 := ⟨k - 2, by omega⟩
    simp only [spec_MaxTable.l0]
    rw [l1In_eq]
    simp only [Option.bind_some]
    cases hin : (decide (1 ≤ t) && decide (t ≤ 2)) with
    | false => simp [spec_MaxTable.j1]
    | true =>
      rw [if_pos rfl, sSetOk_eq]
      simp only [Option.bind_some]
      cases hs : okS t c with
      | false => simp [spec_MaxTable.j1]
      | true =>
        have hc : c = 0 := by
          simp at hin
          rcases Classical.em (c = 0) with h0 | h0
          · exact h0
          · exact absurd ⟨hin.2, hs, h0⟩ h
        rw [if_pos rfl, if_pos hc]
        simp [spec_MaxTable.j1]
end Go.Proofs.Ytcmhilebiojfaaa.L
namespace Go.Proofs.Ytcmhilebiojfaaa.L
open Go.RowKit Go.Proofs.Ytcmhilebiojfaaa.B Go.Proofs.Ytcmhilebiojfaaa.V Go.Proofs.Ytcmhilebiojfaaa.Hand Go.Proofs.YtcmhilebiojfaaaW.PrintWords Go.Proofs.YtcmhilebiojfaaaW.PrintLast Go.Proofs.YtcmhilebiojfaaaW.PrintMore
set_option linter.unusedVariables false
set_option linter.unusedSimpArgs false
theorem allW_pow {t : Int} (h : okT t = true) : (allW t).toNat + 1 = 2 ^ (nW t).toNat ∧ (nW t).toNat ≤ 8 ∧ 2 ≤ (nW t).toNat := by
  rcases okT_cases h with rfl | rfl | rfl <;> decide
theorem bit_step (q i : Nat) (P : Nat → Bool) (hi : i ≤ 8) (hP : P i = true) : wrap64 ((sumN i P : Nat) + shl .i64 1 (i : Int)) = ((sumN (i + 1) P : Nat) : Int) := by
  have hlt := sumN_lt i P
  have hp : 2 ^ i ≤ 2 ^ 8 := Nat.pow_le_pow_right (by decide) hi
  have s1 : shl .i64 1 (i : Int) = ((2 ^ i : Nat) : Int) := by
    have := shl_nat 1 i (by omega) (by omega)
    rw [Nat.one_mul] at this
    exact this
  have e : sumN (i + 1) P = sumN i P + 2 ^ i := by simp [sumN, hP]
  rw [s1, e]
  generalize 2 ^ i = m at *
  rw [w64 (by omega) (by omega)]; simp
theorem sl2_l1 (a : Nat) (l : List Int) (m : Int) (hl : l.length ≤ 8) : ∀ (d i k : Nat), i + d = l.length → d < k →
    spec_l2Least.l1 k l a m (sumN i (fun w => a.testBit w && (rd l (w : Int) == m)) : Nat) i = some ((sumN l.length (fun w => a.testBit w && (rd l (w : Int) == m)) : Nat) : Int) := by
  intro d
  induction d with
  | zero =>
    intro i k hi hk
    obtain ⟨q, rfl⟩ : ∃ q, k = q + 1 := ⟨k - 1, by omega⟩
    obtain rfl : i = l.length := by omega
    simp only [spec_l2Least.l1]
    rw [if_neg (by omega)]
  | succ d ih =>
    intro i k hi hk
    obtain ⟨q, rfl⟩ : ∃ q, k = q + 1 := ⟨k - 1, by omega⟩
    have ih1 := ih (i + 1) q (by omega) (by omega)
    simp only [spec_l2Least.l1]
    rw [if_pos (by omega), bit_nat a i (by omega), next64 i (by omega)]
    simp only [Option.bind_some]
    cases ht : a.testBit i with
    | true =>
      rw [if_pos rfl, if_pos (by omega)]
      by_cases hm : rd l (i : Int) = m
      · rw [if_pos hm, bit_step 0 i (fun w => a.testBit w && (rd l (w : Int) == m)) (by omega) (by simp [ht, hm])]
        exact ih1
      · rw [if_neg hm]
        rw [sumN_skip i _ (by simp [ht, hm])] at ih1
        exact ih1
    | false =>
      rw [if_neg (by simp)]
      rw [sumN_skip i _ (by simp [ht])] at ih1
      exact ih1
theorem sl2_l0 (a : Nat) (l : List Int) (hl : l.length ≤ 8) : ∀ (d i k : Nat), i + d = l.length → d + l.length + 1 < k →
    spec_l2Least.l0 k l a (leastN l a i) i = some (rev l (a : Int)) := by
  intro d
  induction d with
  | zero =>
    intro i k hi hk
    obtain ⟨q, rfl⟩ : ∃ q, k = q + 1 := ⟨k - 1, by omega⟩
    obtain rfl : i = l.length := by omega
    simp only [spec_l2Least.l0]
    rw [if_neg (by omega)]
    have h := sl2_l1 a l (least l a) hl l.length 0 q (by omega) (by omega)
    unfold rev bit
    rw [Int.toNat_natCast]
    exact h
  | succ d ih =>
    intro i k hi hk
    obtain ⟨q, rfl⟩ : ∃ q, k = q + 1 := ⟨k - 1, by omega⟩
    have hb : bit (a : Int) i = a.testBit i := by unfold bit; simp
    have ih1 := ih (i + 1) q (by omega) (by omega)
    simp only [leastN, hb] at ih1
    simp only [spec_l2Least.l0]
    rw [if_pos (by omega), bit_nat a i (by omega), next64 i (by omega)]
    simp only [Option.bind_some]
    cases ht : a.testBit i with
    | true => rw [ht, if_pos rfl] at ih1; rw [if_pos rfl, if_pos (by omega)]; exact ih1
    | false => rw [ht, if_neg (by simp)] at ih1; rw [if_neg (by simp)]; exact ih1
theorem sl2Least_eq (l : List Int) (s : Int) (k : Nat) (hl : l.length ≤ 8) (h0 : 0 ≤ s) (hk : 20 ≤ k) : spec_l2Least.f k l s = some (rev l s) := by
  obtain ⟨a, rfl⟩ := Int.eq_ofNat_of_zero_le h0
  exact sl2_l0 a l hl l.length 0 k (by omega) (by omega)
end Go.Proofs.Ytcmhilebiojfaaa.L
namespace Go.Proofs.Ytcmhilebiojfaaa.L
open Go.RowKit Go.Proofs.Ytcmhilebiojfaaa.B Go.Proofs.Ytcmhilebiojfaaa.V Go.Proofs.Ytcmhilebiojfaaa.Hand Go.Proofs.YtcmhilebiojfaaaW.PrintWords Go.Proofs.YtcmhilebiojfaaaW.PrintLast Go.Proofs.YtcmhilebiojfaaaW.PrintMore
set_option linter.unusedVariables false
set_option linter.unusedSimpArgs false
theorem rev_nat (l : List Int) (s : Int) (h : l.length ≤ 8) : ∃ c : Nat, rev l s = (c : Int) ∧ c < 256 := by
  refine ⟨sumN l.length (fun w => bit s w && (rd l (w : Int) == least l s)), rfl, ?_⟩
  exact Nat.lt_of_lt_of_le (sumN_lt _ _) (Nat.pow_le_pow_right (n := 2) (by decide) h)
end Go.Proofs.Ytcmhilebiojfaaa.L
namespace Go.Proofs.Ytcmhilebiojfaaa.L
open Go.RowKit Go.Proofs.Ytcmhilebiojfaaa.B Go.Proofs.Ytcmhilebiojfaaa.V Go.Proofs.Ytcmhilebiojfaaa.Hand Go.Proofs.YtcmhilebiojfaaaW.PrintWords Go.Proofs.YtcmhilebiojfaaaW.PrintLast Go.Proofs.YtcmhilebiojfaaaW.PrintMore
set_option linter.unusedVariables false
set_option linter.unusedSimpArgs false
theorem okTab_cases' {t : Int} {l : List Int} (h : okTab t l = true) : okT t = true ∧ t ≤ 2 ∧ (l.length : Int) = allW t + 1 ∧ (∀ x ∈ l, 0 ≤ x ∧ x ≤ 255) ∧ 4 ≤ l.length ∧ l.length ≤ 16 := by
  unfold okTab at h
  simp only [Bool.and_eq_true, decide_eq_true_eq, List.all_eq_true] at h
  obtain ⟨⟨h1, h2⟩, h3, h4⟩ := h
  have hc : t = 1 ∨ t = 2 := by omega
  refine ⟨by unfold okT; simp; omega, h2, h3, fun x hx => ?_, ?_⟩
  · have := okS_cases (h4 x hx)
    omega
  · rcases hc with rfl | rfl
    · have : allW 1 = 3 := by decide
      omega
    · have : allW 2 = 15 := by decide
      omega
theorem ent_rd {l : List Int} (hp : ∀ x ∈ l, 0 ≤ x ∧ x ≤ 255) (i : Nat) (h : i < l.length) : rd l (i : Int) = ((ent l i : Nat) : Int) ∧ ent l i < 256 := by
  have := hp _ (Hand.mem_rd l i h)
  unfold ent
  omega
/-- FirstFault. -/
def fauE (t : Int) (l : List Int) : Int := if okTab t l = true then fault l else -1
theorem FirstFault_eq (t : Int) (l : List Int) (k : Nat) (hk : 70000 ≤ k) : impl_FirstFault.f k t l = some (fauE t l) := by
  unfold impl_FirstFault.f fauE
  rw [show impl_isTable.f t l = some (okTab t l) from rfl]
  simp only [Option.bind_some]
  cases h : okTab t l with
  | false => simp
  | true =>
    obtain ⟨h1, h2, h3, h4, h5, h6⟩ := okTab_cases' h
    rw [if_pos rfl, firstFault_eq l k (by omega) h4 hk]
    simp
theorem sff_l3 (l : List Int) (hl : l.length ≤ 16) (hp : ∀ x ∈ l, 0 ≤ x ∧ x ≤ 255) (a : Nat) (ha : a < l.length) (K : Nat) (hK : 20 ≤ K) : ∀ (d b k : Nat), b + d = l.length → d + K < k →
    (∀ k', K ≤ k' → spec_FirstFault.l2 k' l ((a + 1 : Nat) : Int) = some (if (from_ (a + 1) l.length).all (fun a => (List.range l.length).all fun b => fault3At l a b) = true then 0 else 3)) →
    spec_FirstFault.l3 k l (a : Int) (b : Int) = some (if ((from_ b l.length).all (fun b => fault3At l a b) && (from_ (a + 1) l.length).all (fun a => (List.range l.length).all fun b => fault3At l a b)) = true then 0 else 3) := by
  obtain ⟨he, he2⟩ := ent_rd hp a ha
  intro d
  induction d with
  | zero =>
    intro b k hb hk h2
    obtain ⟨q, rfl⟩ : ∃ q, k = q + 1 := ⟨k - 1, by omega⟩
    obtain rfl : b = l.length := by omega
    simp only [spec_FirstFault.l3]
    rw [if_neg (by omega), next64 a (by omega), h2 q (by omega), from_end]; simp
  | succ d ih =>
    intro b k hb hk h2
    obtain ⟨q, rfl⟩ : ∃ q, k = q + 1 := ⟨k - 1, by omega⟩
    have hab : a &&& b ≤ a := Nat.and_le_left
    have hIH := ih (b + 1) q (by omega) (by omega) h2
    obtain ⟨hm, hm2⟩ := ent_rd hp (a &&& b) (by omega)
    simp only [spec_FirstFault.l3]
    rw [if_pos (by omega), if_pos (by omega), if_pos (by omega), he, both_nat (ent l a) b q he2 (by omega)]
    simp only [Option.bind_some]
    rw [both_nat a b q (by omega) (by omega), from_cons b _ (by omega), next64 b (by omega), hIH, List.all_cons]
    simp only [Option.bind_some]
    have hF : fault3At l a b = (ent l a &&& b == 0 || ent l a &&& b == ent l (a &&& b)) := rfl
    rw [hF]
    by_cases hz : ent l a &&& b = 0
    · rw [if_pos (by omega)]; simp [hz]
    · rw [if_neg (by omega), if_pos (by omega), if_pos (by omega), hm]
      by_cases hy : ent l a &&& b = ent l (a &&& b)
      · rw [if_pos (by omega)]; simp [hy]
      · rw [if_neg (by omega)]; simp [hy, hz]
theorem sff_l2 (l : List Int) (hl : l.length ≤ 16) (hp : ∀ x ∈ l, 0 ≤ x ∧ x ≤ 255) : ∀ (d a k : Nat), a + d = l.length → (d + 1) * (l.length + 3) + 20 < k →
    spec_FirstFault.l2 k l (a : Int) = some (if (from_ a l.length).all (fun a => (List.range l.length).all fun b => fault3At l a b) = true then 0 else 3) := by
  intro d
  induction d with
  | zero =>
    intro a k ha hk
    obtain ⟨q, rfl⟩ : ∃ q, k = q + 1 := ⟨k - 1, by omega⟩
    obtain rfl : a = l.length := by omega
    simp only [spec_FirstFault.l2]
    rw [if_neg (by omega), from_end]; rfl
  | succ d ih =>
    intro a k ha hk
    obtain ⟨q, rfl⟩ : ∃ q, k = q + 1 := ⟨k - 1, by omega⟩
    simp only [spec_FirstFault.l2]
    have e1 : (d + 1 + 1) * (l.length + 3) = (d + 1) * (l.length + 3) + (l.length + 3) := by rw [Nat.add_mul, Nat.one_mul]
    have h3 := sff_l3 l hl hp a (by omega) ((d + 1) * (l.length + 3) + 21) (by omega) l.length 0 q (by omega) (by omega) (fun k' hk' => ih (a + 1) k' (by omega) (by omega))
    rw [if_pos (by omega), show (0 : Int) = ((0 : Nat) : Int) from rfl, h3, from_cons a _ (by omega), from_zero]; rfl
theorem sff_l1 (l : List Int) (hl : l.length ≤ 16) (hp : ∀ x ∈ l, 0 ≤ x ∧ x ≤ 255) : ∀ (d a k : Nat), 1 ≤ a → a + d = l.length → d + (l.length + 1) * (l.length + 3) + 30 < k →
    spec_FirstFault.l1 k l (a : Int) = some (if (from_ a l.length).all (fun s => s == 0 || !(ent l s == 0)) = true then (if fault3 l = true then 0 else 3) else 2) := by
  intro d
  induction d with
  | zero =>
    intro a k ha1 ha hk
    obtain ⟨q, rfl⟩ : ∃ q, k = q + 1 := ⟨k - 1, by omega⟩
    obtain rfl : a = l.length := by omega
    simp only [spec_FirstFault.l1]
    have h2 := sff_l2 l hl hp l.length 0 q (by omega) (by omega)
    rw [if_neg (by omega), from_end, show (0 : Int) = ((0 : Nat) : Int) from rfl, h2, from_zero]; rfl
  | succ d ih =>
    intro a k ha1 ha hk
    obtain ⟨q, rfl⟩ : ∃ q, k = q + 1 := ⟨k - 1, by omega⟩
    obtain ⟨hm, hm2⟩ := ent_rd hp a (by omega)
    simp only [spec_FirstFault.l1]
    rw [if_pos (by omega), if_pos (by omega), next64 a (by omega), ih (a + 1) q (by omega) (by omega) (by omega), from_cons a _ (by omega), List.all_cons, hm]
    by_cases hz : ent l a = 0
    · rw [if_pos (by omega)]; simp [hz, show ¬ a = 0 by omega]
    · rw [if_neg (by omega)]; simp [hz]
theorem sff_l0 (l : List Int) (hl : l.length ≤ 16) (hl1 : 1 ≤ l.length) (hp : ∀ x ∈ l, 0 ≤ x ∧ x ≤ 255) : ∀ (d a k : Nat), a + d = l.length → d + l.length + (l.length + 1) * (l.length + 3) + 40 < k →
    spec_FirstFault.l0 k l (a : Int) = some (if (from_ a l.length).all (fun s => ent l s &&& s == ent l s) = true then (if fault2 l = true then (if fault3 l = true then 0 else 3) else 2) else 1) := by
  intro d
  induction d with
  | zero =>
    intro a k ha hk
    obtain ⟨q, rfl⟩ : ∃ q, k = q + 1 := ⟨k - 1, by omega⟩
    obtain rfl : a = l.length := by omega
    simp only [spec_FirstFault.l0]
    have h1 := sff_l1 l hl hp (l.length - 1) 1 q (by omega) (by omega) (by omega)
    have h2 : fault2 l = (from_ 1 l.length).all (fun s => s == 0 || !(ent l s == 0)) := by
      unfold fault2
      rw [← from_zero, from_cons 0 _ (by omega), List.all_cons]; simp
    rw [if_neg (by omega), from_end, show (1 : Int) = ((1 : Nat) : Int) from rfl, h1, h2]; rfl
  | succ d ih =>
    intro a k ha hk
    obtain ⟨q, rfl⟩ : ∃ q, k = q + 1 := ⟨k - 1, by omega⟩
    obtain ⟨hm, hm2⟩ := ent_rd hp a (by omega)
    simp only [spec_FirstFault.l0]
    rw [if_pos (by omega), if_pos (by omega), hm, both_nat (ent l a) a q hm2 (by omega)]
    simp only [Option.bind_some]
    rw [next64 a (by omega), ih (a + 1) q (by omega) (by omega), from_cons a _ (by omega), List.all_cons]
    by_cases hz : ent l a &&& a = ent l a
    · rw [if_pos (by omega)]; simp [hz]
    · rw [if_neg (by omega)]; simp [hz]
theorem sFirstFault_eq (t : Int) (l : List Int) (k : Nat) (hl : l.length ≤ 2000000) (hk : l.length + 3000 < k) : spec_FirstFault.f k t l = some (fauE t l) := by
  unfold spec_FirstFault.f fauE
  rw [sTableOk_eq t l k hl (by omega)]
  simp only [Option.bind_some]
  cases h : okTab t l with
  | false => simp
  | true =>
    obtain ⟨h1, h2, h3, h4, h5, h6⟩ := okTab_cases' h
    have e1 : (l.length + 1) * (l.length + 3) ≤ 17 * 19 := Nat.mul_le_mul (by omega) (by omega)
    have h := sff_l0 l h6 (by omega) h4 l.length 0 k (by omega) (by omega)
    rw [if_pos rfl, show (0 : Int) = ((0 : Nat) : Int) from rfl, h, from_zero]
    simp [fault, fault1]
end Go.Proofs.Ytcmhilebiojfaaa.L
namespace Go.Proofs.Ytcmhilebiojfaaa.L
open Go.RowKit Go.Proofs.Ytcmhilebiojfaaa.B Go.Proofs.Ytcmhilebiojfaaa.V Go.Proofs.Ytcmhilebiojfaaa.Hand Go.Proofs.YtcmhilebiojfaaaW.PrintWords Go.Proofs.YtcmhilebiojfaaaW.PrintLast Go.Proofs.YtcmhilebiojfaaaW.PrintMore
set_option linter.unusedVariables false
set_option linter.unusedSimpArgs false
/-- A world is in a revision just if it comes and none that comes has a lesser rank. -/
theorem revN_iff (l : List Int) (h9 : ∀ y ∈ l, y ≤ 9) (s w : Nat) : (rev l (s : Int)).toNat.testBit w = true ↔
    w < l.length ∧ s.testBit w = true ∧ ∀ v : Nat, v < l.length → s.testBit v = true → rd l (w : Int) ≤ rd l (v : Int) := by
  have hb : ∀ v, bit (s : Int) v = s.testBit v := fun v => by unfold bit; simp
  have h := rev_bit l (s : Int) w
  rw [show bit (rev l (s : Int)) w = (rev l (s : Int)).toNat.testBit w from rfl, hb] at h
  rw [h]
  constructor
  · intro h1
    rw [Bool.and_eq_true, Bool.and_eq_true, decide_eq_true_eq] at h1
    obtain ⟨h1, h2, h3⟩ := h1
    refine ⟨h1, h2, fun v hv hbv => (least_iff l s h9 w h1 (by rw [hb]; exact h2)).1 h3 v hv (by rw [hb]; exact hbv)⟩
  · rintro ⟨h1, h2, h3⟩
    rw [decide_eq_true h1, h2, Bool.true_and, Bool.true_and]
    exact (least_iff l s h9 w h1 (by rw [hb]; exact h2)).2 fun v hv hbv => h3 v hv (by rw [← hb]; exact hbv)
theorem revN_sub (l : List Int) (h9 : ∀ y ∈ l, y ≤ 9) (s : Nat) : (rev l (s : Int)).toNat &&& s = (rev l (s : Int)).toNat := by
  apply Nat.eq_of_testBit_eq
  intro i
  rw [Nat.testBit_and]
  cases h : (rev l (s : Int)).toNat.testBit i with
  | false => rfl
  | true => rw [((revN_iff l h9 s i).1 h).2.1]; rfl
theorem exists_bit {s : Nat} (h : s ≠ 0) : ∃ i, s.testBit i = true := Nat.exists_testBit_of_ne_zero h
/-- A least one among the worlds that come. -/
theorem least_of (l : List Int) (s : Nat) : ∀ n : Nat, n ≤ l.length → (∃ v, v < n ∧ s.testBit v = true) → ∃ v, v < n ∧ s.testBit v = true ∧ ∀ u : Nat, u < n → s.testBit u = true → rd l (v : Int) ≤ rd l (u : Int)
  | 0, _, ⟨v, hv, _⟩ => absurd hv (by omega)
  | n + 1, hn, ⟨v, hv, hs⟩ => by
    by_cases h : ∃ v, v < n ∧ s.testBit v = true
    · obtain ⟨a, ha, hb, hc⟩ := least_of l s n (by omega) h
      by_cases hx : s.testBit n = true ∧ rd l (n : Int) < rd l (a : Int)
      · refine ⟨n, by omega, hx.1, fun u hu hsu => ?_⟩
        rcases Nat.lt_succ_iff_lt_or_eq.1 hu with h1 | h1
        · have := hc u h1 hsu; omega
        · rw [h1]; exact Int.le_refl _
      · refine ⟨a, by omega, hb, fun u hu hsu => ?_⟩
        rcases Nat.lt_succ_iff_lt_or_eq.1 hu with h1 | h1
        · exact hc u h1 hsu
        · rw [h1] at hsu ⊢
          by_cases h2 : rd l (n : Int) < rd l (a : Int)
          · exact absurd ⟨hsu, h2⟩ hx
          · omega
    · have hvn : v = n := by
        rcases Nat.lt_succ_iff_lt_or_eq.1 hv with h1 | h1
        · exact absurd ⟨v, h1, hs⟩ h
        · exact h1
      refine ⟨v, hv, hs, fun u hu hsu => ?_⟩
      rcases Nat.lt_succ_iff_lt_or_eq.1 hu with h1 | h1
      · exact absurd ⟨u, h1, hsu⟩ h
      · rw [h1, hvn]; exact Int.le_refl _
theorem revN_pos (l : List Int) (h9 : ∀ y ∈ l, y ≤ 9) (s : Nat) (hs : s ≠ 0) (hl : s < 2 ^ l.length) : (rev l (s : Int)).toNat ≠ 0 := by
  obtain ⟨i, hi⟩ := exists_bit hs
  have hil : i < l.length := by
    by_cases h : i < l.length
    · exact h
    · have := Nat.testBit_lt_two_pow (Nat.lt_of_lt_of_le hl (Nat.pow_le_pow_right (n := 2) (by decide) (show l.length ≤ i by omega)))
      rw [this] at hi; cases hi
  obtain ⟨v, hv, hb, hc⟩ := least_of l s l.length (Nat.le_refl _) ⟨i, hil, hi⟩
  have := (revN_iff l h9 s v).2 ⟨hv, hb, hc⟩
  intro h0
  rw [h0, Nat.zero_testBit] at this
  cases this
theorem revN_meet (l : List Int) (h9 : ∀ y ∈ l, y ≤ 9) (a b : Nat) (h : (rev l (a : Int)).toNat &&& b ≠ 0) : (rev l (a : Int)).toNat &&& b = (rev l ((a &&& b : Nat) : Int)).toNat := by
  obtain ⟨u, hu⟩ := exists_bit h
  rw [Nat.testBit_and, Bool.and_eq_true] at hu
  obtain ⟨u1, u2, u3⟩ := (revN_iff l h9 a u).1 hu.1
  apply Nat.eq_of_testBit_eq
  intro w
  rw [Nat.testBit_and, Bool.eq_iff_iff, Bool.and_eq_true, revN_iff l h9 a w, revN_iff l h9 (a &&& b) w]
  constructor
  · rintro ⟨⟨h1, h2, h3⟩, h4⟩
    refine ⟨h1, by rw [Nat.testBit_and, h2, h4]; rfl, fun v hv hbv => h3 v hv ?_⟩
    rw [Nat.testBit_and, Bool.and_eq_true] at hbv
    exact hbv.1
  · rintro ⟨h1, h2, h3⟩
    rw [Nat.testBit_and, Bool.and_eq_true] at h2
    refine ⟨⟨h1, h2.1, fun v hv hbv => ?_⟩, h2.2⟩
    have := h3 u u1 (by rw [Nat.testBit_and, u2, hu.2]; rfl)
    have := u3 v hv hbv
    omega
theorem fromTab_len (t : Int) (l : List Int) : (fromTab t l).length = (allW t).toNat + 1 := by unfold fromTab; simp
theorem fromTab_rd (t : Int) (l : List Int) (s : Nat) (h : s < (allW t).toNat + 1) : rd (fromTab t l) (s : Int) = rev l (s : Int) := by
  unfold rd fromTab
  rw [Int.toNat_natCast, List.getD_eq_getElem?_getD, List.getElem?_map, List.getElem?_range h]; rfl
theorem fromTab_ent (t : Int) (l : List Int) (s : Nat) (h : s < (allW t).toNat + 1) : ent (fromTab t l) s = (rev l (s : Int)).toNat := by
  unfold ent; rw [fromTab_rd t l s h]
theorem fault_from {t : Int} {l : List Int} (hr : okR t l = true) : fault (fromTab t l) = 0 := by
  obtain ⟨g1, g2, g3, g4, g5, g6⟩ := okR_cases hr
  have h9 : ∀ y ∈ l, y ≤ 9 := fun y hy => (g3 y hy).2
  obtain ⟨p1, p2, p3⟩ := allW_pow g1
  have hn : l.length = (nW t).toNat := by omega
  unfold fault
  have f1 : fault1 (fromTab t l) = true := by
    unfold fault1
    rw [fromTab_len, List.all_eq_true]
    intro s hs
    rw [fromTab_ent t l s (List.mem_range.1 hs), beq_iff_eq]
    exact revN_sub l h9 s
  have f2 : fault2 (fromTab t l) = true := by
    unfold fault2
    rw [fromTab_len, List.all_eq_true]
    intro s hs
    have hs := List.mem_range.1 hs
    rw [fromTab_ent t l s hs]
    by_cases h0 : s = 0
    · simp [h0]
    · have := revN_pos l h9 s h0 (by rw [hn, ← p1]; exact hs)
      simp only [Bool.or_eq_true, beq_iff_eq, Bool.not_eq_true', beq_eq_false_iff_ne]
      exact .inr this
  have f3 : fault3 (fromTab t l) = true := by
    unfold fault3
    rw [fromTab_len, List.all_eq_true]
    intro a ha
    have ha := List.mem_range.1 ha
    rw [List.all_eq_true]
    intro b hb
    have hab : a &&& b ≤ a := Nat.and_le_left
    unfold fault3At
    rw [fromTab_ent t l a ha, fromTab_ent t l (a &&& b) (by omega)]
    by_cases h0 : (rev l (a : Int)).toNat &&& b = 0
    · simp [h0]
    · rw [revN_meet l h9 a b h0]; simp
  rw [if_pos f1, if_pos f2, if_pos f3]
theorem sTab_l0 (t : Int) (l : List Int) (ht : t ≤ 2) (hr : okR t l = true) : ∀ (d i k : Nat), i + d = (allW t).toNat + 1 → d + 40 ≤ k →
    spec_TableFrom.l0 k t l ((List.range i).map fun s : Nat => rev l (s : Int)) i = some (fromTab t l) := by
  obtain ⟨g1, g2, g3, g4, g5, g6⟩ := okR_cases hr
  have hA := allW_range g1
  have hin : (decide (1 ≤ t) && decide (t ≤ 2)) = true := by rcases okT_cases g1 with rfl | rfl | rfl <;> simp; omega
  intro d
  induction d with
  | zero =>
    intro i k hi hk
    obtain ⟨m, rfl⟩ : ∃ m, k = m + 1 := ⟨k - 1, by omega⟩
    simp only [spec_TableFrom.l0]
    rw [l1In_eq, hin]
    simp only [Option.bind_some, if_true]
    rw [sRankOk_eq t l m (by omega) (by omega), hr]
    simp only [Option.bind_some, if_true]
    rw [l1All_eq t g1]
    simp only [Option.bind_some]
    rw [if_neg (by omega)]
    unfold fromTab
    rw [show i = (allW t).toNat + 1 by omega]
  | succ d ih =>
    intro i k hi hk
    obtain ⟨m, rfl⟩ : ∃ m, k = m + 1 := ⟨k - 1, by omega⟩
    have ih1 := ih (i + 1) m (by omega) (by omega)
    rw [range_snocN i] at ih1
    simp only [spec_TableFrom.l0]
    rw [l1In_eq, hin]
    simp only [Option.bind_some, if_true]
    rw [sRankOk_eq t l m (by omega) (by omega), hr]
    simp only [Option.bind_some, if_true]
    rw [l1All_eq t g1]
    simp only [Option.bind_some]
    rw [if_pos (by omega), sl2Least_eq l (i : Int) m g6 (by omega) (by omega)]
    simp only [Option.bind_some]
    rw [if_pos (by simp; omega), next64 i (by omega)]
    exact ih1
theorem sTableFrom_eq (t : Int) (l : List Int) (k : Nat) (hl : l.length ≤ 2000000) (hk : l.length + 400 ≤ k) : spec_TableFrom.f k t l = some (if t ≤ 2 ∧ okR t l = true then fromTab t l else []) := by
  unfold spec_TableFrom.f
  by_cases h : t ≤ 2 ∧ okR t l = true
  · rw [if_pos h]
    obtain ⟨g1, g2, g3, g4, g5, g6⟩ := okR_cases h.2
    have hA := allW_range g1
    exact sTab_l0 t l h.1 h.2 ((allW t).toNat + 1) 0 k (by omega) (by omega)
  · rw [if_neg h]
    obtain ⟨m, rfl⟩ : ∃ m, k = m + 1 := ⟨k - 1, by omega⟩
    simp only [spec_TableFrom.l0]
    rw [l1In_eq]
    simp only [Option.bind_some]
    cases hin : (decide (1 ≤ t) && decide (t ≤ 2)) with
    | false => simp
    | true =>
      rw [if_pos rfl, sRankOk_eq t l m hl (by omega)]
      simp only [Option.bind_some]
      cases hr : okR t l with
      | false => simp
      | true =>
        simp at hin
        exact absurd ⟨hin.2, hr⟩ h
end Go.Proofs.Ytcmhilebiojfaaa.L
namespace Go.Proofs.Ytcmhilebiojfaaa.L
open Go.RowKit Go.Proofs.Ytcmhilebiojfaaa.B Go.Proofs.Ytcmhilebiojfaaa.V Go.Proofs.Ytcmhilebiojfaaa.Hand Go.Proofs.YtcmhilebiojfaaaW.PrintWords Go.Proofs.YtcmhilebiojfaaaW.PrintLast Go.Proofs.YtcmhilebiojfaaaW.PrintMore
set_option linter.unusedVariables false
set_option linter.unusedSimpArgs false
/-- What the postulates say of a row T of entries of the sets of n worlds. -/
structure Rat (n : Nat) (T : Nat → Nat) : Prop where
  sub : ∀ s, s < 2 ^ n → T s &&& s = T s
  pos : ∀ s, s < 2 ^ n → s ≠ 0 → T s ≠ 0
  meet : ∀ a b, a < 2 ^ n → b < 2 ^ n → T a &&& b ≠ 0 → T a &&& b = T (a &&& b)
theorem Rat.mem_sub {n : Nat} {T : Nat → Nat} (h : Rat n T) {s w : Nat} (hs : s < 2 ^ n) (hw : (T s).testBit w = true) : s.testBit w = true := by
  have := h.sub s hs
  rw [← this, Nat.testBit_and, Bool.and_eq_true] at hw
  exact hw.2
/-- The set of two worlds. -/
def two (v w : Nat) : Nat := 2 ^ v ||| 2 ^ w
theorem two_bit (v w i : Nat) : (two v w).testBit i = (decide (v = i) || decide (w = i)) := by
  unfold two; rw [Nat.testBit_or, Nat.testBit_two_pow, Nat.testBit_two_pow]
theorem two_comm (v w : Nat) : two v w = two w v := Nat.or_comm _ _
theorem two_lt {n v w : Nat} (hv : v < n) (hw : w < n) : two v w < 2 ^ n := Nat.or_lt_two_pow (two_le hv) (two_le hw)
theorem bit_lt {n s i : Nat} (hs : s < 2 ^ n) (hi : s.testBit i = true) : i < n := by
  by_cases h : i < n
  · exact h
  · rw [Nat.testBit_lt_two_pow (Nat.lt_of_lt_of_le hs (Nat.pow_le_pow_right (n := 2) (by decide) (by omega)))] at hi; cases hi
/-- Of a set, two worlds: if one of them is in the entry, the entry of both tells which are. -/
theorem Rat.pair {n : Nat} {T : Nat → Nat} (h : Rat n T) {s v w : Nat} (hs : s < 2 ^ n) (hv : s.testBit v = true) (hw : s.testBit w = true) (hE : (T s).testBit v = true ∨ (T s).testBit w = true) (i : Nat) (hi : i = v ∨ i = w) : (T (two v w)).testBit i = (T s).testBit i := by
  have hvn := bit_lt hs hv
  have hwn := bit_lt hs hw
  have h2 := two_lt hvn hwn
  have hst : s &&& two v w = two v w := by
    apply Nat.eq_of_testBit_eq
    intro j
    rw [Nat.testBit_and, two_bit]
    by_cases e1 : v = j
    · subst e1; simp [hv]
    · by_cases e2 : w = j
      · subst e2; simp [hw]
      · simp [e1, e2]
  have hne : T s &&& two v w ≠ 0 := by
    intro h0
    rcases hE with hE | hE
    · have : (T s &&& two v w).testBit v = true := by rw [Nat.testBit_and, hE, two_bit]; simp
      rw [h0, Nat.zero_testBit] at this; cases this
    · have : (T s &&& two v w).testBit w = true := by rw [Nat.testBit_and, hE, two_bit]; simp
      rw [h0, Nat.zero_testBit] at this; cases this
  have hm := h.meet s (two v w) hs h2 hne
  rw [hst] at hm
  rw [← hm, Nat.testBit_and, two_bit]
  rcases hi with rfl | rfl <;> simp
/-- v is before w, or alike. -/
def le (T : Nat → Nat) (v w : Nat) : Prop := (T (two v w)).testBit v = true
theorem Rat.total {n : Nat} {T : Nat → Nat} (h : Rat n T) {v w : Nat} (hv : v < n) (hw : w < n) : le T v w ∨ le T w v := by
  have h2 := two_lt hv hw
  have hne : two v w ≠ 0 := fun h0 => by
    have := two_bit v w v
    rw [h0, Nat.zero_testBit] at this; simp at this
  obtain ⟨i, hi⟩ := exists_bit (h.pos _ h2 hne)
  have hm := h.mem_sub h2 hi
  rw [two_bit, Bool.or_eq_true, decide_eq_true_eq, decide_eq_true_eq] at hm
  rcases hm with rfl | rfl
  · exact .inl hi
  · right; unfold le; rw [two_comm]; exact hi
theorem Rat.refl {n : Nat} {T : Nat → Nat} (h : Rat n T) {v : Nat} (hv : v < n) : le T v v := by
  rcases h.total hv hv with h | h <;> exact h
theorem Rat.trans {n : Nat} {T : Nat → Nat} (h : Rat n T) {u v w : Nat} (hu : u < n) (hv : v < n) (hw : w < n) (h1 : le T u v) (h2 : le T v w) : le T u w := by
  have hs : two u v ||| 2 ^ w < 2 ^ n := Nat.or_lt_two_pow (two_lt hu hv) (two_le hw)
  have bu : (two u v ||| 2 ^ w).testBit u = true := by rw [Nat.testBit_or, two_bit]; simp
  have bv : (two u v ||| 2 ^ w).testBit v = true := by rw [Nat.testBit_or, two_bit]; simp
  have bw : (two u v ||| 2 ^ w).testBit w = true := by rw [Nat.testBit_or, Nat.testBit_two_pow]; simp
  have hne : two u v ||| 2 ^ w ≠ 0 := fun h0 => by rw [h0, Nat.zero_testBit] at bu; cases bu
  have hmem : ∀ i, (two u v ||| 2 ^ w).testBit i = true → i = u ∨ i = v ∨ i = w := by
    intro i hi
    rw [Nat.testBit_or, two_bit, Nat.testBit_two_pow] at hi
    simp only [Bool.or_eq_true, decide_eq_true_eq] at hi
    omega
  generalize two u v ||| 2 ^ w = s at *
  obtain ⟨i, hi⟩ := exists_bit (h.pos s hs hne)
  by_cases eu : (T s).testBit u = true
  · unfold le
    rw [h.pair hs bu bw (.inl eu) u (.inl rfl)]; exact eu
  · exfalso
    have ev : ¬ (T s).testBit v = true := fun ev => by
      have := h.pair hs bu bv (.inr ev) u (.inl rfl)
      unfold le at h1
      rw [this] at h1; exact eu h1
    by_cases ew : (T s).testBit w = true
    · have := h.pair hs bv bw (.inr ew) v (.inl rfl)
      unfold le at h2
      rw [this] at h2; exact ev h2
    · rcases hmem i (h.mem_sub hs hi) with rfl | rfl | rfl
      · exact eu hi
      · exact ev hi
      · exact ew hi
/-- What is in an entry. -/
theorem Rat.entry {n : Nat} {T : Nat → Nat} (h : Rat n T) {s : Nat} (hs : s < 2 ^ n) (w : Nat) : (T s).testBit w = true ↔ s.testBit w = true ∧ ∀ v : Nat, s.testBit v = true → le T w v := by
  constructor
  · intro hw
    have hsw := h.mem_sub hs hw
    refine ⟨hsw, fun v hv => ?_⟩
    unfold le
    rw [h.pair hs hsw hv (.inl hw) w (.inl rfl)]; exact hw
  · rintro ⟨hsw, hall⟩
    have hne : s ≠ 0 := fun h0 => by rw [h0, Nat.zero_testBit] at hsw; cases hsw
    obtain ⟨u, hu⟩ := exists_bit (h.pos s hs hne)
    have hsu := h.mem_sub hs hu
    have hl := hall u hsu
    unfold le at hl
    rw [← h.pair hs hsw hsu (.inr hu) w (.inl rfl)]; exact hl
theorem countP_le {p q : Nat → Bool} : ∀ (l : List Nat), (∀ x ∈ l, p x = true → q x = true) → l.countP p ≤ l.countP q
  | [], _ => Nat.le_refl _
  | x :: xs, h => by
    have ih := countP_le xs (fun y hy => h y (List.mem_cons_of_mem _ hy))
    have hx := h x List.mem_cons_self
    rw [List.countP_cons, List.countP_cons]
    cases h1 : p x with
    | false => simp; omega
    | true => rw [hx h1]; simp; omega
theorem countP_lt {p q : Nat → Bool} : ∀ (l : List Nat), (∀ x ∈ l, p x = true → q x = true) → (∃ x ∈ l, q x = true ∧ p x = false) → l.countP p < l.countP q
  | [], _, ⟨x, hx, _⟩ => by cases hx
  | y :: ys, h, ⟨x, hx, hq, hp⟩ => by
    have hle := countP_le ys (fun z hz => h z (List.mem_cons_of_mem _ hz))
    rw [List.countP_cons, List.countP_cons]
    rcases List.mem_cons.1 hx with rfl | hx
    · rw [hq, hp]; simp; omega
    · have ih := countP_lt ys (fun z hz => h z (List.mem_cons_of_mem _ hz)) ⟨x, hx, hq, hp⟩
      have hy := h y List.mem_cons_self
      cases h1 : p y with
      | false => simp; omega
      | true => rw [hy h1]; simp; omega
/-- How many worlds are before w, and not alike. -/
def bcN (l : List Int) (n w : Nat) : Nat := (List.range n).countP (fun v => !befB l w v)
def bcL (l : List Int) (n : Nat) : List Int := (List.range n).map fun w : Nat => (bcN l n w : Int)
theorem bcN_le (l : List Int) (n w : Nat) : bcN l n w ≤ n := by
  have := List.countP_le_length (p := fun v => !befB l w v) (l := List.range n)
  unfold bcN; simpa using this
theorem bcL_len (l : List Int) (n : Nat) : (bcL l n).length = n := by unfold bcL; simp
theorem bcL_rd (l : List Int) (n w : Nat) (h : w < n) : rd (bcL l n) (w : Int) = (bcN l n w : Int) := by
  unfold rd bcL
  rw [Int.toNat_natCast, List.getD_eq_getElem?_getD, List.getElem?_map, List.getElem?_range h]; rfl
theorem befB_le (l : List Int) (v w : Nat) : befB l v w = true ↔ le (ent l) v w := Iff.rfl
theorem Rat.mono {n : Nat} {l : List Int} (h : Rat n (ent l)) {v w : Nat} (hv : v < n) (hw : w < n) : bcN l n w ≤ bcN l n v ↔ le (ent l) w v := by
  constructor
  · intro hc
    by_cases hlt : le (ent l) w v
    · exact hlt
    · exfalso
      have hvw : le (ent l) v w := by rcases h.total hv hw with h1 | h1; exact h1; exact absurd h1 hlt
      have : bcN l n v < bcN l n w := by
        unfold bcN
        apply countP_lt
        · intro x hx hp
          have hx := List.mem_range.1 hx
          cases hq : befB l w x with
          | false => rfl
          | true =>
            have := h.trans hv hw hx hvw ((befB_le l w x).1 hq)
            rw [(befB_le l v x).2 this] at hp; cases hp
        · refine ⟨v, List.mem_range.2 hv, ?_, ?_⟩
          · cases hq : befB l w v with
            | false => rfl
            | true => exact absurd ((befB_le l w v).1 hq) hlt
          · rw [(befB_le l v v).2 (h.refl hv)]; rfl
      omega
  · intro hwv
    unfold bcN
    apply countP_le
    intro x hx hp
    have hx := List.mem_range.1 hx
    cases hq : befB l v x with
    | false => rfl
    | true =>
      have := h.trans hw hv hx hwv ((befB_le l v x).1 hq)
      rw [(befB_le l w x).2 this] at hp; cases hp
theorem rat_of {t : Int} {l : List Int} (hok : okTab t l = true) (hf : fault l = 0) : Rat (nW t).toNat (ent l) ∧ l.length = 2 ^ (nW t).toNat := by
  obtain ⟨h1, h2, h3, h4, h5, h6⟩ := okTab_cases' hok
  obtain ⟨p1, p2, p3⟩ := allW_pow h1
  have hA := allW_range h1
  have hlen : l.length = 2 ^ (nW t).toNat := by omega
  have f : fault1 l = true ∧ fault2 l = true ∧ fault3 l = true := by
    unfold fault at hf
    by_cases a1 : fault1 l = true
    · rw [if_pos a1] at hf
      by_cases a2 : fault2 l = true
      · rw [if_pos a2] at hf
        by_cases a3 : fault3 l = true
        · exact ⟨a1, a2, a3⟩
        · rw [if_neg a3] at hf; omega
      · rw [if_neg a2] at hf; omega
    · rw [if_neg a1] at hf; omega
  obtain ⟨a1, a2, a3⟩ := f
  unfold fault1 at a1
  unfold fault2 at a2
  unfold fault3 at a3
  rw [hlen, List.all_eq_true] at a1 a2 a3
  refine ⟨⟨fun s hs => ?_, fun s hs h0 => ?_, fun a b ha hb h0 => ?_⟩, hlen⟩
  · exact beq_iff_eq.1 (a1 s (List.mem_range.2 hs))
  · have := a2 s (List.mem_range.2 hs)
    simp only [Bool.or_eq_true, beq_iff_eq, Bool.not_eq_true', beq_eq_false_iff_ne] at this
    rcases this with h | h
    · exact absurd h h0
    · exact h
  · have := a3 a (List.mem_range.2 ha)
    rw [List.all_eq_true] at this
    have := this b (List.mem_range.2 hb)
    unfold fault3At at this
    simp only [Bool.or_eq_true, beq_iff_eq] at this
    rcases this with h | h
    · exact absurd h h0
    · exact h
/-- The counts of the worlds before are ranks. -/
theorem bcL_ok {t : Int} {l : List Int} (hok : okTab t l = true) (hf : fault l = 0) : okR t (bcL l (nW t).toNat) = true := by
  obtain ⟨hR, hlen⟩ := rat_of hok hf
  obtain ⟨h1, h2, h3, h4, h5, h6⟩ := okTab_cases' hok
  obtain ⟨p1, p2, p3⟩ := allW_pow h1
  have hn : 2 ≤ (nW t).toNat ∧ nW t = ((nW t).toNat : Int) := by
    have := nW_pos h1; omega
  unfold okR
  rw [h1, Bool.true_and, Bool.and_eq_true, Bool.and_eq_true, decide_eq_true_eq, List.all_eq_true, List.any_eq_true]
  refine ⟨by rw [bcL_len]; omega, fun x hx => ?_, ?_⟩
  · unfold bcL at hx
    obtain ⟨w, hw, rfl⟩ := List.mem_map.1 hx
    have := bcN_le l (nW t).toNat w
    simp; omega
  · have hs : 2 ^ (nW t).toNat - 1 < 2 ^ (nW t).toNat := by omega
    obtain ⟨w, hw⟩ := exists_bit (hR.pos _ hs (by omega))
    have he := (hR.entry hs w).1 hw
    have hwn := bit_lt hs he.1
    refine ⟨rd (bcL l (nW t).toNat) (w : Int), rd_mem _ w (by rw [bcL_len]; exact hwn), ?_⟩
    rw [bcL_rd l _ w hwn, beq_iff_eq]
    have : bcN l (nW t).toNat w = 0 := by
      unfold bcN
      rw [List.countP_eq_zero]
      intro v hv
      have hv := List.mem_range.1 hv
      have := he.2 v (by rw [Nat.testBit_two_pow_sub_one]; simp [hv])
      rw [(befB_le l w v).2 this]; simp
    omega
/-- The table of a table's ranks is the table. -/
theorem tab_of {t : Int} {l : List Int} (hok : okTab t l = true) (hf : fault l = 0) : fromTab t (bcL l (nW t).toNat) = l := by
  obtain ⟨hR, hlen⟩ := rat_of hok hf
  obtain ⟨h1, h2, h3, h4, h5, h6⟩ := okTab_cases' hok
  obtain ⟨p1, p2, p3⟩ := allW_pow h1
  have hB := bcL_ok hok hf
  obtain ⟨g1, g2, g3, g4, g5, g6⟩ := okR_cases hB
  have h9 : ∀ y ∈ bcL l (nW t).toNat, y ≤ 9 := fun y hy => (g3 y hy).2
  apply List.ext_getElem?
  intro s
  by_cases hs : s < l.length
  · have hs2 : s < 2 ^ (nW t).toNat := by omega
    rw [rd_get l s hs, rd_get (fromTab t _) s (by rw [fromTab_len]; omega), fromTab_rd t _ s (by omega)]
    obtain ⟨c, hc, c1⟩ := rev_nat (bcL l (nW t).toNat) (s : Int) g6
    have e1 := (ent_rd h4 s hs).1
    rw [e1, hc]
    congr 2
    apply Nat.eq_of_testBit_eq
    intro w
    have hiff := revN_iff (bcL l (nW t).toNat) h9 s w
    rw [hc, Int.toNat_natCast, bcL_len] at hiff
    rw [Bool.eq_iff_iff, hiff, hR.entry hs2 w]
    constructor
    · rintro ⟨q1, q2, q3⟩
      refine ⟨q2, fun v hv => ?_⟩
      have hvn := bit_lt hs2 hv
      have := q3 v hvn hv
      rw [bcL_rd l _ w q1, bcL_rd l _ v hvn] at this
      exact (hR.mono hvn q1).1 (by omega)
    · rintro ⟨q2, q3⟩
      have hwn := bit_lt hs2 q2
      refine ⟨hwn, q2, fun v hvn hv => ?_⟩
      rw [bcL_rd l _ w hwn, bcL_rd l _ v hvn]
      have := (hR.mono hvn hwn).2 (q3 v hv)
      omega
  · rw [List.getElem?_eq_none (by rw [fromTab_len]; omega), List.getElem?_eq_none (by omega)]
end Go.Proofs.Ytcmhilebiojfaaa.L
namespace Go.Proofs.Ytcmhilebiojfaaa.L
open Go.RowKit Go.Proofs.Ytcmhilebiojfaaa.B Go.Proofs.Ytcmhilebiojfaaa.V Go.Proofs.Ytcmhilebiojfaaa.Hand Go.Proofs.YtcmhilebiojfaaaW.PrintWords Go.Proofs.YtcmhilebiojfaaaW.PrintLast Go.Proofs.YtcmhilebiojfaaaW.PrintMore
set_option linter.unusedVariables false
set_option linter.unusedSimpArgs false
theorem rank0_l0 {b : List Int} (hb : Rd b) (x9 : Int) (t : Int) (n : Nat) (ht : okT t = true) (hnW : nW t = (n : Int)) (hn : 1 ≤ n) (hn2 : n ≤ 8) (h9 : 0 ≤ x9) (h92 : x9 < 3) : ∀ (d : Nat) (p : Int) (x7 : List Int), x7.length + d = n → 0 ≤ p → p ≤ 950000 - d → (∀ x ∈ x7, 0 ≤ x ∧ x ≤ 9) →
    ∃ l p', okR t l = true ∧ p ≤ p' ∧ p' ≤ p + d + 5 ∧ ∀ k, d + 20 ≤ k → spec_l20Rank.l0 k 0 x7 n x9 x7.length b p = some (l, p') := by
  intro d
  induction d with
  | zero =>
    intro p x7 h7 hp hp2 hx
    obtain ⟨v, v0, v1, hv⟩ := pick_ok hb p (n : Int) hp (by omega) (by omega) (by omega)
    have hset : ∀ x ∈ x7.set v.toNat 0, 0 ≤ x ∧ x ≤ 9 := fun x hx' => by
      rcases List.mem_or_eq_of_mem_set hx' with h | h
      · exact hx x h
      · omega
    have hlen : (x7.set v.toNat 0).length = n := by rw [List.length_set]; omega
    have h0 : (0 : Int) ∈ x7.set v.toNat 0 := List.mem_set (by omega) 0
    refine ⟨x7.set v.toNat 0, p + 1, ?_, by omega, by omega, fun k hk => ?_⟩
    · unfold okR
      rw [ht, Bool.true_and, Bool.and_eq_true, Bool.and_eq_true, decide_eq_true_eq, List.all_eq_true, List.any_eq_true]
      refine ⟨by rw [hlen, hnW], fun x hx' => by have := hset x hx'; simp; omega, 0, h0, by simp⟩
    · obtain ⟨m, rfl⟩ : ∃ m, k = m + 1 := ⟨k - 1, by omega⟩
      simp only [spec_l20Rank.l0]
      rw [if_neg (by omega), hv m (by omega)]
      simp only [Option.bind_some]
      rw [if_pos v0, if_pos (by omega)]
      have ho : spec_l20Rd_odd.f m b (p + 1) 0 = some (false, p + 1) := by unfold spec_l20Rd_odd.f; rw [if_neg (by omega)]
      rw [ho]
      simp
  | succ d ih =>
    intro p x7 h7 hp hp2 hx
    obtain ⟨w, w0, w1, hw⟩ : ∃ w : Int, rd [2, 4, 10] x9 = w ∧ 1 ≤ w ∧ w ≤ 10 := by
      rcases (show x9 = 0 ∨ x9 = 1 ∨ x9 = 2 by omega) with rfl | rfl | rfl <;> exact ⟨_, rfl, by decide, by decide⟩
    obtain ⟨v, v0, v1, hv⟩ := pick_ok hb p w hp (by omega) (by omega) (by omega)
    obtain ⟨l, p', hl, q1, q2, hk2⟩ := ih (p + 1) (x7 ++ [v]) (by rw [List.length_append]; simp; omega) (by omega) (by omega) (fun x hx' => by
      rcases List.mem_append.1 hx' with h | h
      · exact hx x h
      · simp at h; omega)
    refine ⟨l, p', hl, by omega, by omega, fun k hk => ?_⟩
    obtain ⟨m, rfl⟩ : ∃ m, k = m + 1 := ⟨k - 1, by omega⟩
    have e7 : (((x7 ++ [v]).length : Nat) : Int) = ((x7.length + 1 : Nat) : Int) := by simp
    have hk3 := hk2 m (by omega)
    rw [e7] at hk3
    simp only [spec_l20Rank.l0]
    rw [if_pos (by omega)]
    simp only [Option.bind_some]
    rw [if_pos h9, if_pos (by simp; omega), w0, hv m (by omega)]
    simp only [Option.bind_some]
    rw [if_pos (by omega), next64 x7.length (by omega)]
    exact hk3
theorem rank_ok0 {b : List Int} (hb : Rd b) (p t : Int) (ht : okT t = true) (hp : 0 ≤ p) (hp2 : p ≤ 900000) :
    ∃ l p', okR t l = true ∧ p ≤ p' ∧ p' ≤ p + 20 ∧ ∀ k, 40 ≤ k → spec_l20Rank.f k b p t 0 = some (l, p') := by
  obtain ⟨n1, n2, n3⟩ := nW_pos ht
  obtain ⟨m, hm⟩ := Int.eq_ofNat_of_zero_le (show 0 ≤ nW t by omega)
  have hmx : mx (nW t) 1 = (m : Int) := by unfold mx; split <;> omega
  obtain ⟨v, v0, v1, hv⟩ := pick_ok hb p 3 hp (by omega) (by omega) (by omega)
  obtain ⟨l, p', hl, q1, q2, hk2⟩ := rank0_l0 hb v t m ht hm (by omega) (by omega) v0 v1 m (p + 1) [] (by simp) (by omega) (by omega) (fun x hx => by cases hx)
  refine ⟨l, p', hl, by omega, by omega, fun k hk => ?_⟩
  unfold spec_l20Rank.f
  rw [sWorldsOf_eq]
  simp only [Option.bind_some]
  rw [hv k (by omega), hmx]
  simp only [Option.bind_some]
  exact hk2 k (by omega)
theorem table_j0 {b : List Int} (hb : Rd b) (n t : Int) (l : List Int) (p : Int) (hn : 0 ≤ n) (hn2 : n ≤ 1000000) (ht : 1 ≤ t ∧ t ≤ 3) (hl : 1 ≤ l.length ∧ l.length ≤ 16) (hp : 0 ≤ p) (hp2 : p ≤ 900000) :
    ∃ (t' : Int) (l' : List Int) (p' : Int), 1 ≤ t' ∧ t' ≤ 3 ∧ l'.length ≤ 17 ∧ p ≤ p' ∧ p' ≤ p + 2 ∧ ∀ k, 10 ≤ k → spec_l20Table.j0 k n t l b p = some (t', l', p') := by
  obtain ⟨o, p1, o1, o2, ho⟩ := odd_ok hb p n hp (by omega) hn hn2
  cases o with
  | false =>
    refine ⟨t, l, p1, ht.1, ht.2, by omega, by omega, by omega, fun k hk => ?_⟩
    obtain ⟨m, rfl⟩ : ∃ m, k = m + 1 := ⟨k - 1, by omega⟩
    simp only [spec_l20Table.j0]
    rw [ho m (by omega)]
    simp
  | true =>
    obtain ⟨u, u0, u1, hu⟩ := pick_ok hb p1 3 (by omega) (by omega) (by omega) (by omega)
    rcases (show u = 0 ∨ u = 1 ∨ u = 2 by omega) with rfl | rfl | rfl
    · refine ⟨3, l, p1 + 1, by omega, by omega, by omega, by omega, by omega, fun k hk => ?_⟩
      obtain ⟨m, rfl⟩ : ∃ m, k = m + 1 := ⟨k - 1, by omega⟩
      simp only [spec_l20Table.j0]
      rw [ho m (by omega)]
      simp only [Option.bind_some, if_true]
      rw [hu m (by omega)]
      simp
    · refine ⟨t, l ++ [0], p1 + 1, ht.1, ht.2, by simp; omega, by omega, by omega, fun k hk => ?_⟩
      obtain ⟨m, rfl⟩ : ∃ m, k = m + 1 := ⟨k - 1, by omega⟩
      simp only [spec_l20Table.j0]
      rw [ho m (by omega)]
      simp only [Option.bind_some, if_true]
      rw [hu m (by omega)]
      simp only [Option.bind_some]
      rw [if_neg (by omega), if_pos trivial, if_pos (by omega)]
    · refine ⟨t, l.set 0 (-1), p1 + 1, ht.1, ht.2, by rw [List.length_set]; omega, by omega, by omega, fun k hk => ?_⟩
      obtain ⟨m, rfl⟩ : ∃ m, k = m + 1 := ⟨k - 1, by omega⟩
      simp only [spec_l20Table.j0]
      rw [ho m (by omega)]
      simp only [Option.bind_some, if_true]
      rw [hu m (by omega)]
      simp only [Option.bind_some]
      rw [if_neg (by omega), if_neg (by omega), if_pos (by omega)]; rfl
theorem table_ok {b : List Int} (hb : Rd b) (p n : Int) (hp : 0 ≤ p) (hp2 : p ≤ 100000) (hn : 0 ≤ n) (hn2 : n ≤ 1000000) :
    ∃ (t' : Int) (l' : List Int) (p' : Int), 1 ≤ t' ∧ t' ≤ 3 ∧ l'.length ≤ 17 ∧ p ≤ p' ∧ p' ≤ p + 60 ∧ ∀ k, 700 ≤ k → spec_l20Table.f k b p n = some (t', l', p') := by
  obtain ⟨v, v0, v1, hv⟩ := pick_ok hb p 2 hp (by omega) (by omega) (by omega)
  obtain ⟨t, et, ht0, t1, t2⟩ : ∃ t : Int, wrap64 (1 + v) = t ∧ okT t = true ∧ 1 ≤ t ∧ t ≤ 2 := by
    refine ⟨1 + v, w64 (by omega) (by omega), by unfold okT; simp; omega, by omega, by omega⟩
  obtain ⟨l, p1, hl, q1, q2, hr⟩ := rank_ok0 hb (p + 1) t ht0 (by omega) (by omega)
  obtain ⟨g1, g2, g3, g4, g5, g6⟩ := okR_cases hl
  have hA := allW_range ht0
  have hA2 : allW t ≤ 15 := by rcases (show t = 1 ∨ t = 2 by omega) with rfl | rfl <;> decide
  have hlen := fromTab_len t l
  obtain ⟨m, hm⟩ := Int.eq_ofNat_of_zero_le (show 0 ≤ allW t by omega)
  have hlen2 : (((fromTab t l).length : Nat) : Int) = allW t + 1 := by omega
  obtain ⟨c, c0, c1, hc⟩ := pick_ok hb p1 6 (by omega) (by omega) (by omega) (by omega)
  have start : ∀ k, 700 ≤ k → spec_l20Table.f k b p n = (if c = 0 then ((spec_l1All.f t).bind fun t317 => ((spec_l20Rd_pick.f k b (p1 + 1) t317).bind fun bt318 => ((spec_MaxTable.f k t (wrap64 (1 + bt318.1))).bind fun t320 => (spec_l20Table.j0 k n t t320 b bt318.2)))) else (if c = 1 then ((spec_l20Rd_pick.f k b (p1 + 1) ((fromTab t l).length : Int)).bind fun bt323 => ((spec_l20Rd_pick.f k b bt323.2 ((fromTab t l).length : Int)).bind fun bt325 => (if 0 ≤ bt323.1 then (if bt323.1 < ((fromTab t l).length : Int) then (spec_l20Table.j0 k n t ((fromTab t l).set (bt323.1 : Int).toNat bt325.1) b bt325.2) else (none)) else (none)))) else (if c = 2 then ((spec_l20Rd_pick.f k b (p1 + 1) ((fromTab t l).length : Int)).bind fun bt328 => ((spec_l20Rd_pick.f k b bt328.2 ((fromTab t l).length : Int)).bind fun bt330 => ((spec_l1Both.f k bt328.1 bt330.1).bind fun t332 => (if 0 ≤ bt328.1 then (if bt328.1 < ((fromTab t l).length : Int) then (spec_l20Table.j0 k n t ((fromTab t l).set (bt328.1 : Int).toNat t332) b bt330.2) else (none)) else (none))))) else (spec_l20Table.j0 k n t (fromTab t l) b (p1 + 1))))) := by
    intro k hk
    unfold spec_l20Table.f
    rw [hv k (by omega)]
    simp only [Option.bind_some]
    rw [et, hr k (by omega)]
    simp only [Option.bind_some]
    rw [sTableFrom_eq t l k (by omega) (by omega), if_pos ⟨t2, hl⟩]
    simp only [Option.bind_some]
    rw [hc k (by omega)]
    rfl
  generalize hF : fromTab t l = F at *
  by_cases e0 : c = 0
  · obtain ⟨x, x0, x1, hx⟩ := pick_ok hb (p1 + 1) (allW t) (by omega) (by omega) (by omega) (by omega)
    have ew : wrap64 (1 + x) = 1 + x := w64 (by omega) (by omega)
    have hs : t ≤ 2 ∧ okS t (1 + x) = true ∧ ¬ 1 + x = 0 := ⟨t2, by unfold okS; rw [ht0]; simp; omega, by omega⟩
    have hml : (maxTab t (1 + x)).length = (allW t).toNat + 1 := by unfold maxTab; simp
    obtain ⟨t', l', p', r1, r2, r3, r4, r5, hj⟩ := table_j0 hb n t (maxTab t (1 + x)) (p1 + 1 + 1) hn hn2 ⟨t1, by omega⟩ (by omega) (by omega) (by omega)
    refine ⟨t', l', p', r1, r2, r3, by omega, by omega, fun k hk => ?_⟩
    rw [start k hk, if_pos e0, l1All_eq t ht0]
    simp only [Option.bind_some]
    rw [hx k (by omega)]
    simp only [Option.bind_some]
    rw [ew, sMaxTable_eq t (1 + x) k (by omega), if_pos hs]
    simp only [Option.bind_some]
    exact hj k (by omega)
  · by_cases e1 : c = 1
    · obtain ⟨x, x0, x1, hx⟩ := pick_ok hb (p1 + 1) (F.length : Int) (by omega) (by omega) (by omega) (by omega)
      obtain ⟨y, y0, y1, hy⟩ := pick_ok hb (p1 + 1 + 1) (F.length : Int) (by omega) (by omega) (by omega) (by omega)
      obtain ⟨t', l', p', r1, r2, r3, r4, r5, hj⟩ := table_j0 hb n t (F.set x.toNat y) (p1 + 1 + 1 + 1) hn hn2 ⟨t1, by omega⟩ (by rw [List.length_set]; omega) (by omega) (by omega)
      refine ⟨t', l', p', r1, r2, r3, by omega, by omega, fun k hk => ?_⟩
      rw [start k hk, if_neg e0, if_pos e1, hx k (by omega)]
      simp only [Option.bind_some]
      rw [hy k (by omega)]
      simp only [Option.bind_some]
      rw [if_pos x0, if_pos x1]
      exact hj k (by omega)
    · by_cases e2 : c = 2
      · obtain ⟨x, x0, x1, hx⟩ := pick_ok hb (p1 + 1) (F.length : Int) (by omega) (by omega) (by omega) (by omega)
        obtain ⟨y, y0, y1, hy⟩ := pick_ok hb (p1 + 1 + 1) (F.length : Int) (by omega) (by omega) (by omega) (by omega)
        have hbo := fun k hk => both_int x y k x0 (by omega) y0 hk
        generalize ((x.toNat &&& y.toNat : Nat) : Int) = z at hbo
        obtain ⟨t', l', p', r1, r2, r3, r4, r5, hj⟩ := table_j0 hb n t (F.set x.toNat z) (p1 + 1 + 1 + 1) hn hn2 ⟨t1, by omega⟩ (by rw [List.length_set]; omega) (by omega) (by omega)
        refine ⟨t', l', p', r1, r2, r3, by omega, by omega, fun k hk => ?_⟩
        rw [start k hk, if_neg e0, if_neg e1, if_pos e2, hx k (by omega)]
        simp only [Option.bind_some]
        rw [hy k (by omega)]
        simp only [Option.bind_some]
        rw [hbo k (by omega)]
        simp only [Option.bind_some]
        rw [if_pos x0, if_pos x1]
        exact hj k (by omega)
      · obtain ⟨t', l', p', r1, r2, r3, r4, r5, hj⟩ := table_j0 hb n t F (p1 + 1) hn hn2 ⟨t1, by omega⟩ (by omega) (by omega) (by omega)
        refine ⟨t', l', p', r1, r2, r3, by omega, by omega, fun k hk => ?_⟩
        rw [start k hk, if_neg e0, if_neg e1, if_neg e2]
        exact hj k (by omega)
end Go.Proofs.Ytcmhilebiojfaaa.L
namespace Go.Proofs.Ytcmhilebiojfaaa.L
open Go.RowKit Go.Proofs.Ytcmhilebiojfaaa.B Go.Proofs.Ytcmhilebiojfaaa.V Go.Proofs.Ytcmhilebiojfaaa.Hand Go.Proofs.YtcmhilebiojfaaaW.PrintWords Go.Proofs.YtcmhilebiojfaaaW.PrintLast Go.Proofs.YtcmhilebiojfaaaW.PrintMore
set_option linter.unusedVariables false
set_option linter.unusedSimpArgs false
theorem okR_cases' {t : Int} {l : List Int} (h : okR t l = true) : okT t = true ∧ (l.length : Int) = nW t ∧ (∀ y ∈ l, 0 ≤ y ∧ y ≤ 9) ∧ (0 : Int) ∈ l ∧ 2 ≤ l.length ∧ l.length ≤ 8 := by
  unfold okR at h
  simp only [Bool.and_eq_true, decide_eq_true_eq, List.all_eq_true, List.any_eq_true, beq_iff_eq] at h
  obtain ⟨h1, h2, h3, x, hx, rfl⟩ := h
  have := nW_pos h1
  exact ⟨h1, h2, h3, hx, by omega, by omega⟩
theorem okR_tidy {t : Int} {l : List Int} (h : okR t l = true) : okR t (tidyL l) = true := by
  obtain ⟨h1, h2, h3, h4, h5, h6⟩ := okR_cases' h
  have h7 := tidy_le l 9 h3
  have h8 := tidy_zero l h4
  unfold okR
  simp only [Bool.and_eq_true, decide_eq_true_eq, List.all_eq_true, List.any_eq_true, beq_iff_eq]
  exact ⟨h1, by rw [tidyL_length]; exact h2, h7, 0, h8, rfl⟩
end Go.Proofs.Ytcmhilebiojfaaa.L
namespace Go.Proofs.Ytcmhilebiojfaaa.L
open Go.RowKit Go.Proofs.Ytcmhilebiojfaaa.B Go.Proofs.Ytcmhilebiojfaaa.V Go.Proofs.Ytcmhilebiojfaaa.Hand Go.Proofs.YtcmhilebiojfaaaW.PrintWords Go.Proofs.YtcmhilebiojfaaaW.PrintLast Go.Proofs.YtcmhilebiojfaaaW.PrintMore
set_option linter.unusedVariables false
set_option linter.unusedSimpArgs false
def rows1 : List (List Int) := [[0, 0], [0, 1], [1, 0]]
def rows2 : List (List Int) := [[0, 0, 0, 0], [0, 0, 0, 1], [0, 0, 1, 0], [0, 0, 1, 1], [0, 0, 1, 2], [0, 0, 2, 1], [0, 1, 0, 0], [0, 1, 0, 1], [0, 1, 0, 2], [0, 1, 1, 0], [0, 1, 1, 1], [0, 1, 1, 2], [0, 1, 2, 0], [0, 1, 2, 1], [0, 1, 2, 2], [0, 1, 2, 3], [0, 1, 3, 2], [0, 2, 0, 1], [0, 2, 1, 0], [0, 2, 1, 1], [0, 2, 1, 2], [0, 2, 1, 3], [0, 2, 2, 1], [0, 2, 3, 1], [0, 3, 1, 2], [0, 3, 2, 1], [1, 0, 0, 0], [1, 0, 0, 1], [1, 0, 0, 2], [1, 0, 1, 0], [1, 0, 1, 1], [1, 0, 1, 2], [1, 0, 2, 0], [1, 0, 2, 1], [1, 0, 2, 2], [1, 0, 2, 3], [1, 0, 3, 2], [1, 1, 0, 0], [1, 1, 0, 1], [1, 1, 0, 2], [1, 1, 1, 0], [1, 1, 2, 0], [1, 2, 0, 0], [1, 2, 0, 1], [1, 2, 0, 2], [1, 2, 0, 3], [1, 2, 1, 0], [1, 2, 2, 0], [1, 2, 3, 0], [1, 3, 0, 2], [1, 3, 2, 0], [2, 0, 0, 1], [2, 0, 1, 0], [2, 0, 1, 1], [2, 0, 1, 2], [2, 0, 1, 3], [2, 0, 2, 1], [2, 0, 3, 1], [2, 1, 0, 0], [2, 1, 0, 1], [2, 1, 0, 2], [2, 1, 0, 3], [2, 1, 1, 0], [2, 1, 2, 0], [2, 1, 3, 0], [2, 2, 0, 1], [2, 2, 1, 0], [2, 3, 0, 1], [2, 3, 1, 0], [3, 0, 1, 2], [3, 0, 2, 1], [3, 1, 0, 2], [3, 1, 2, 0], [3, 2, 0, 1], [3, 2, 1, 0]]
/-- All ranks without ranks left out, for 1 and for 2 things. -/
def rowsOf (t : Int) : List (List Int) := if t = 1 then rows1 else if t = 2 then rows2 else []
theorem rows1_ok : ∀ r ∈ rows1, okR 1 r = true ∧ tidyL r = r := by decide +kernel
theorem rows2_ok : ∀ r ∈ rows2, okR 2 r = true ∧ tidyL r = r := by decide +kernel
theorem rows_ok {t : Int} {r : List Int} (h : r ∈ rowsOf t) : okR t r = true ∧ tidyL r = r := by
  unfold rowsOf at h
  by_cases h1 : t = 1
  · subst h1; rw [if_pos rfl] at h; exact rows1_ok r h
  · rw [if_neg h1] at h
    by_cases h2 : t = 2
    · subst h2; rw [if_pos rfl] at h; exact rows2_ok r h
    · rw [if_neg h2] at h; cases h
theorem rows_len (t : Int) : (rowsOf t).length ≤ 75 := by
  unfold rowsOf
  split
  · decide
  · split
    · decide
    · decide
set_option maxRecDepth 100000 in
theorem rows1_all : ∀ a b : Fin 2, okR 1 [(a.val : Int), (b.val : Int)] = true → tidyL [(a.val : Int), (b.val : Int)] = [(a.val : Int), (b.val : Int)] → [(a.val : Int), (b.val : Int)] ∈ rows1 := by decide +kernel
set_option maxRecDepth 100000 in
theorem rows2_all : ∀ a b c d : Fin 4, okR 2 [(a.val : Int), (b.val : Int), (c.val : Int), (d.val : Int)] = true → tidyL [(a.val : Int), (b.val : Int), (c.val : Int), (d.val : Int)] = [(a.val : Int), (b.val : Int), (c.val : Int), (d.val : Int)] → [(a.val : Int), (b.val : Int), (c.val : Int), (d.val : Int)] ∈ rows2 := by decide +kernel
/-- A tidy rank is less than the number of worlds. -/
theorem tidy_lt (l : List Int) (h0 : ∀ y ∈ l, 0 ≤ y) : ∀ y ∈ tidyL l, y < (l.length : Int) := by
  intro y hy
  unfold tidyL at hy
  obtain ⟨x, hx, rfl⟩ := List.mem_map.1 hy
  obtain ⟨i, hi, hr⟩ := mem_rd hx
  have hx0 := h0 x hx
  rw [cnt_lots l x.toNat h0]
  have hp : (List.range l.length).countP (L.firstB l (x.toNat : Int)) ≠ (List.range l.length).length := by
    intro h
    have := List.countP_eq_length.1 h i (List.mem_range.2 hi)
    unfold L.firstB at this
    rw [hr, Int.toNat_of_nonneg hx0, decide_eq_false (Int.lt_irrefl x)] at this
    simp at this
  have hle := List.countP_le_length (p := L.firstB l (x.toNat : Int)) (l := List.range l.length)
  rw [List.length_range] at hp hle
  omega
theorem fin_of (x : Int) (n : Nat) (h0 : 0 ≤ x) (h1 : x < n) : ∃ a : Fin n, (a.val : Int) = x := ⟨⟨x.toNat, by omega⟩, Int.toNat_of_nonneg h0⟩
/-- Every tidy rank is in the list. -/
theorem rows_all {t : Int} {l : List Int} (ht : t ≤ 2) (hr : okR t l = true) : tidyL l ∈ rowsOf t := by
  obtain ⟨h1, h2, h3, h4, h5, h6⟩ := okR_cases' hr
  have h0 := fun y hy => (h3 y hy).1
  have hr2 := okR_tidy hr
  obtain ⟨g1, g2, g3, g4, g5, g6⟩ := okR_cases' hr2
  have hlt := tidy_lt l h0
  have htt := tidy_tidy l h0
  have hlen := tidyL_length l
  generalize tidyL l = r at *
  rcases (show t = 1 ∨ t = 2 by rcases okT_cases h1 with h | h | h <;> omega) with rfl | rfl
  · have hn : r.length = 2 := by
      have : nW 1 = 2 := rfl
      omega
    match r, hn with
    | [a, b], _ =>
      obtain ⟨a', rfl⟩ := fin_of a 2 (g3 a (by simp)).1 (by have := hlt a (by simp); simp at hlen; omega)
      obtain ⟨b', rfl⟩ := fin_of b 2 (g3 b (by simp)).1 (by have := hlt b (by simp); simp at hlen; omega)
      exact rows1_all a' b' hr2 htt
  · have hn : r.length = 4 := by
      have : nW 2 = 4 := rfl
      omega
    match r, hn with
    | [a, b, c, d], _ =>
      obtain ⟨a', rfl⟩ := fin_of a 4 (g3 a (by simp)).1 (by have := hlt a (by simp); simp at hlen; omega)
      obtain ⟨b', rfl⟩ := fin_of b 4 (g3 b (by simp)).1 (by have := hlt b (by simp); simp at hlen; omega)
      obtain ⟨c', rfl⟩ := fin_of c 4 (g3 c (by simp)).1 (by have := hlt c (by simp); simp at hlen; omega)
      obtain ⟨d', rfl⟩ := fin_of d 4 (g3 d (by simp)).1 (by have := hlt d (by simp); simp at hlen; omega)
      exact rows2_all a' b' c' d' hr2 htt
set_option maxRecDepth 100000 in
theorem sRanks1 : spec_RanksOf.f 20000 1 = some rows1 := by decide +kernel
set_option maxRecDepth 100000 in
theorem sRanks2 : spec_RanksOf.f 20000 2 = some rows2 := by decide +kernel
theorem sRanksOf_eq (t : Int) : spec_RanksOf.f 20000 t = some (rowsOf t) := by
  by_cases h1 : t = 1
  · subst h1; exact sRanks1
  · by_cases h2 : t = 2
    · subst h2; exact sRanks2
    · have e : rowsOf t = [] := by unfold rowsOf; rw [if_neg h1, if_neg h2]
      rw [e]
      unfold spec_RanksOf.f
      rw [l1In_eq]
      simp only [Option.bind_some]
      rw [if_neg (by simp; omega)]
theorem sRanksOf_up (t : Int) (j : Nat) : spec_RanksOf.f (20000 + j) t = some (rowsOf t) := by
  induction j with
  | zero => exact sRanksOf_eq t
  | succ j ih => exact spec_RanksOf.mono t (20000 + j) _ ih
theorem from_same {a b : List Int} (h : Same a b) (ha : ∀ y ∈ a, y ≤ 9) (hb : ∀ y ∈ b, y ≤ 9) (t : Int) : fromTab t a = fromTab t b := by
  unfold fromTab
  exact List.map_congr_left fun s _ => h.rev ha hb (s : Int)
theorem from_len (t : Int) (l : List Int) : (fromTab t l).length = (allW t).toNat + 1 := by unfold fromTab; simp
theorem sameInts_l1 (x y : List Int) (hxy : x.length = y.length) (hl : x.length ≤ 2000000) : ∀ (d i k : Nat), i + d = x.length → d < k → laws_sameInts.l0 k x y i = some (decide (x.drop i = y.drop i)) := by
  intro d
  induction d with
  | zero =>
    intro i k hi hk
    obtain ⟨m, rfl⟩ : ∃ m, k = m + 1 := ⟨k - 1, by omega⟩
    simp only [laws_sameInts.l0]
    rw [if_neg (by omega), List.drop_eq_nil_of_le (by omega), List.drop_eq_nil_of_le (by omega)]; simp
  | succ d ih =>
    intro i k hi hk
    obtain ⟨m, rfl⟩ : ∃ m, k = m + 1 := ⟨k - 1, by omega⟩
    simp only [laws_sameInts.l0]
    rw [if_pos (by omega), if_pos (by omega), if_pos (by omega), next64 i (by omega), drop_cons x i (by omega), drop_cons y i (by omega), ih (i + 1) m (by omega) (by omega)]
    by_cases h : rd x (i : Int) = rd y (i : Int)
    · rw [if_pos h, h]; simp
    · rw [if_neg h]; simp [h]
theorem sameInts_eq (x y : List Int) (k : Nat) (hl : x.length ≤ 2000000) (hk : x.length < k) : laws_sameInts.f k x y = some (decide (x = y)) := by
  unfold laws_sameInts.f
  by_cases h : x.length = y.length
  · rw [if_pos (by omega)]
    have := sameInts_l1 x y h hl x.length 0 k (by omega) hk
    simpa using this
  · rw [if_neg (by omega)]
    congr 1
    symm
    rw [decide_eq_false_iff_not]
    intro e; exact h (by rw [e])
end Go.Proofs.Ytcmhilebiojfaaa.L
namespace Go.Proofs.Ytcmhilebiojfaaa.Pure
open Go.RowKit Go.Proofs.Ytcmhilebiojfaaa.B Go.Proofs.Ytcmhilebiojfaaa.V Go.Proofs.Ytcmhilebiojfaaa.Hand Go.Proofs.Ytcmhilebiojfaaa.L Go.Proofs.YtcmhilebiojfaaaW.PrintWords Go.Proofs.YtcmhilebiojfaaaW.PrintLast Go.Proofs.YtcmhilebiojfaaaW.PrintMore
set_option linter.unusedVariables false
set_option linter.unusedSimpArgs false
theorem draw_ok (l0 : List Int) (hb : ∀ x ∈ l0, (Lit.int .u8 x).wf = true) : ∃ (t : Int) (l : List Int), l.length ≤ 17 ∧ ∀ k, 800 ≤ k → spec_DrawFirstFault.f k l0 = some (t, l) := by
  obtain ⟨b, hB, ho⟩ := open_ok l0 hb
  obtain ⟨t, l, p, t0, t1, hl, _, _, hs⟩ := table_ok hB 0 12 (by omega) (by omega) (by omega) (by omega)
  refine ⟨t, l, hl, fun k hk => ?_⟩
  unfold spec_DrawFirstFault.f
  rw [ho]
  simp only [Option.bind_some]
  rw [hs k (by omega)]
  simp only [Option.bind_some]
theorem loop (t : Int) (l : List Int) (n : Int) (ht : t ≤ 2) (rows : List (List Int)) (hr : ∀ r ∈ rows, okR t r = true) (hlen : rows.length ≤ 1000) : ∀ (d i k : Nat) (flag : Bool), i + d = rows.length → d + 400 ≤ k →
    laws_FnFirstFault.l0 k t l n rows flag i = some ((n == 0) == (flag || (rows.drop i).any (fun r => decide (fromTab t r = l)))) := by
  intro d
  induction d with
  | zero =>
    intro i k flag hi hk
    obtain ⟨m, rfl⟩ : ∃ m, k = m + 1 := ⟨k - 1, by omega⟩
    simp only [laws_FnFirstFault.l0]
    rw [if_neg (by omega), List.drop_eq_nil_of_le (by omega)]
    simp
  | succ d ih =>
    intro i k flag hi hk
    obtain ⟨m, rfl⟩ : ∃ m, k = m + 1 := ⟨k - 1, by omega⟩
    have hx : rows.drop i = rd_L2 rows (i : Int) :: rows.drop (i + 1) := by
      rw [List.drop_eq_getElem_cons (show i < rows.length by omega)]
      unfold rd_L2
      rw [Int.toNat_natCast, List.getD_eq_getElem?_getD, List.getElem?_eq_getElem (show i < rows.length by omega)]; rfl
    have hm : rd_L2 rows (i : Int) ∈ rows := List.mem_of_mem_drop (i := i) (by rw [hx]; exact List.mem_cons_self)
    have hro := hr _ hm
    simp only [laws_FnFirstFault.l0]
    rw [if_pos (by omega), next64 i (by omega)]
    cases flag with
    | true =>
      rw [if_pos rfl, ih (i + 1) m true (by omega) (by omega)]
      simp
    | false =>
      obtain ⟨g1, g2, g3, g4, g5, g6⟩ := okR_cases' hro
      have hA := allW_range g1
      have hfl := from_len t (rd_L2 rows (i : Int))
      rw [if_neg (by simp), if_pos (by omega), show impl_TableFrom.f t (rd_L2 rows (i : Int)) = some (if t ≤ 2 ∧ okR t (rd_L2 rows (i : Int)) = true then fromTab t (rd_L2 rows (i : Int)) else []) from rfl, if_pos ⟨ht, hro⟩]
      simp only [Option.bind_some]
      rw [sameInts_eq _ _ m (by omega) (by omega)]
      simp only [Option.bind_some]
      rw [ih (i + 1) m _ (by omega) (by omega), hx, List.any_cons, Bool.false_or]
theorem FnFirstFault : laws_FnFirstFault.Pure := by
  intro l0 _ _ hb
  refine ⟨20000 + 60000, ?_⟩
  unfold laws_FnFirstFault.f
  by_cases hl : (l0.length : Int) > 1048576
  · rw [if_pos hl]
  rw [if_neg hl]
  obtain ⟨t, l, hf, hd⟩ := draw_ok l0 hb
  rw [hd _ (by omega)]
  simp only [Option.bind_some]
  rw [FirstFault_eq t l _ (by omega), sFirstFault_eq t l _ (by omega) (by omega)]
  simp only [Option.bind_some, if_true]
  by_cases h : okTab t l = true
  · obtain ⟨h1, h2, h3, h4, h5, h6⟩ := okTab_cases' h
    have e : fauE t l = fault l := by unfold fauE; rw [if_pos h]
    have hn : 0 ≤ fault l := by unfold fault; (repeat' split) <;> omega
    rw [e, if_neg (by omega), sRanksOf_up t 60000]
    simp only [Option.bind_some]
    have hlen := rows_len t
    have hlo := loop t l (fault l) h2 (rowsOf t) (fun r hr => (rows_ok hr).1) (by omega) (rowsOf t).length 0 (20000 + 60000) false (by omega) (by omega)
    rw [show (0 : Int) = ((0 : Nat) : Int) from rfl, hlo]
    congr 1
    rw [Bool.false_or, List.drop_zero, beq_iff_eq, Bool.eq_iff_iff, beq_iff_eq, List.any_eq_true]
    constructor
    · intro h0
      have hr := bcL_ok h h0
      obtain ⟨g1, g2, g3, g4, g5, g6⟩ := okR_cases' hr
      have hr2 := okR_tidy hr
      obtain ⟨u1, u2, u3, u4, u5, u6⟩ := okR_cases' hr2
      refine ⟨_, rows_all h2 hr, ?_⟩
      rw [decide_eq_true_eq, ← from_same (same_tidy _ (fun y hy => (g3 y hy).1)) (fun y hy => (g3 y hy).2) (fun y hy => (u3 y hy).2) t]
      exact tab_of h h0
    · rintro ⟨r, hr, he⟩
      rw [decide_eq_true_eq] at he
      rw [← he]
      exact fault_from (rows_ok hr).1
  · have e : fauE t l = -1 := by unfold fauE; rw [if_neg h]
    rw [e, if_pos (by omega), if_pos rfl, alive_eq]; rfl
end Go.Proofs.Ytcmhilebiojfaaa.Pure
