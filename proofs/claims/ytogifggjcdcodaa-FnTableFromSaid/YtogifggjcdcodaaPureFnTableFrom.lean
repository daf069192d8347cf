/- The law of TableFrom: the table of ranks fulfils all postulates, and its ranks are the tidy ones. For all bytes. -/
import Derived.Test.YtogifggjcdcodaaHm
import Derived.Test.YtogifggjcdcodaaHandF
import Derived.Test.YtogifggjcdcodaaPx1
import Derived.Test.YtogifggjcdcodaaPx2
import Derived.Test.YtogifggjcdcodaaPx3
import Derived.Test.YtogifggjcdcodaaPx4
import Derived.Test.YtogifggjcdcodaaPx5
namespace Go.Proofs.Ytogifggjcdcodaa.L
open Go.RowKit Go.Proofs.Ytogifggjcdcodaa.B Go.Proofs.Ytogifggjcdcodaa.P Go.Proofs.Ytogifggjcdcodaa.Hand Go.Proofs.YtogifggjcdcodaaW.PrintWords Go.Proofs.YtogifggjcdcodaaW.PrintLast Go.Proofs.YtogifggjcdcodaaW.PrintMore
set_option linter.unusedVariables false
set_option linter.unusedSimpArgs false
theorem l1In_eq (a b c : Int) : spec_l1In.f a b c = some (decide (b ≤ a) && decide (a ≤ c)) := by
  unfold spec_l1In.f
  by_cases h : a ≥ b
  · rw [if_pos h]; simp [show b ≤ a from h]
  · rw [if_neg h]; simp [show ¬ b ≤ a from h]
theorem l1In_13 (a : Int) : spec_l1In.f a 1 3 = some (okT a) := l1In_eq a 1 3
theorem l1All_eq (a : Int) (h : okT a = true) : spec_l1All.f a = some (allW a) := by
  unfold spec_l1All.f allF; rw [if_pos h]
theorem WorldsOf_eq (t : Int) : impl_WorldsOf.f t = some (nW t) := by
  unfold impl_WorldsOf.f nW
  rw [areThings_eq]
  simp only [Option.bind_some]
  cases h : okT t with
  | false => simp
  | true => rcases okT_cases h with rfl | rfl | rfl <;> decide +kernel
theorem sWorldsOf_eq (t : Int) : spec_WorldsOf.f t = some (nW t) := by
  unfold spec_WorldsOf.f nW
  rw [l1In_13]
  simp only [Option.bind_some]
  cases h : okT t with
  | false => simp
  | true => rcases okT_cases h with rfl | rfl | rfl <;> decide +kernel
theorem alive_eq : laws_alive.f = some true := by
  unfold laws_alive.f
  rw [WorldsOf_eq, WorldsOf_eq]
  decide +kernel
end Go.Proofs.Ytogifggjcdcodaa.L
namespace Go.Proofs.Ytogifggjcdcodaa.L
open Go.RowKit Go.Proofs.Ytogifggjcdcodaa.B Go.Proofs.Ytogifggjcdcodaa.P Go.Proofs.Ytogifggjcdcodaa.Hand Go.Proofs.YtogifggjcdcodaaW.PrintWords Go.Proofs.YtogifggjcdcodaaW.PrintLast Go.Proofs.YtogifggjcdcodaaW.PrintMore
set_option linter.unusedVariables false
set_option linter.unusedSimpArgs false
theorem xor_i64 (a b : Nat) (ha : a < 2 ^ 62) (hb : b < 2 ^ 62) : bits .xor .i64 a b = ((a ^^^ b : Nat) : Int) := by
  have hx : a ^^^ b < 2 ^ 62 := Nat.xor_lt_two_pow ha hb
  simp only [bits, BitVec.ofInt_natCast, BitVec.toNat_xor, BitVec.toNat_ofNat]
  have e : IntKind.i64.bits = 64 := rfl
  rw [e, Nat.mod_eq_of_lt (by omega), Nat.mod_eq_of_lt (by omega)]
  exact wraps_i64 _ (by omega) (by omega)
theorem xor_nonneg (x y : Int) (hx : 0 ≤ x) (hx2 : x < 4611686018427387904) (hy : 0 ≤ y) (hy2 : y < 4611686018427387904) : 0 ≤ bits .xor .i64 x y := by
  obtain ⟨a, rfl⟩ := Int.eq_ofNat_of_zero_le hx
  obtain ⟨b, rfl⟩ := Int.eq_ofNat_of_zero_le hy
  rw [xor_i64 a b (by omega) (by omega)]
  omega
/-- A reader's bytes. -/
structure Rd (b : List Int) : Prop where
  byte : ∀ x, x ∈ b → 0 ≤ x ∧ x ≤ 255
  len : b.length ≤ 2000
theorem Rd.at_ {b : List Int} (h : Rd b) (i : Int) : 0 ≤ rd b i ∧ rd b i ≤ 255 := by
  unfold rd
  rw [List.getD_eq_getElem?_getD]
  by_cases e : i.toNat < b.length
  · rw [List.getElem?_eq_getElem e]; exact h.byte _ (List.getElem_mem e)
  · rw [List.getElem?_eq_none (by omega)]; simp
theorem pick_ok {b : List Int} (hb : Rd b) (p n : Int) (hp : 0 ≤ p) (hp2 : p ≤ 1000000) (hn : 1 ≤ n) (hn2 : n ≤ 1000000) :
    ∃ v, 0 ≤ v ∧ v < n ∧ ∀ k, 1 ≤ k → spec_l20Rd_pick.f k b p n = some (v, p + 1) := by
  have e1 : wrap64 (p + 1) = p + 1 := w64 (by omega) (by omega)
  have e2 : wrap64 (p + 1 - 1) = p := by rw [w64 (by omega) (by omega)]; omega
  by_cases hl : (b.length : Int) = 0
  · refine ⟨0, by omega, by omega, fun k hk => ?_⟩
    obtain ⟨m, rfl⟩ : ∃ m, k = m + 1 := ⟨k - 1, by omega⟩
    unfold spec_l20Rd_pick.f
    rw [if_neg (by omega), e1]
    simp only [spec_l20Rd_pick.j0]
    rw [if_pos (by rw [hl]; rfl)]
  · have hlen : 0 < (b.length : Int) := by omega
    have hlen2 : (b.length : Int) ≤ 2000 := by have := hb.len; omega
    have hle : ¬ (((b.length : Int) == 0) = true) := fun h => hl (beq_iff_eq.1 h)
    by_cases hlt : p < (b.length : Int)
    · have hr := hb.at_ p
      refine ⟨Int.tmod (rd b p) n, Int.tmod_nonneg _ hr.1, Int.tmod_lt_of_pos _ (by omega), fun k hk => ?_⟩
      obtain ⟨m, rfl⟩ : ∃ m, k = m + 1 := ⟨k - 1, by omega⟩
      unfold spec_l20Rd_pick.f
      rw [if_neg (by omega), e1]
      simp only [spec_l20Rd_pick.j0]
      rw [if_neg hle, e2, if_pos hlt, if_pos hp, if_neg (by omega), w64 (n := rd b p) (by omega) (by omega)]
    · have m1 : 0 ≤ Int.tmod p (b.length : Int) := Int.tmod_nonneg _ hp
      have m2 : Int.tmod p (b.length : Int) < (b.length : Int) := Int.tmod_lt_of_pos _ hlen
      have e3 : wrap64 (wrap64 (p * 7) + 3) = p * 7 + 3 := by rw [w64 (n := p * 7) (by omega) (by omega), w64 (by omega) (by omega)]
      have m3 : 0 ≤ Int.tmod (p * 7 + 3) (b.length : Int) := Int.tmod_nonneg _ (by omega)
      have m4 : Int.tmod (p * 7 + 3) (b.length : Int) < (b.length : Int) := Int.tmod_lt_of_pos _ hlen
      have a1 := hb.at_ (Int.tmod p (b.length : Int))
      have a2 := hb.at_ (Int.tmod (p * 7 + 3) (b.length : Int))
      have d1 : 0 ≤ Int.tdiv p (b.length : Int) := Int.tdiv_nonneg hp (by omega)
      have d2 : Int.tdiv p (b.length : Int) ≤ p := by
        rw [Int.tdiv_eq_ediv_of_nonneg hp]
        exact Int.ediv_le_self _ hp
      generalize hA : rd b (Int.tmod p (b.length : Int)) = A at a1
      generalize hB : rd b (Int.tmod (p * 7 + 3) (b.length : Int)) = B at a2
      generalize hD : Int.tdiv p (b.length : Int) = D at d1 d2
      have eY : wrap64 (wrap64 (wrap64 (wrap64 (wrap64 A * 131) + wrap64 (wrap64 B * 1117)) + wrap64 (p * 29)) + wrap64 (wrap64 D * 53)) = A * 131 + B * 1117 + p * 29 + D * 53 := by
        rw [w64 (n := A) (by omega) (by omega), w64 (n := B) (by omega) (by omega), w64 (n := D) (by omega) (by omega), w64 (n := A * 131) (by omega) (by omega), w64 (n := B * 1117) (by omega) (by omega), w64 (n := p * 29) (by omega) (by omega), w64 (n := D * 53) (by omega) (by omega), w64 (n := A * 131 + B * 1117) (by omega) (by omega), w64 (n := A * 131 + B * 1117 + p * 29) (by omega) (by omega), w64 (by omega) (by omega)]
      generalize hY : A * 131 + B * 1117 + p * 29 + D * 53 = Y at eY
      have y1 : 0 ≤ Y := by omega
      have y2 : Y ≤ 200000000 := by omega
      have eq : Int.tdiv Y 64 = Y / 64 := Int.tdiv_eq_ediv_of_nonneg y1
      have hx : 0 ≤ Go.bits .xor .i64 Y (wrap64 (Int.tdiv Y 64)) := by
        rw [eq, w64 (by omega) (by omega)]
        exact xor_nonneg _ _ y1 (by omega) (by omega) (by omega)
      refine ⟨Int.tmod (Go.bits .xor .i64 Y (wrap64 (Int.tdiv Y 64))) n, Int.tmod_nonneg _ hx, Int.tmod_lt_of_pos _ (by omega), fun k hk => ?_⟩
      obtain ⟨m, rfl⟩ : ∃ m, k = m + 1 := ⟨k - 1, by omega⟩
      unfold spec_l20Rd_pick.f
      rw [if_neg (by omega), e1]
      simp only [spec_l20Rd_pick.j0]
      rw [if_neg hle, e2, if_neg hlt, if_neg hl, if_pos m1, if_pos m2, e3, if_pos m3, if_pos m4, if_neg (by omega), hA, hB, hD, eY]
theorem odd_ok {b : List Int} (hb : Rd b) (p n : Int) (hp : 0 ≤ p) (hp2 : p ≤ 1000000) (hn : 0 ≤ n) (hn2 : n ≤ 1000000) :
    ∃ (v : Bool) (p' : Int), p ≤ p' ∧ p' ≤ p + 1 ∧ ∀ k, 1 ≤ k → spec_l20Rd_odd.f k b p n = some (v, p') := by
  by_cases h : n > 0
  · obtain ⟨v, h0, h1, hv⟩ := pick_ok hb p n hp hp2 (by omega) hn2
    exact ⟨v == wrap64 (n - 1), p + 1, by omega, by omega, fun k hk => by unfold spec_l20Rd_odd.f; rw [if_pos h, hv k hk]; rfl⟩
  · exact ⟨false, p, by omega, by omega, fun k hk => by unfold spec_l20Rd_odd.f; rw [if_neg h]⟩
theorem open_ok (l0 : List Int) (hb : ∀ x ∈ l0, (Lit.int .u8 x).wf = true) : ∃ b, Rd b ∧ spec_l20Open.f l0 = some (b, 0) := by
  have hx : ∀ x ∈ l0, 0 ≤ x ∧ x ≤ 255 := fun x hx => by
    have := hb x hx
    simp [Lit.wf, IntKind.min, IntKind.max, IntKind.bits, IntKind.signed] at this
    omega
  unfold spec_l20Open.f
  by_cases h : (l0.length : Int) > 2000
  · rw [if_pos h, if_pos (by omega)]
    exact ⟨l0.take 2000, ⟨fun x hm => hx x (List.mem_of_mem_take hm), by simp; omega⟩, rfl⟩
  · rw [if_neg h]
    exact ⟨l0, ⟨hx, by omega⟩, rfl⟩
end Go.Proofs.Ytogifggjcdcodaa.L
namespace Go.Proofs.Ytogifggjcdcodaa.L
open Go.RowKit Go.Proofs.Ytogifggjcdcodaa.B Go.Proofs.Ytogifggjcdcodaa.P Go.Proofs.Ytogifggjcdcodaa.Hand Go.Proofs.YtogifggjcdcodaaW.PrintWords Go.Proofs.YtogifggjcdcodaaW.PrintLast Go.Proofs.YtogifggjcdcodaaW.PrintMore
set_option linter.unusedVariables false
set_option linter.unusedSimpArgs false
theorem bit_nat (a w : Nat) (hw : w ≤ 62) : spec_l1Bit.f (a : Int) (w : Int) = some (if a.testBit w = true then 1 else 0) := by
  unfold spec_l1Bit.f
  rw [if_pos (by omega), shr_nat a w hw, tmod2]
end Go.Proofs.Ytogifggjcdcodaa.L
namespace Go.Proofs.Ytogifggjcdcodaa.L
open Go.RowKit Go.Proofs.Ytogifggjcdcodaa.B Go.Proofs.Ytogifggjcdcodaa.P Go.Proofs.Ytogifggjcdcodaa.Hand Go.Proofs.YtogifggjcdcodaaW.PrintWords Go.Proofs.YtogifggjcdcodaaW.PrintLast Go.Proofs.YtogifggjcdcodaaW.PrintMore
set_option linter.unusedVariables false
set_option linter.unusedSimpArgs false
theorem sameInts_l0 (x : List Int) (hl : x.length ≤ 2000000) : ∀ (d i k : Nat), i + d = x.length → d < k → laws_sameInts.l0 k x x i = some true := by
  intro d
  induction d with
  | zero =>
    intro i k hi hk
    obtain ⟨m, rfl⟩ : ∃ m, k = m + 1 := ⟨k - 1, by omega⟩
    simp only [laws_sameInts.l0]
    rw [if_neg (by omega)]
  | succ d ih =>
    intro i k hi hk
    obtain ⟨m, rfl⟩ : ∃ m, k = m + 1 := ⟨k - 1, by omega⟩
    simp only [laws_sameInts.l0]
    rw [if_pos (by omega), if_pos (by omega), if_pos (by omega), if_pos trivial, next64 i (by omega)]
    exact ih (i + 1) m (by omega) (by omega)
theorem sameInts_refl (l : List Int) (k : Nat) (hl : l.length ≤ 2000000) (hk : l.length < k) : laws_sameInts.f k l l = some true := by
  unfold laws_sameInts.f
  rw [if_pos rfl]
  exact sameInts_l0 l hl l.length 0 k (by omega) hk
end Go.Proofs.Ytogifggjcdcodaa.L
namespace Go.Proofs.Ytogifggjcdcodaa.L
open Go.RowKit Go.Proofs.Ytogifggjcdcodaa.B Go.Proofs.Ytogifggjcdcodaa.P Go.Proofs.Ytogifggjcdcodaa.Hand Go.Proofs.YtogifggjcdcodaaW.PrintWords Go.Proofs.YtogifggjcdcodaaW.PrintLast Go.Proofs.YtogifggjcdcodaaW.PrintMore
set_option linter.unusedVariables false
set_option linter.unusedSimpArgs false
theorem sRankOk_l0 (t : Int) (l : List Int) (hl : l.length ≤ 2000000) : ∀ (d i k : Nat) (m : Int), i + d = l.length → d < k →
    spec_RankOk.l0 k t l m i = some ((l.drop i).all (fun x => decide (0 ≤ x) && decide (x ≤ 9)) && (okT t && (decide ((l.length : Int) = nW t) && (mnL m (l.drop i) == 0)))) := by
  intro d
  induction d with
  | zero =>
    intro i k m hi hk
    obtain ⟨q, rfl⟩ : ∃ q, k = q + 1 := ⟨k - 1, by omega⟩
    simp only [spec_RankOk.l0]
    rw [if_neg (by omega), List.drop_eq_nil_of_le (by omega), l1In_13]
    simp only [Option.bind_some]
    cases ht : okT t with
    | false => simp
    | true =>
      have hpos : 0 ≤ t := by rcases okT_cases ht with rfl | rfl | rfl <;> omega
      rw [if_pos rfl, if_pos hpos, (nW_pos ht).2.2]
      by_cases h : (l.length : Int) = nW t
      · rw [if_pos h]; simp [h, mnL]
      · rw [if_neg h]; simp [h]
  | succ d ih =>
    intro i k m hi hk
    obtain ⟨q, rfl⟩ : ∃ q, k = q + 1 := ⟨k - 1, by omega⟩
    simp only [spec_RankOk.l0]
    rw [if_pos (by omega), if_pos (by omega), l1In_eq, drop_cons l i (by omega)]
    simp only [Option.bind_some, List.all_cons]
    cases hx : (decide (0 ≤ rd l (i : Int)) && decide (rd l (i : Int) ≤ 9)) with
    | false => simp
    | true =>
      rw [if_pos rfl, next64 i (by omega), ih (i + 1) q _ (by omega) (by omega)]
      simp [mnL]
theorem sRankOk_eq (t : Int) (l : List Int) (k : Nat) (hl : l.length ≤ 2000000) (hk : l.length < k) : spec_RankOk.f k t l = some (okR t l) := by
  have h := sRankOk_l0 t l hl l.length 0 k 9 (by omega) hk
  unfold spec_RankOk.f
  rw [show ((0 : Nat) : Int) = 0 from rfl] at h
  rw [h]
  congr 1
  rw [List.drop_zero]
  unfold okR
  have a1 := mnL_le l 9
  have a2 := mnL_mem l 9
  rw [Bool.eq_iff_iff]
  simp only [Bool.and_eq_true, List.all_eq_true, List.any_eq_true, decide_eq_true_eq, beq_iff_eq]
  constructor
  · rintro ⟨h1, h2, h3, h4⟩
    rcases a2 with h | h
    · omega
    · exact ⟨h2, h3, h1, _, h, h4⟩
  · rintro ⟨h2, h3, h1, x, hx, rfl⟩
    refine ⟨h1, h2, h3, ?_⟩
    have := a1.2 0 hx
    rcases a2 with h | h
    · have := h1 _ hx; omega
    · have := h1 _ h; omega
end Go.Proofs.Ytogifggjcdcodaa.L
namespace Go.Proofs.Ytogifggjcdcodaa.L
open Go.RowKit Go.Proofs.Ytogifggjcdcodaa.Hand Go.Proofs.YtogifggjcdcodaaW.PrintWords
set_option linter.unusedVariables false
set_option linter.unusedSimpArgs false
/-- How many numbers below x are in the list. -/
def cnt (l : List Int) (x : Nat) : Nat := (List.range x).countP (fun q : Nat => l.any (fun y => y == (q : Int)))
/-- Tidy ranks. -/
def tidyL (l : List Int) : List Int := l.map (fun x => (cnt l x.toNat : Int))
theorem tidyL_length (l : List Int) : (tidyL l).length = l.length := by unfold tidyL; simp
theorem rd_map (l : List Int) (f : Int → Int) (i : Nat) (h : i < l.length) : rd (l.map f) (i : Int) = f (rd l (i : Int)) := by
  unfold rd
  rw [Int.toNat_natCast, List.getD_eq_getElem?_getD, List.getD_eq_getElem?_getD, List.getElem?_map, List.getElem?_eq_getElem h]; rfl
theorem tidyL_rd (l : List Int) (i : Nat) (h : i < l.length) : rd (tidyL l) (i : Int) = (cnt l (rd l (i : Int)).toNat : Int) := rd_map l _ i h
theorem rd_mem (l : List Int) (i : Nat) (h : i < l.length) : rd l (i : Int) ∈ l := by
  unfold rd
  rw [Int.toNat_natCast, List.getD_eq_getElem?_getD, List.getElem?_eq_getElem h]; exact List.getElem_mem h
theorem cnt_succ (l : List Int) (x : Nat) : cnt l (x + 1) = cnt l x + if l.any (fun y => y == (x : Int)) = true then 1 else 0 := by
  unfold cnt
  rw [List.range_succ, List.countP_append, List.countP_singleton]
/-- Is place v the first of its rank, and is its rank below x. -/
def firstB (l : List Int) (x : Int) (v : Nat) : Bool := decide (rd l (v : Int) < x) && (List.range v).all (fun u => decide (rd l (u : Int) ≠ rd l (v : Int)))
theorem count_or (p : Nat → Bool) (y : Int) (x : Nat) :
    (List.range x).countP (fun q : Nat => p q || ((q : Int) == y)) = (List.range x).countP p + if 0 ≤ y ∧ y < x ∧ p y.toNat = false then 1 else 0 := by
  induction x with
  | zero => simp; omega
  | succ x ih =>
    rw [List.range_succ, List.countP_append, List.countP_append, ih, List.countP_singleton, List.countP_singleton]
    by_cases e : (x : Int) = y
    · subst e
      have n1 : ¬ (0 ≤ (x : Int) ∧ (x : Int) < (x : Int) ∧ p (x : Int).toNat = false) := fun h => absurd h.2.1 (by omega)
      rw [if_neg n1, Int.toNat_natCast]
      cases hp : p x with
      | true =>
        have n2 : ¬ (0 ≤ (x : Int) ∧ (x : Int) < ((x + 1 : Nat) : Int) ∧ true = false) := fun h => absurd h.2.2 (by simp)
        rw [if_neg n2]; simp
      | false =>
        have n2 : 0 ≤ (x : Int) ∧ (x : Int) < ((x + 1 : Nat) : Int) ∧ false = false := ⟨by omega, by omega, rfl⟩
        rw [if_pos n2]; simp
    · have e2 : ((x : Int) == y) = false := by simpa using e
      rw [e2, Bool.or_false]
      by_cases h : 0 ≤ y ∧ y < x ∧ p y.toNat = false
      · have h' : 0 ≤ y ∧ y < ((x + 1 : Nat) : Int) ∧ p y.toNat = false := ⟨h.1, by omega, h.2.2⟩
        rw [if_pos h, if_pos h']; omega
      · have h' : ¬ (0 ≤ y ∧ y < ((x + 1 : Nat) : Int) ∧ p y.toNat = false) := fun k => h ⟨k.1, by omega, k.2.2⟩
        rw [if_neg h, if_neg h']; omega
theorem take_snoc (l : List Int) (m : Nat) (h : m < l.length) : l.take (m + 1) = l.take m ++ [rd l (m : Int)] := by
  rw [List.take_succ_eq_append_getElem h]
  congr 1
  unfold rd
  rw [Int.toNat_natCast, List.getD_eq_getElem?_getD, List.getElem?_eq_getElem h]; rfl
theorem any_take (l : List Int) (y : Int) : ∀ m, m ≤ l.length → ((l.take m).any (fun z => z == y) = false ↔ (List.range m).all (fun u => decide (rd l (u : Int) ≠ y)) = true) := by
  intro m
  induction m with
  | zero => simp
  | succ m ih =>
    intro hm
    rw [take_snoc l m (by omega), List.any_append, List.range_succ, List.all_append, Bool.or_eq_false_iff, Bool.and_eq_true, ih (by omega)]
    simp
theorem lots_take (l : List Int) (x : Nat) (h0 : ∀ y ∈ l, 0 ≤ y) : ∀ m, m ≤ l.length → (List.range x).countP (fun q : Nat => (l.take m).any (fun y => y == (q : Int))) = (List.range m).countP (firstB l x) := by
  intro m
  induction m with
  | zero => simp
  | succ m ih =>
    intro hm
    have e : (fun q : Nat => (l.take (m + 1)).any (fun y => y == (q : Int))) = fun q : Nat => (l.take m).any (fun y => y == (q : Int)) || ((q : Int) == rd l (m : Int)) := by
      funext q
      rw [take_snoc l m (by omega), List.any_append]
      congr 1
      simp only [List.any_cons, List.any_nil, Bool.or_false]
      rw [Bool.eq_iff_iff, beq_iff_eq, beq_iff_eq]
      exact eq_comm
    rw [e, count_or, ih (by omega), List.range_succ, List.countP_append, List.countP_singleton]
    congr 1
    have hy := h0 _ (rd_mem l m (by omega))
    have h1 := any_take l (rd l (m : Int)) m (by omega)
    have h2 : (((rd l (m : Int)).toNat : Nat) : Int) = rd l (m : Int) := by omega
    unfold firstB
    by_cases hc : rd l (m : Int) < (x : Int)
    · rw [decide_eq_true hc, Bool.true_and]
      cases hb : (List.range m).all (fun u => decide (rd l (u : Int) ≠ rd l (m : Int))) with
      | true => rw [if_pos ⟨hy, hc, by rw [h2]; exact h1.2 hb⟩]; rfl
      | false => rw [if_neg (by rintro ⟨_, _, c⟩; rw [h2] at c; rw [h1.1 c] at hb; cases hb)]; rfl
    · rw [decide_eq_false hc, if_neg (by rintro ⟨_, b, _⟩; exact hc b)]; rfl
/-- Tidy ranks go by the order of the ranks alone. -/
theorem cnt_lots (l : List Int) (x : Nat) (h0 : ∀ y ∈ l, 0 ≤ y) : cnt l x = (List.range l.length).countP (firstB l x) := by
  have := lots_take l x h0 l.length (Nat.le_refl _)
  rw [List.take_length] at this
  exact this
/-- Two rows of ranks are in the same order. -/
def Same (a b : List Int) : Prop := a.length = b.length ∧ ∀ i j : Nat, i < a.length → j < a.length → (rd a (i : Int) ≤ rd a (j : Int) ↔ rd b (i : Int) ≤ rd b (j : Int))
theorem Same.symm {a b : List Int} (h : Same a b) : Same b a := ⟨h.1.symm, fun i j hi hj => (h.2 i j (by rw [h.1]; exact hi) (by rw [h.1]; exact hj)).symm⟩
theorem leastN_le (l : List Int) (s : Int) : ∀ n, leastN l s n ≤ 10 ∧ ∀ v : Nat, v < n → bit s v = true → leastN l s n ≤ rd l (v : Int)
  | 0 => ⟨Int.le_refl _, fun v hv => absurd hv (by omega)⟩
  | n + 1 => by
    obtain ⟨h1, h2⟩ := leastN_le l s n
    simp only [leastN]
    cases hb : bit s n with
    | true =>
      rw [if_pos rfl]
      have hm : mn (leastN l s n) (rd l (n : Int)) ≤ leastN l s n ∧ mn (leastN l s n) (rd l (n : Int)) ≤ rd l (n : Int) := by unfold mn; split <;> omega
      refine ⟨Int.le_trans hm.1 h1, fun v hv hbv => ?_⟩
      rcases Nat.lt_or_ge v n with h3 | h3
      · exact Int.le_trans hm.1 (h2 v h3 hbv)
      · obtain rfl : v = n := by omega
        exact hm.2
    | false =>
      rw [if_neg (by simp)]
      refine ⟨h1, fun v hv hbv => ?_⟩
      rcases Nat.lt_or_ge v n with h3 | h3
      · exact h2 v h3 hbv
      · obtain rfl : v = n := by omega
        rw [hb] at hbv; cases hbv
theorem leastN_mem (l : List Int) (s : Int) : ∀ n, leastN l s n = 10 ∨ ∃ v : Nat, v < n ∧ bit s v = true ∧ rd l (v : Int) = leastN l s n
  | 0 => .inl rfl
  | n + 1 => by
    simp only [leastN]
    cases hb : bit s n with
    | true =>
      rw [if_pos rfl]
      have hm : mn (leastN l s n) (rd l (n : Int)) = leastN l s n ∨ mn (leastN l s n) (rd l (n : Int)) = rd l (n : Int) := by unfold mn; split <;> simp
      rcases hm with hm | hm
      · rcases leastN_mem l s n with h | ⟨v, h1, h2, h3⟩
        · left; rw [hm, h]
        · right; exact ⟨v, by omega, h2, by rw [hm, h3]⟩
      · right; exact ⟨n, by omega, hb, hm.symm⟩
    | false =>
      rw [if_neg (by simp)]
      rcases leastN_mem l s n with h | ⟨v, h1, h2, h3⟩
      · exact .inl h
      · exact .inr ⟨v, by omega, h2, h3⟩
/-- A world has the least rank of a set just if no world of the set has a lesser one. -/
theorem least_iff (l : List Int) (s : Int) (h9 : ∀ y ∈ l, y ≤ 9) (w : Nat) (hw : w < l.length) (hb : bit s w = true) :
    (rd l (w : Int) == least l s) = true ↔ ∀ v : Nat, v < l.length → bit s v = true → rd l (w : Int) ≤ rd l (v : Int) := by
  have h1 := leastN_le l s l.length
  have h2 := leastN_mem l s l.length
  rw [beq_iff_eq]
  constructor
  · intro h v hv hbv
    rw [h]
    exact h1.2 v hv hbv
  · intro h
    have h3 := h1.2 w hw hb
    have h4 := h9 _ (rd_mem l w hw)
    unfold least
    rcases h2 with h2 | ⟨v, hv, hbv, e⟩
    · omega
    · have := h v hv hbv
      omega
theorem rev_bit (l : List Int) (s : Int) (w : Nat) : bit (rev l s) w = (decide (w < l.length) && (bit s w && (rd l (w : Int) == least l s))) := by
  unfold rev bit
  rw [Int.toNat_natCast, sumN_testBit]
theorem Same.rev {a b : List Int} (h : Same a b) (ha : ∀ y ∈ a, y ≤ 9) (hb : ∀ y ∈ b, y ≤ 9) (s : Int) : rev a s = rev b s := by
  unfold Hand.rev
  rw [← h.1]
  congr 1
  apply sumN_congr
  intro w hw
  have hw2 : w < b.length := by rw [← h.1]; exact hw
  cases hbw : bit s w with
  | false => rfl
  | true =>
    rw [Bool.true_and, Bool.true_and, Bool.eq_iff_iff, least_iff a s ha w hw hbw, least_iff b s hb w hw2 hbw]
    constructor
    · intro h3 v hv hbv
      exact (h.2 w v hw (by rw [h.1]; exact hv)).1 (h3 v (by rw [h.1]; exact hv) hbv)
    · intro h3 v hv hbv
      exact (h.2 w v hw hv).2 (h3 v (by rw [← h.1]; exact hv) hbv)
/-- The worlds i and j, as a set. -/
def pair (i j : Nat) : Int := ((2 ^ i ||| 2 ^ j : Nat) : Int)
theorem pair_bit (i j v : Nat) : bit (pair i j) v = (decide (i = v) || decide (j = v)) := by
  unfold pair bit
  rw [Int.toNat_natCast, Nat.testBit_or, Nat.testBit_two_pow, Nat.testBit_two_pow]
theorem rev_pair (l : List Int) (i j : Nat) (hi : i < l.length) (hj : j < l.length) (h9 : ∀ y ∈ l, y ≤ 9) : bit (rev l (pair i j)) i = true ↔ rd l (i : Int) ≤ rd l (j : Int) := by
  have hb : bit (pair i j) i = true := by rw [pair_bit]; simp
  rw [rev_bit, decide_eq_true hi, Bool.true_and, hb, Bool.true_and, least_iff l _ h9 i hi hb]
  constructor
  · intro h
    exact h j hj (by rw [pair_bit]; simp)
  · intro h v hv hbv
    rw [pair_bit, Bool.or_eq_true, decide_eq_true_eq, decide_eq_true_eq] at hbv
    rcases hbv with rfl | rfl
    · exact Int.le_refl _
    · exact h
theorem pair_lt (i j n : Nat) (hi : i < n) (hj : j < n) : 2 ^ i ||| 2 ^ j < 2 ^ n :=
  Nat.or_lt_two_pow (Nat.pow_lt_pow_right (by decide) hi) (Nat.pow_lt_pow_right (by decide) hj)
end Go.Proofs.Ytogifggjcdcodaa.L
namespace Go.Proofs.Ytogifggjcdcodaa.L
open Go.RowKit Go.Proofs.Ytogifggjcdcodaa.B Go.Proofs.Ytogifggjcdcodaa.P Go.Proofs.Ytogifggjcdcodaa.Hand Go.Proofs.YtogifggjcdcodaaW.PrintWords Go.Proofs.YtogifggjcdcodaaW.PrintLast Go.Proofs.YtogifggjcdcodaaW.PrintMore
set_option linter.unusedVariables false
set_option linter.unusedSimpArgs false
theorem TableOk_eq (t : Int) (l : List Int) : impl_TableOk.f t l = some (okTab t l) := rfl
end Go.Proofs.Ytogifggjcdcodaa.L
namespace Go.Proofs.Ytogifggjcdcodaa.L
open Go.RowKit Go.Proofs.Ytogifggjcdcodaa.B Go.Proofs.Ytogifggjcdcodaa.P Go.Proofs.Ytogifggjcdcodaa.Hand Go.Proofs.YtogifggjcdcodaaW.PrintWords Go.Proofs.YtogifggjcdcodaaW.PrintLast Go.Proofs.YtogifggjcdcodaaW.PrintMore
set_option linter.unusedVariables false
set_option linter.unusedSimpArgs false
theorem allW_pow {t : Int} (h : okT t = true) : (allW t).toNat + 1 = 2 ^ (nW t).toNat ∧ (nW t).toNat ≤ 8 ∧ 2 ≤ (nW t).toNat := by
  rcases okT_cases h with rfl | rfl | rfl <;> decide
theorem bit_step (q i : Nat) (P : Nat → Bool) (hi : i ≤ 8) (hP : P i = true) : wrap64 ((sumN i P : Nat) + shl .i64 1 (i : Int)) = ((sumN (i + 1) P : Nat) : Int) := by
  have hlt := sumN_lt i P
  have hp : 2 ^ i ≤ 2 ^ 8 := Nat.pow_le_pow_right (by decide) hi
  have s1 : shl .i64 1 (i : Int) = ((2 ^ i : Nat) : Int) := by
    have := shl_nat 1 i (by omega) (by omega)
    rw [Nat.one_mul] at this
    exact this
  have e : sumN (i + 1) P = sumN i P + 2 ^ i := by simp [sumN, hP]
  rw [s1, e]
  generalize 2 ^ i = m at *
  rw [w64 (by omega) (by omega)]; simp
theorem sl2_l1 (a : Nat) (l : List Int) (m : Int) (hl : l.length ≤ 8) : ∀ (d i k : Nat), i + d = l.length → d < k →
    spec_l2Least.l1 k l a m (sumN i (fun w => a.testBit w && (rd l (w : Int) == m)) : Nat) i = some ((sumN l.length (fun w => a.testBit w && (rd l (w : Int) == m)) : Nat) : Int) := by
  intro d
  induction d with
  | zero =>
    intro i k hi hk
    obtain ⟨q, rfl⟩ : ∃ q, k = q + 1 := ⟨k - 1, by omega⟩
    obtain rfl : i = l.length := by omega
    simp only [spec_l2Least.l1]
    rw [if_neg (by omega)]
  | succ d ih =>
    intro i k hi hk
    obtain ⟨q, rfl⟩ : ∃ q, k = q + 1 := ⟨k - 1, by omega⟩
    have ih1 := ih (i + 1) q (by omega) (by omega)
    simp only [spec_l2Least.l1]
    rw [if_pos (by omega), bit_nat a i (by omega), next64 i (by omega)]
    simp only [Option.bind_some]
    cases ht : a.testBit i with
    | true =>
      rw [if_pos rfl, if_pos (by omega)]
      by_cases hm : rd l (i : Int) = m
      · rw [if_pos hm, bit_step 0 i (fun w => a.testBit w && (rd l (w : Int) == m)) (by omega) (by simp [ht, hm])]
        exact ih1
      · rw [if_neg hm]
        rw [sumN_skip i _ (by simp [ht, hm])] at ih1
        exact ih1
    | false =>
      rw [if_neg (by simp)]
      rw [sumN_skip i _ (by simp [ht])] at ih1
      exact ih1
theorem sl2_l0 (a : Nat) (l : List Int) (hl : l.length ≤ 8) : ∀ (d i k : Nat), i + d = l.length → d + l.length + 1 < k →
    spec_l2Least.l0 k l a (leastN l a i) i = some (rev l (a : Int)) := by
  intro d
  induction d with
  | zero =>
    intro i k hi hk
    obtain ⟨q, rfl⟩ : ∃ q, k = q + 1 := ⟨k - 1, by omega⟩
    obtain rfl : i = l.length := by omega
    simp only [spec_l2Least.l0]
    rw [if_neg (by omega)]
    have h := sl2_l1 a l (least l a) hl l.length 0 q (by omega) (by omega)
    unfold rev bit
    rw [Int.toNat_natCast]
    exact h
  | succ d ih =>
    intro i k hi hk
    obtain ⟨q, rfl⟩ : ∃ q, k = q + 1 := ⟨k - 1, by omega⟩
    have hb : bit (a : Int) i = a.testBit i := by unfold bit; simp
    have ih1 := ih (i + 1) q (by omega) (by omega)
    simp only [leastN, hb] at ih1
    simp only [spec_l2Least.l0]
    rw [if_pos (by omega), bit_nat a i (by omega), next64 i (by omega)]
    simp only [Option.bind_some]
    cases ht : a.testBit i with
    | true => rw [ht, if_pos rfl] at ih1; rw [if_pos rfl, if_pos (by omega)]; exact ih1
    | false => rw [ht, if_neg (by simp)] at ih1; rw [if_neg (by simp)]; exact ih1
theorem sl2Least_eq (l : List Int) (s : Int) (k : Nat) (hl : l.length ≤ 8) (h0 : 0 ≤ s) (hk : 20 ≤ k) : spec_l2Least.f k l s = some (rev l s) := by
  obtain ⟨a, rfl⟩ := Int.eq_ofNat_of_zero_le h0
  exact sl2_l0 a l hl l.length 0 k (by omega) (by omega)
theorem rev_lt (l : List Int) (s : Int) (n : Nat) (hl : l.length ≤ n) : 0 ≤ rev l s ∧ rev l s < 2 ^ n := by
  unfold rev
  have h := sumN_lt l.length (fun w => bit s w && (rd l (w : Int) == least l s))
  have h2 : 2 ^ l.length ≤ 2 ^ n := Nat.pow_le_pow_right (by decide) hl
  refine ⟨by omega, ?_⟩
  have h3 : (sumN l.length (fun w => bit s w && (rd l (w : Int) == least l s))) < 2 ^ n := by omega
  exact_mod_cast h3
end Go.Proofs.Ytogifggjcdcodaa.L
namespace Go.Proofs.Ytogifggjcdcodaa.L
open Go.RowKit Go.Proofs.Ytogifggjcdcodaa.B Go.Proofs.Ytogifggjcdcodaa.P Go.Proofs.Ytogifggjcdcodaa.Hand Go.Proofs.YtogifggjcdcodaaW.PrintWords Go.Proofs.YtogifggjcdcodaaW.PrintLast Go.Proofs.YtogifggjcdcodaaW.PrintMore
set_option linter.unusedVariables false
set_option linter.unusedSimpArgs false
/-- A short row of small numbers. -/
def Few (l : List Int) : Prop := l.length ≤ 9 ∧ ∀ x ∈ l, -1 ≤ x ∧ x ≤ 20
theorem rd_few {l : List Int} {lo hi : Int} (h : ∀ x ∈ l, lo ≤ x ∧ x ≤ hi) (i : Nat) (hi' : i < l.length) : lo ≤ rd l (i : Int) ∧ rd l (i : Int) ≤ hi := h _ (rd_mem l i hi')
theorem rank_l1 (n : Nat) (hn : n ≤ 8) (b : List Int) (p : Int) : ∀ (d i : Nat) (x7 : List Int), i + d = n → x7.length = n → (∀ x ∈ x7, -1 ≤ x ∧ x ≤ 10 + (i : Int)) →
    ∃ l, Few l ∧ ∀ k, d < k → spec_l20Rank.l1 k x7 n i b p = some (l, p) := by
  intro d
  induction d with
  | zero =>
    intro i x7 hi h7 hx
    refine ⟨x7, ⟨by omega, fun x hx' => by have := hx x hx'; omega⟩, fun k hk => ?_⟩
    obtain ⟨m, rfl⟩ : ∃ m, k = m + 1 := ⟨k - 1, by omega⟩
    simp only [spec_l20Rank.l1]
    rw [if_neg (by omega)]
  | succ d ih =>
    intro i x7 hi h7 hx
    have hr := rd_few hx i (by omega)
    have ew : wrap64 (rd x7 (i : Int) + 1) = rd x7 (i : Int) + 1 := w64 (by omega) (by omega)
    obtain ⟨l, hl, hk2⟩ := ih (i + 1) (x7.set i (rd x7 (i : Int) + 1)) (by omega) (by simp [h7]) (fun x hx' => by
      rcases List.mem_or_eq_of_mem_set hx' with h | h
      · have := hx x h; omega
      · omega)
    refine ⟨l, hl, fun k hk => ?_⟩
    obtain ⟨m, rfl⟩ : ∃ m, k = m + 1 := ⟨k - 1, by omega⟩
    simp only [spec_l20Rank.l1]
    rw [if_pos (by omega), if_pos (by omega), if_pos (by omega), ew, next64 i (by omega), Int.toNat_natCast]
    exact hk2 m (by omega)
theorem rank_l0 {b : List Int} (hb : Rd b) (x2 x9 : Int) (n : Nat) (hn : 1 ≤ n) (hn2 : n ≤ 8) (h2 : 0 ≤ x2) (h22 : x2 ≤ 1000000) (h9 : 0 ≤ x9) (h92 : x9 < 3) : ∀ (d : Nat) (p : Int) (x7 : List Int), x7.length + d = n → 0 ≤ p → p ≤ 950000 - d → (∀ x ∈ x7, 0 ≤ x ∧ x ≤ 10) →
    ∃ l p', Few l ∧ p ≤ p' ∧ p' ≤ p + d + 5 ∧ ∀ k, d + 20 ≤ k → spec_l20Rank.l0 k x2 x7 n x9 x7.length b p = some (l, p') := by
  intro d
  induction d with
  | zero =>
    intro p x7 h7 hp hp2 hx
    obtain ⟨v, v0, v1, hv⟩ := pick_ok hb p (n : Int) hp (by omega) (by omega) (by omega)
    obtain ⟨o, p1, o1, o2, ho⟩ := odd_ok hb (p + 1) x2 (by omega) (by omega) h2 h22
    have hset : ∀ x ∈ x7.set v.toNat 0, 0 ≤ x ∧ x ≤ 10 := fun x hx' => by
      rcases List.mem_or_eq_of_mem_set hx' with h | h
      · exact hx x h
      · omega
    have hlen : (x7.set v.toNat 0).length = n := by rw [List.length_set]; omega
    have start : ∀ k, 20 ≤ k → spec_l20Rank.l0 k x2 x7 n x9 x7.length b p = (spec_l20Rd_odd.f (k - 1) b (p + 1) x2).bind fun bt202 => (if bt202.1 = true then ((spec_l20Rd_pick.f (k - 1) b bt202.2 3).bind fun bt204 => (if bt204.1 = 0 then (if (x7.set v.toNat 0).length < 17592186044416 then (some (((x7.set v.toNat 0) ++ [0]), bt204.2)) else (none)) else (if bt204.1 = 1 then (if 0 < (x7.length : Int) then (some (((x7.set v.toNat 0).set (0 : Int).toNat (-1)), bt204.2)) else (none)) else (spec_l20Rank.l1 (k - 1) (x7.set v.toNat 0) n 0 b bt204.2)))) else (some ((x7.set v.toNat 0), bt202.2))) := by
      intro k hk
      obtain ⟨m, rfl⟩ : ∃ m, k = m + 1 := ⟨k - 1, by omega⟩
      simp only [spec_l20Rank.l0]
      rw [if_neg (by omega), hv m (by omega)]
      simp only [Option.bind_some]
      rw [if_pos v0, if_pos (by omega)]
      rfl
    generalize x7.set v.toNat 0 = y at *
    cases o with
    | false =>
      refine ⟨y, p1, ⟨by omega, fun x hx' => by have := hset x hx'; omega⟩, by omega, by omega, fun k hk => ?_⟩
      rw [start k (by omega), ho (k - 1) (by omega)]; rfl
    | true =>
      obtain ⟨u, u0, u1, hu⟩ := pick_ok hb p1 3 (by omega) (by omega) (by omega) (by omega)
      rcases (show u = 0 ∨ u = 1 ∨ u = 2 by omega) with rfl | rfl | rfl
      · refine ⟨y ++ [0], p1 + 1, ⟨by rw [List.length_append]; simp; omega, fun x hx' => by
          rcases List.mem_append.1 hx' with h | h
          · have := hset x h; omega
          · simp at h; omega⟩, by omega, by omega, fun k hk => ?_⟩
        rw [start k (by omega), ho (k - 1) (by omega)]
        simp only [Option.bind_some, if_true]
        rw [hu (k - 1) (by omega)]
        simp only [Option.bind_some, if_true]
        rw [if_pos (by omega)]
      · refine ⟨y.set 0 (-1), p1 + 1, ⟨by rw [List.length_set]; omega, fun x hx' => by
          rcases List.mem_or_eq_of_mem_set hx' with h | h
          · have := hset x h; omega
          · omega⟩, by omega, by omega, fun k hk => ?_⟩
        rw [start k (by omega), ho (k - 1) (by omega)]
        simp only [Option.bind_some, if_true]
        rw [hu (k - 1) (by omega)]
        simp only [Option.bind_some]
        rw [if_neg (by omega), if_pos trivial, if_pos (by omega)]; rfl
      · obtain ⟨l, hl, hk2⟩ := rank_l1 n hn2 b (p1 + 1) n 0 y (by omega) hlen (fun x hx' => by have := hset x hx'; omega)
        refine ⟨l, p1 + 1, hl, by omega, by omega, fun k hk => ?_⟩
        rw [start k (by omega), ho (k - 1) (by omega)]
        simp only [Option.bind_some, if_true]
        rw [hu (k - 1) (by omega)]
        simp only [Option.bind_some]
        rw [if_neg (by omega), if_neg (by omega)]
        exact hk2 (k - 1) (by omega)
  | succ d ih =>
    intro p x7 h7 hp hp2 hx
    obtain ⟨w, w0, w1, hw⟩ : ∃ w : Int, rd [2, 4, 10] x9 = w ∧ 1 ≤ w ∧ w ≤ 10 := by
      rcases (show x9 = 0 ∨ x9 = 1 ∨ x9 = 2 by omega) with rfl | rfl | rfl <;> exact ⟨_, rfl, by decide, by decide⟩
    obtain ⟨v, v0, v1, hv⟩ := pick_ok hb p w hp (by omega) (by omega) (by omega)
    obtain ⟨l, p', hl, q1, q2, hk2⟩ := ih (p + 1) (x7 ++ [v]) (by rw [List.length_append]; simp; omega) (by omega) (by omega) (fun x hx' => by
      rcases List.mem_append.1 hx' with h | h
      · exact hx x h
      · simp at h; omega)
    refine ⟨l, p', hl, by omega, by omega, fun k hk => ?_⟩
    obtain ⟨m, rfl⟩ : ∃ m, k = m + 1 := ⟨k - 1, by omega⟩
    have e7 : (((x7 ++ [v]).length : Nat) : Int) = ((x7.length + 1 : Nat) : Int) := by simp
    have hk3 := hk2 m (by omega)
    rw [e7] at hk3
    simp only [spec_l20Rank.l0]
    rw [if_pos (by omega)]
    simp only [Option.bind_some]
    rw [if_pos h9, if_pos (by simp; omega), w0, hv m (by omega)]
    simp only [Option.bind_some]
    rw [if_pos (by omega), next64 x7.length (by omega)]
    exact hk3
theorem rank_ok {b : List Int} (hb : Rd b) (p t n : Int) (hp : 0 ≤ p) (hp2 : p ≤ 900000) (hn : 0 ≤ n) (hn2 : n ≤ 1000000) :
    ∃ l p', Few l ∧ p ≤ p' ∧ p' ≤ p + 20 ∧ ∀ k, 40 ≤ k → spec_l20Rank.f k b p t n = some (l, p') := by
  obtain ⟨m, hm, m1, m2⟩ : ∃ m : Nat, mx (nW t) 1 = (m : Int) ∧ 1 ≤ m ∧ m ≤ 8 := by
    cases h : okT t with
    | true => rcases okT_cases h with rfl | rfl | rfl <;> exact ⟨_, rfl, by decide, by decide⟩
    | false =>
      refine ⟨1, ?_, by omega, by omega⟩
      unfold nW; rw [h]; rfl
  obtain ⟨v, v0, v1, hv⟩ := pick_ok hb p 3 hp (by omega) (by omega) (by omega)
  obtain ⟨l, p', hl, q1, q2, hk2⟩ := rank_l0 hb n v m m1 m2 hn hn2 v0 v1 m (p + 1) [] (by simp) (by omega) (by omega) (fun x hx => by cases hx)
  refine ⟨l, p', hl, by omega, by omega, fun k hk => ?_⟩
  unfold spec_l20Rank.f
  rw [sWorldsOf_eq]
  simp only [Option.bind_some]
  rw [hv k (by omega), hm]
  simp only [Option.bind_some]
  exact hk2 k (by omega)
end Go.Proofs.Ytogifggjcdcodaa.L
namespace Go.Proofs.Ytogifggjcdcodaa.L
open Go.RowKit Go.Proofs.Ytogifggjcdcodaa.B Go.Proofs.Ytogifggjcdcodaa.P Go.Proofs.Ytogifggjcdcodaa.Hand Go.Proofs.YtogifggjcdcodaaW.PrintWords Go.Proofs.YtogifggjcdcodaaW.PrintLast Go.Proofs.YtogifggjcdcodaaW.PrintMore
set_option linter.unusedVariables false
set_option linter.unusedSimpArgs false
theorem okTab_cases' {t : Int} {l : List Int} (h : okTab t l = true) : okT t = true ∧ t ≤ 2 ∧ (l.length : Int) = allW t + 1 ∧ (∀ x ∈ l, 0 ≤ x ∧ x ≤ 255) ∧ 4 ≤ l.length ∧ l.length ≤ 16 := by
  unfold okTab at h
  simp only [Bool.and_eq_true, decide_eq_true_eq, List.all_eq_true] at h
  obtain ⟨⟨h1, h2⟩, h3, h4⟩ := h
  have hc : t = 1 ∨ t = 2 := by omega
  refine ⟨by unfold okT; simp; omega, h2, h3, fun x hx => ?_, ?_⟩
  · have := okS_cases (h4 x hx)
    omega
  · rcases hc with rfl | rfl
    · have : allW 1 = 3 := by decide
      omega
    · have : allW 2 = 15 := by decide
      omega
/-- FirstFault. -/
def fauE (t : Int) (l : List Int) : Int := if okTab t l = true then fault l else -1
theorem FirstFault_eq (t : Int) (l : List Int) (k : Nat) (hk : 70000 ≤ k) : impl_FirstFault.f k t l = some (fauE t l) := by
  unfold impl_FirstFault.f fauE
  rw [show impl_isTable.f t l = some (okTab t l) from rfl]
  simp only [Option.bind_some]
  cases h : okTab t l with
  | false => simp
  | true =>
    obtain ⟨h1, h2, h3, h4, h5, h6⟩ := okTab_cases' h
    rw [if_pos rfl, firstFault_eq l k (by omega) h4 hk]
    simp
end Go.Proofs.Ytogifggjcdcodaa.L
namespace Go.Proofs.Ytogifggjcdcodaa.L
open Go.RowKit Go.Proofs.Ytogifggjcdcodaa.B Go.Proofs.Ytogifggjcdcodaa.P Go.Proofs.Ytogifggjcdcodaa.Hand Go.Proofs.YtogifggjcdcodaaW.PrintWords Go.Proofs.YtogifggjcdcodaaW.PrintLast Go.Proofs.YtogifggjcdcodaaW.PrintMore
set_option linter.unusedVariables false
set_option linter.unusedSimpArgs false
/-- A world is in a revision just if it comes and none that comes has a lesser rank. -/
theorem revN_iff (l : List Int) (h9 : ∀ y ∈ l, y ≤ 9) (s w : Nat) : (rev l (s : Int)).toNat.testBit w = true ↔
    w < l.length ∧ s.testBit w = true ∧ ∀ v : Nat, v < l.length → s.testBit v = true → rd l (w : Int) ≤ rd l (v : Int) := by
  have hb : ∀ v, bit (s : Int) v = s.testBit v := fun v => by unfold bit; simp
  have h := rev_bit l (s : Int) w
  rw [show bit (rev l (s : Int)) w = (rev l (s : Int)).toNat.testBit w from rfl, hb] at h
  rw [h]
  constructor
  · intro h1
    rw [Bool.and_eq_true, Bool.and_eq_true, decide_eq_true_eq] at h1
    obtain ⟨h1, h2, h3⟩ := h1
    refine ⟨h1, h2, fun v hv hbv => (least_iff l s h9 w h1 (by rw [hb]; exact h2)).1 h3 v hv (by rw [hb]; exact hbv)⟩
  · rintro ⟨h1, h2, h3⟩
    rw [decide_eq_true h1, h2, Bool.true_and, Bool.true_and]
    exact (least_iff l s h9 w h1 (by rw [hb]; exact h2)).2 fun v hv hbv => h3 v hv (by rw [← hb]; exact hbv)
theorem revN_sub (l : List Int) (h9 : ∀ y ∈ l, y ≤ 9) (s : Nat) : (rev l (s : Int)).toNat &&& s = (rev l (s : Int)).toNat := by
  apply Nat.eq_of_testBit_eq
  intro i
  rw [Nat.testBit_and]
  cases h : (rev l (s : Int)).toNat.testBit i with
  | false => rfl
  | true => rw [((revN_iff l h9 s i).1 h).2.1]; rfl
theorem exists_bit {s : Nat} (h : s ≠ 0) : ∃ i, s.testBit i = true := Nat.exists_testBit_of_ne_zero h
/-- A least one among the worlds that come. -/
theorem least_of (l : List Int) (s : Nat) : ∀ n : Nat, n ≤ l.length → (∃ v, v < n ∧ s.testBit v = true) → ∃ v, v < n ∧ s.testBit v = true ∧ ∀ u : Nat, u < n → s.testBit u = true → rd l (v : Int) ≤ rd l (u : Int)
  | 0, _, ⟨v, hv, _⟩ => absurd hv (by omega)
  | n + 1, hn, ⟨v, hv, hs⟩ => by
    by_cases h : ∃ v, v < n ∧ s.testBit v = true
    · obtain ⟨a, ha, hb, hc⟩ := least_of l s n (by omega) h
      by_cases hx : s.testBit n = true ∧ rd l (n : Int) < rd l (a : Int)
      · refine ⟨n, by omega, hx.1, fun u hu hsu => ?_⟩
        rcases Nat.lt_succ_iff_lt_or_eq.1 hu with h1 | h1
        · have := hc u h1 hsu; omega
        · rw [h1]; exact Int.le_refl _
      · refine ⟨a, by omega, hb, fun u hu hsu => ?_⟩
        rcases Nat.lt_succ_iff_lt_or_eq.1 hu with h1 | h1
        · exact hc u h1 hsu
        · rw [h1] at hsu ⊢
          by_cases h2 : rd l (n : Int) < rd l (a : Int)
          · exact absurd ⟨hsu, h2⟩ hx
          · omega
    · have hvn : v = n := by
        rcases Nat.lt_succ_iff_lt_or_eq.1 hv with h1 | h1
        · exact absurd ⟨v, h1, hs⟩ h
        · exact h1
      refine ⟨v, hv, hs, fun u hu hsu => ?_⟩
      rcases Nat.lt_succ_iff_lt_or_eq.1 hu with h1 | h1
      · exact absurd ⟨u, h1, hsu⟩ h
      · rw [h1, hvn]; exact Int.le_refl _
theorem revN_pos (l : List Int) (h9 : ∀ y ∈ l, y ≤ 9) (s : Nat) (hs : s ≠ 0) (hl : s < 2 ^ l.length) : (rev l (s : Int)).toNat ≠ 0 := by
  obtain ⟨i, hi⟩ := exists_bit hs
  have hil : i < l.length := by
    by_cases h : i < l.length
    · exact h
    · have := Nat.testBit_lt_two_pow (Nat.lt_of_lt_of_le hl (Nat.pow_le_pow_right (n := 2) (by decide) (show l.length ≤ i by omega)))
      rw [this] at hi; cases hi
  obtain ⟨v, hv, hb, hc⟩ := least_of l s l.length (Nat.le_refl _) ⟨i, hil, hi⟩
  have := (revN_iff l h9 s v).2 ⟨hv, hb, hc⟩
  intro h0
  rw [h0, Nat.zero_testBit] at this
  cases this
theorem revN_meet (l : List Int) (h9 : ∀ y ∈ l, y ≤ 9) (a b : Nat) (h : (rev l (a : Int)).toNat &&& b ≠ 0) : (rev l (a : Int)).toNat &&& b = (rev l ((a &&& b : Nat) : Int)).toNat := by
  obtain ⟨u, hu⟩ := exists_bit h
  rw [Nat.testBit_and, Bool.and_eq_true] at hu
  obtain ⟨u1, u2, u3⟩ := (revN_iff l h9 a u).1 hu.1
  apply Nat.eq_of_testBit_eq
  intro w
  rw [Nat.testBit_and, Bool.eq_iff_iff, Bool.and_eq_true, revN_iff l h9 a w, revN_iff l h9 (a &&& b) w]
  constructor
  · rintro ⟨⟨h1, h2, h3⟩, h4⟩
    refine ⟨h1, by rw [Nat.testBit_and, h2, h4]; rfl, fun v hv hbv => h3 v hv ?_⟩
    rw [Nat.testBit_and, Bool.and_eq_true] at hbv
    exact hbv.1
  · rintro ⟨h1, h2, h3⟩
    rw [Nat.testBit_and, Bool.and_eq_true] at h2
    refine ⟨⟨h1, h2.1, fun v hv hbv => ?_⟩, h2.2⟩
    have := h3 u u1 (by rw [Nat.testBit_and, u2, hu.2]; rfl)
    have := u3 v hv hbv
    omega
theorem fromTab_len (t : Int) (l : List Int) : (fromTab t l).length = (allW t).toNat + 1 := by unfold fromTab; simp
theorem fromTab_rd (t : Int) (l : List Int) (s : Nat) (h : s < (allW t).toNat + 1) : rd (fromTab t l) (s : Int) = rev l (s : Int) := by
  unfold rd fromTab
  rw [Int.toNat_natCast, List.getD_eq_getElem?_getD, List.getElem?_map, List.getElem?_range h]; rfl
theorem fromTab_ent (t : Int) (l : List Int) (s : Nat) (h : s < (allW t).toNat + 1) : ent (fromTab t l) s = (rev l (s : Int)).toNat := by
  unfold ent; rw [fromTab_rd t l s h]
theorem okTab_from {t : Int} {l : List Int} (hr : okR t l = true) (h2 : t ≤ 2) : okTab t (fromTab t l) = true := by
  obtain ⟨g1, g2, g3, g4, g5, g6⟩ := okR_cases hr
  have hA := allW_range g1
  obtain ⟨p1, p2, p3⟩ := allW_pow g1
  have h1 : 1 ≤ t := by rcases okT_cases g1 with rfl | rfl | rfl <;> decide
  unfold okTab
  rw [decide_eq_true h1, decide_eq_true h2, decide_eq_true (by rw [fromTab_len]; omega), Bool.true_and, Bool.true_and, Bool.true_and, List.all_eq_true]
  intro x hx
  unfold fromTab at hx
  obtain ⟨s, hs, rfl⟩ := List.mem_map.1 hx
  have hlt := rev_lt l (s : Int) (nW t).toNat (by omega)
  have e : ((2 : Int) ^ (nW t).toNat) = ((2 ^ (nW t).toNat : Nat) : Int) := by simp
  rw [e, ← p1] at hlt
  unfold okS
  rw [g1]
  simp
  omega
theorem fault_from {t : Int} {l : List Int} (hr : okR t l = true) : fault (fromTab t l) = 0 := by
  obtain ⟨g1, g2, g3, g4, g5, g6⟩ := okR_cases hr
  have h9 : ∀ y ∈ l, y ≤ 9 := fun y hy => (g3 y hy).2
  obtain ⟨p1, p2, p3⟩ := allW_pow g1
  have hn : l.length = (nW t).toNat := by omega
  unfold fault
  have f1 : fault1 (fromTab t l) = true := by
    unfold fault1
    rw [fromTab_len, List.all_eq_true]
    intro s hs
    rw [fromTab_ent t l s (List.mem_range.1 hs), beq_iff_eq]
    exact revN_sub l h9 s
  have f2 : fault2 (fromTab t l) = true := by
    unfold fault2
    rw [fromTab_len, List.all_eq_true]
    intro s hs
    have hs := List.mem_range.1 hs
    rw [fromTab_ent t l s hs]
    by_cases h0 : s = 0
    · simp [h0]
    · have := revN_pos l h9 s h0 (by rw [hn, ← p1]; exact hs)
      simp only [Bool.or_eq_true, beq_iff_eq, Bool.not_eq_true', beq_eq_false_iff_ne]
      exact .inr this
  have f3 : fault3 (fromTab t l) = true := by
    unfold fault3
    rw [fromTab_len, List.all_eq_true]
    intro a ha
    have ha := List.mem_range.1 ha
    rw [List.all_eq_true]
    intro b hb
    have hab : a &&& b ≤ a := Nat.and_le_left
    unfold fault3At
    rw [fromTab_ent t l a ha, fromTab_ent t l (a &&& b) (by omega)]
    by_cases h0 : (rev l (a : Int)).toNat &&& b = 0
    · simp [h0]
    · rw [revN_meet l h9 a b h0]; simp
  rw [if_pos f1, if_pos f2, if_pos f3]
theorem befB_from {t : Int} {l : List Int} (hr : okR t l = true) (v w : Nat) (hv : v < l.length) (hw : w < l.length) : befB (fromTab t l) v w = decide (rd l (v : Int) ≤ rd l (w : Int)) := by
  obtain ⟨g1, g2, g3, g4, g5, g6⟩ := okR_cases hr
  obtain ⟨p1, p2, p3⟩ := allW_pow g1
  have hn : l.length = (nW t).toNat := by omega
  have hlt := pair_lt v w l.length hv hw
  unfold befB
  rw [fromTab_ent t l _ (by rw [p1, ← hn]; exact hlt)]
  have h := rev_pair l v w hv hw (fun y hy => (g3 y hy).2)
  rw [Bool.eq_iff_iff, decide_eq_true_eq]
  exact h
theorem firstB_from {t : Int} {l : List Int} (hr : okR t l = true) (v : Nat) (hv : v < l.length) : ∀ x, x ≤ v → Hand.firstB (fromTab t l) v x = (List.range x).all (fun u => decide (rd l (u : Int) ≠ rd l (v : Int)))
  | 0, _ => rfl
  | x + 1, hx => by
    simp only [Hand.firstB]
    rw [firstB_from hr v hv x (by omega), befB_from hr x v (by omega) hv, befB_from hr v x hv (by omega), List.range_succ, List.all_append]
    congr 1
    simp only [List.all_cons, List.all_nil, Bool.and_true]
    rw [Bool.eq_iff_iff]
    simp only [Bool.not_eq_true', Bool.and_eq_false_imp, decide_eq_true_eq, decide_eq_false_iff_not]
    omega
theorem lotsN_from {t : Int} {l : List Int} (hr : okR t l = true) (w : Nat) (hw : w < l.length) : ∀ n, n ≤ l.length → lotsN (fromTab t l) w n = (List.range n).countP (L.firstB l (rd l (w : Int)))
  | 0, _ => rfl
  | v + 1, hv => by
    simp only [lotsN]
    rw [lotsN_from hr w hw v (by omega), List.range_succ, List.countP_append, firstB_from hr v (by omega) v (Nat.le_refl _), befB_from hr v w (by omega) hw, befB_from hr w v hw (by omega)]
    congr 1
    simp only [List.countP_cons, List.countP_nil, Nat.zero_add]
    have : ((List.range v).all (fun u => decide (rd l (u : Int) ≠ rd l (v : Int))) && (decide (rd l (v : Int) ≤ rd l (w : Int)) && !decide (rd l (w : Int) ≤ rd l (v : Int)))) = L.firstB l (rd l (w : Int)) v := by
      unfold L.firstB
      rw [Bool.and_comm]
      congr 1
      rw [Bool.eq_iff_iff]
      simp only [Bool.and_eq_true, Bool.not_eq_true', decide_eq_true_eq, decide_eq_false_iff_not]
      omega
    rw [this]
theorem ranks_from {t : Int} {l : List Int} (hr : okR t l = true) : fromRanks (fromTab t l) (nW t).toNat = tidyL l := by
  obtain ⟨g1, g2, g3, g4, g5, g6⟩ := okR_cases hr
  have hn : (nW t).toNat = l.length := by omega
  rw [hn]
  apply List.ext_getElem?
  intro i
  unfold fromRanks
  by_cases hi : i < l.length
  · rw [List.getElem?_map, List.getElem?_range hi, rd_get (tidyL l) i (by rw [tidyL_length]; exact hi), tidyL_rd l i hi]
    simp only [Option.map_some]
    have h0 := g3 _ (rd_mem l i hi)
    obtain ⟨x, hx⟩ := Int.eq_ofNat_of_zero_le h0.1
    rw [lotsN_from hr i hi l.length (Nat.le_refl _), hx, Int.toNat_natCast, cnt_lots l x (fun y hy => (g3 y hy).1)]
  · rw [List.getElem?_eq_none (by simp; omega), List.getElem?_eq_none (by rw [tidyL_length]; omega)]
theorem sTab_l0 (t : Int) (l : List Int) (ht : t ≤ 2) (hr : okR t l = true) : ∀ (d i k : Nat), i + d = (allW t).toNat + 1 → d + 40 ≤ k →
    spec_TableFrom.l0 k t l ((List.range i).map fun s : Nat => rev l (s : Int)) i = some (fromTab t l) := by
  obtain ⟨g1, g2, g3, g4, g5, g6⟩ := okR_cases hr
  have hA := allW_range g1
  have hin : (decide (1 ≤ t) && decide (t ≤ 2)) = true := by rcases okT_cases g1 with rfl | rfl | rfl <;> simp; omega
  intro d
  induction d with
  | zero =>
    intro i k hi hk
    obtain ⟨m, rfl⟩ : ∃ m, k = m + 1 := ⟨k - 1, by omega⟩
    simp only [spec_TableFrom.l0]
    rw [l1In_eq, hin]
    simp only [Option.bind_some, if_true]
    rw [sRankOk_eq t l m (by omega) (by omega), hr]
    simp only [Option.bind_some, if_true]
    rw [l1All_eq t g1]
    simp only [Option.bind_some]
    rw [if_neg (by omega)]
    unfold fromTab
    rw [show i = (allW t).toNat + 1 by omega]
  | succ d ih =>
    intro i k hi hk
    obtain ⟨m, rfl⟩ : ∃ m, k = m + 1 := ⟨k - 1, by omega⟩
    have ih1 := ih (i + 1) m (by omega) (by omega)
    rw [range_snocN i] at ih1
    simp only [spec_TableFrom.l0]
    rw [l1In_eq, hin]
    simp only [Option.bind_some, if_true]
    rw [sRankOk_eq t l m (by omega) (by omega), hr]
    simp only [Option.bind_some, if_true]
    rw [l1All_eq t g1]
    simp only [Option.bind_some]
    rw [if_pos (by omega), sl2Least_eq l (i : Int) m g6 (by omega) (by omega)]
    simp only [Option.bind_some]
    rw [if_pos (by simp; omega), next64 i (by omega)]
    exact ih1
theorem sTableFrom_eq (t : Int) (l : List Int) (k : Nat) (hl : l.length ≤ 2000000) (hk : l.length + 400 ≤ k) : spec_TableFrom.f k t l = some (if t ≤ 2 ∧ okR t l = true then fromTab t l else []) := by
  unfold spec_TableFrom.f
  by_cases h : t ≤ 2 ∧ okR t l = true
  · rw [if_pos h]
    obtain ⟨g1, g2, g3, g4, g5, g6⟩ := okR_cases h.2
    have hA := allW_range g1
    exact sTab_l0 t l h.1 h.2 ((allW t).toNat + 1) 0 k (by omega) (by omega)
  · rw [if_neg h]
    obtain ⟨m, rfl⟩ : ∃ m, k = m + 1 := ⟨k - 1, by omega⟩
    simp only [spec_TableFrom.l0]
    rw [l1In_eq]
    simp only [Option.bind_some]
    cases hin : (decide (1 ≤ t) && decide (t ≤ 2)) with
    | false => simp
    | true =>
      rw [if_pos rfl, sRankOk_eq t l m hl (by omega)]
      simp only [Option.bind_some]
      cases hr : okR t l with
      | false => simp
      | true =>
        simp at hin
        exact absurd ⟨hin.2, hr⟩ h
end Go.Proofs.Ytogifggjcdcodaa.L
namespace Go.Proofs.Ytogifggjcdcodaa.L
open Go.RowKit Go.Proofs.Ytogifggjcdcodaa.B Go.Proofs.Ytogifggjcdcodaa.P Go.Proofs.Ytogifggjcdcodaa.Hand Go.Proofs.YtogifggjcdcodaaW.PrintWords Go.Proofs.YtogifggjcdcodaaW.PrintLast Go.Proofs.YtogifggjcdcodaaW.PrintMore
set_option linter.unusedVariables false
set_option linter.unusedSimpArgs false
theorem okR_cases' {t : Int} {l : List Int} (h : okR t l = true) : okT t = true ∧ (l.length : Int) = nW t ∧ (∀ y ∈ l, 0 ≤ y ∧ y ≤ 9) ∧ (0 : Int) ∈ l ∧ 2 ≤ l.length ∧ l.length ≤ 8 := by
  unfold okR at h
  simp only [Bool.and_eq_true, decide_eq_true_eq, List.all_eq_true, List.any_eq_true, beq_iff_eq] at h
  obtain ⟨h1, h2, h3, x, hx, rfl⟩ := h
  have := nW_pos h1
  exact ⟨h1, h2, h3, hx, by omega, by omega⟩
theorem tidy_take (l : List Int) (i : Nat) (h : i < l.length) : (tidyL l).take (i + 1) = (tidyL l).take i ++ [(cnt l (rd l (i : Int)).toNat : Int)] := by
  rw [take_snoc (tidyL l) i (by rw [tidyL_length]; exact h), tidyL_rd l i h]
def idxI (x : Int) : List Int → Nat → Int
  | [], _ => -1
  | y :: ys, i => if x = y then (i : Int) else idxI x ys (i + 1)
theorem Index_l0 (l : List Int) (x : Int) (hl : l.length ≤ 2000000) : ∀ (d i k : Nat), i + d = l.length → d < k → slices_Index_int_int.l0 k l x (l.length : Int) i = some (idxI x (l.drop i) i) := by
  intro d
  induction d with
  | zero =>
    intro i k hi hk
    obtain ⟨m, rfl⟩ : ∃ m, k = m + 1 := ⟨k - 1, by omega⟩
    simp only [slices_Index_int_int.l0]
    rw [if_neg (by omega), List.drop_eq_nil_of_le (by omega)]; rfl
  | succ d ih =>
    intro i k hi hk
    obtain ⟨m, rfl⟩ : ∃ m, k = m + 1 := ⟨k - 1, by omega⟩
    simp only [slices_Index_int_int.l0]
    rw [if_pos (by omega), if_pos (by omega), if_pos (by omega), next64 i (by omega), drop_cons l i (by omega)]
    simp only [idxI]
    by_cases h : x = rd l (i : Int)
    · rw [if_pos h, if_pos h]
    · rw [if_neg h, if_neg h]
      exact ih (i + 1) m (by omega) (by omega)
theorem idxI_asc (x : Int) : ∀ (l : List Int) (i : Nat), l.Pairwise (· < ·) → x ∈ l → idxI x l i = ((i + l.countP (fun y => decide (y < x)) : Nat) : Int)
  | [], i, _, hx => by cases hx
  | y :: ys, i, hp, hx => by
    obtain ⟨h1, h2⟩ := List.pairwise_cons.1 hp
    simp only [idxI]
    by_cases e : x = y
    · subst e
      rw [if_pos rfl, List.countP_cons_of_neg (by simp), List.countP_eq_zero.2 (fun z hz => by have := h1 z hz; simp; omega)]
      simp
    · rw [if_neg e]
      have hx2 : x ∈ ys := by
        rcases List.mem_cons.1 hx with h | h
        · exact absurd h e
        · exact h
      rw [idxI_asc x ys (i + 1) h2 hx2, List.countP_cons_of_pos (by simpa using h1 x hx2)]
      omega
theorem below_succ (x : Int) : ∀ (l : List Int), l.Pairwise (· < ·) → l.countP (fun y => decide (y < x + 1)) = l.countP (fun y => decide (y < x)) + if l.any (fun y => y == x) = true then 1 else 0
  | [], _ => by simp
  | y :: ys, hp => by
    obtain ⟨h1, h2⟩ := List.pairwise_cons.1 hp
    rcases Int.lt_trichotomy y x with h | h | h
    · rw [List.countP_cons_of_pos (by simp; omega), List.countP_cons_of_pos (by simpa using h), below_succ x ys h2, List.any_cons]
      have : (y == x) = false := by simp; omega
      rw [this, Bool.false_or]
      omega
    · subst h
      rw [List.countP_cons_of_pos (by simp; omega), List.countP_cons_of_neg (by simp), List.countP_eq_zero.2 (fun z hz => by have := h1 z hz; simp; omega), List.countP_eq_zero.2 (fun z hz => by have := h1 z hz; simp; omega)]
      simp
    · rw [List.countP_cons_of_neg (by simp; omega), List.countP_cons_of_neg (by simp; omega), List.countP_eq_zero.2 (fun z hz => by have := h1 z hz; simp; omega), List.countP_eq_zero.2 (fun z hz => by have := h1 z hz; simp; omega)]
      have : ((y :: ys).any fun z => z == x) = false := by
        rw [List.any_eq_false]
        intro z hz
        rcases List.mem_cons.1 hz with rfl | hz
        · simp; omega
        · have := h1 z hz; simp; omega
      rw [this]; simp
theorem below_cnt (lv l : List Int) (hp : lv.Pairwise (· < ·)) (h0 : ∀ y ∈ lv, 0 ≤ y) (hm : ∀ y, y ∈ lv ↔ y ∈ l) : ∀ x : Nat, lv.countP (fun y => decide (y < (x : Int))) = cnt l x
  | 0 => by
    rw [List.countP_eq_zero.2 (fun z hz => by have := h0 z hz; simp; omega)]; rfl
  | x + 1 => by
    have e : ((x + 1 : Nat) : Int) = (x : Int) + 1 := by simp
    rw [e, below_succ _ lv hp, below_cnt lv l hp h0 hm x, cnt_succ]
    have ha : lv.any (fun y => y == (x : Int)) = l.any (fun y => y == (x : Int)) := by
      rw [Bool.eq_iff_iff, List.any_eq_true, List.any_eq_true]
      exact ⟨fun ⟨z, hz, e⟩ => ⟨z, (hm z).1 hz, e⟩, fun ⟨z, hz, e⟩ => ⟨z, (hm z).2 hz, e⟩⟩
    rw [ha]
theorem comp_spec (d : Array Int) (hs : ∀ i j, i ≤ j → j < d.size → d[i]! ≤ d[j]!) : ∀ m, m ≤ d.size →
    (Lib.compactUpTo d m).Pairwise (· < ·) ∧ ∀ x, x ∈ Lib.compactUpTo d m ↔ ∃ j, j < m ∧ d[j]! = x
  | 0, _ => by
    refine ⟨by simp [Lib.compactUpTo], fun x => ?_⟩
    simp [Lib.compactUpTo]
  | m + 1, hm => by
    obtain ⟨h1, h2⟩ := comp_spec d hs m (by omega)
    rw [Lib.compactUpTo_succ]
    by_cases hk : Lib.keeps d m = true
    · rw [if_pos hk]
      refine ⟨?_, fun x => ?_⟩
      · rw [List.pairwise_append]
        refine ⟨h1, List.pairwise_singleton _ _, fun x hx y hy => ?_⟩
        rw [List.mem_singleton] at hy
        subst hy
        obtain ⟨j, hj, rfl⟩ := (h2 x).1 hx
        unfold Lib.keeps at hk
        have hk := of_decide_eq_true hk
        have hne : d[m]! ≠ d[m - 1]! := by
          rcases hk with h | h
          · omega
          · exact h
        have a := hs j (m - 1) (by omega) (by omega)
        have b := hs (m - 1) m (by omega) (by omega)
        omega
      · rw [List.mem_append, h2, List.mem_singleton]
        constructor
        · rintro (⟨j, hj, e⟩ | e)
          · exact ⟨j, by omega, e⟩
          · exact ⟨m, by omega, e.symm⟩
        · rintro ⟨j, hj, e⟩
          rcases Nat.lt_or_ge j m with h | h
          · exact .inl ⟨j, h, e⟩
          · obtain rfl : j = m := by omega
            exact .inr e.symm
    · rw [if_neg hk, List.append_nil]
      refine ⟨h1, fun x => ?_⟩
      have hk2 : ¬ (m = 0 ∨ d[m]! ≠ d[m - 1]!) := fun h => hk (by unfold Lib.keeps; exact decide_eq_true h)
      have hm0 : m ≠ 0 := fun h => hk2 (.inl h)
      have he : d[m]! = d[m - 1]! := Classical.byContradiction fun h => hk2 (.inr h)
      rw [h2]
      constructor
      · rintro ⟨j, hj, e⟩; exact ⟨j, by omega, e⟩
      · rintro ⟨j, hj, e⟩
        rcases Nat.lt_or_ge j m with h | h
        · exact ⟨j, h, e⟩
        · obtain rfl : j = m := by omega
          exact ⟨j - 1, by omega, by rw [← he]; exact e⟩
theorem levels_spec (l : List Int) : (Lib.compact (l.mergeSort fun x y => decide (x ≤ y))).Pairwise (· < ·) ∧ ∀ x, x ∈ Lib.compact (l.mergeSort fun x y => decide (x ≤ y)) ↔ x ∈ l := by
  have hp : (l.mergeSort fun x y => decide (x ≤ y)).Pairwise (fun a b => (decide (a ≤ b)) = true) :=
    List.pairwise_mergeSort (fun a b c h1 h2 => by simp only [decide_eq_true_eq] at *; omega) (fun a b => by simp only [Bool.or_eq_true, decide_eq_true_eq]; omega) l
  generalize hz : (l.mergeSort fun x y => decide (x ≤ y)) = zs at hp
  have hmem : ∀ x, x ∈ zs ↔ x ∈ l := fun x => by rw [← hz]; exact List.mem_mergeSort
  have hs : ∀ i j, i ≤ j → j < zs.toArray.size → zs.toArray[i]! ≤ zs.toArray[j]! := by
    intro i j hij hj
    have hj' : j < zs.length := by simpa using hj
    rcases Nat.lt_or_ge i j with h | h
    · have := List.pairwise_iff_getElem.1 hp i j (by omega) hj' h
      simp only [decide_eq_true_eq] at this
      rw [getElem!_pos zs.toArray i (by simp; omega), getElem!_pos zs.toArray j hj]
      simpa using this
    · obtain rfl : i = j := by omega
      exact Int.le_refl _
  obtain ⟨h1, h2⟩ := comp_spec zs.toArray hs zs.length (by simp)
  refine ⟨h1, fun x => ?_⟩
  rw [← hmem x]
  show x ∈ Lib.compactUpTo zs.toArray zs.length ↔ _
  rw [h2]
  constructor
  · rintro ⟨j, hj, rfl⟩
    rw [getElem!_pos zs.toArray j (by simpa using hj)]
    simp
  · intro hx
    obtain ⟨j, hj, e⟩ := List.mem_iff_getElem.1 hx
    exact ⟨j, hj, by rw [getElem!_pos zs.toArray j (by simpa using hj)]; simpa using e⟩
theorem Index_eq (l lv : List Int) (x : Int) (k : Nat) (hp : lv.Pairwise (· < ·)) (hm : ∀ y, y ∈ lv ↔ y ∈ l) (h0 : ∀ y ∈ l, 0 ≤ y) (hx : x ∈ l) (hl : lv.length ≤ 2000000) (hk : lv.length < k) :
    slices_Index_int_int.f k lv x = some (cnt l x.toNat : Int) := by
  have h := Index_l0 lv x hl lv.length 0 k (by omega) hk
  rw [List.drop_zero, idxI_asc x lv 0 hp ((hm x).2 hx)] at h
  have hc := below_cnt lv l hp (fun y hy => h0 y ((hm y).1 hy)) hm x.toNat
  have hx0 := h0 x hx
  rw [Int.toNat_of_nonneg hx0] at hc
  rw [hc, Nat.zero_add] at h
  exact h
theorem tidy_l0 (l lv : List Int) (hp : lv.Pairwise (· < ·)) (hm : ∀ y, y ∈ lv ↔ y ∈ l) (h0 : ∀ y ∈ l, 0 ≤ y) (hl : l.length ≤ 1000) (hv : lv.length ≤ 1000) : ∀ (d i k : Nat), i + d = l.length → d + lv.length + 2 ≤ k →
    impl_tidy.l0 k lv ((tidyL l).take i) l (l.length : Int) i = some (tidyL l) := by
  intro d
  induction d with
  | zero =>
    intro i k hi hk
    obtain ⟨m, rfl⟩ : ∃ m, k = m + 1 := ⟨k - 1, by omega⟩
    simp only [impl_tidy.l0]
    rw [if_neg (by omega), List.take_of_length_le (by rw [tidyL_length]; omega)]
  | succ d ih =>
    intro i k hi hk
    obtain ⟨m, rfl⟩ : ∃ m, k = m + 1 := ⟨k - 1, by omega⟩
    simp only [impl_tidy.l0]
    rw [if_pos (by omega), if_pos (by omega), if_pos (by omega), Index_eq l lv _ m hp hm h0 (rd_mem l i (by omega)) (by omega) (by omega)]
    simp only [Option.bind_some]
    have := List.length_take_le i (tidyL l)
    rw [if_pos (by omega), next64 i (by omega), ← tidy_take l i (by omega)]
    exact ih (i + 1) m (by omega) (by omega)
theorem tidy_eq (l : List Int) (k : Nat) (h0 : ∀ y ∈ l, 0 ≤ y) (hl : l.length ≤ 500) (hk : 2 * l.length + 10 ≤ k) : impl_tidy.f k l = some (tidyL l) := by
  obtain ⟨hp, hm⟩ := levels_spec l
  have hsl : (l.mergeSort fun x y => decide (x ≤ y)).length = l.length := by simp
  have hcl := compact_len (l.mergeSort fun x y => decide (x ≤ y))
  unfold impl_tidy.f
  simp only [Option.bind_some, List.nil_append]
  rw [if_pos (by simp; omega)]
  unfold slices_Sort_int_int.f
  rw [if_pos (by omega)]
  simp only [Option.bind_some]
  unfold slices_Compact_int_int.f
  rw [if_pos (by omega)]
  simp only [Option.bind_some]
  exact tidy_l0 l _ hp hm h0 (by omega) (by omega) l.length 0 k (by omega) (by omega)
theorem TidyRank_eq (t : Int) (l : List Int) (k : Nat) (hk : 50 ≤ k) : impl_TidyRank.f k t l = some (if okR t l = true then tidyL l else []) := by
  unfold impl_TidyRank.f
  rw [isRank_eq t l k (by omega)]
  simp only [Option.bind_some]
  cases hr : okR t l with
  | false => simp
  | true =>
    obtain ⟨h1, h2, h3, h4, h5, h6⟩ := okR_cases' hr
    rw [if_pos rfl, if_pos rfl, tidy_eq l k (fun y hy => (h3 y hy).1) (by omega) (by omega)]
    rfl
end Go.Proofs.Ytogifggjcdcodaa.L
namespace Go.Proofs.Ytogifggjcdcodaa.Pure
open Go.RowKit Go.Proofs.Ytogifggjcdcodaa.B Go.Proofs.Ytogifggjcdcodaa.P Go.Proofs.Ytogifggjcdcodaa.Hand Go.Proofs.Ytogifggjcdcodaa.L Go.Proofs.YtogifggjcdcodaaW.PrintWords Go.Proofs.YtogifggjcdcodaaW.PrintLast Go.Proofs.YtogifggjcdcodaaW.PrintMore
set_option linter.unusedVariables false
set_option linter.unusedSimpArgs false
theorem few_things (v u : Int) (v0 : 0 ≤ v) (v1 : v < 2) (u0 : 0 ≤ u) (u1 : u < 20) : ∃ t : Int, wrap64 (wrap64 (1 + v) + wrap64 (Int.tdiv u 19)) = t ∧ 1 ≤ t ∧ t ≤ 3 := by
  have h0 : 0 ≤ Int.tdiv u 19 := Int.tdiv_nonneg u0 (by decide)
  have h1 : Int.tdiv u 19 ≤ 1 := by
    rw [Int.tdiv_eq_ediv_of_nonneg u0]; omega
  rw [w64 (n := 1 + v) (by omega) (by omega), w64 (n := Int.tdiv u 19) (by omega) (by omega), w64 (by omega) (by omega)]
  exact ⟨_, rfl, by omega, by omega⟩
theorem draw_ok (l0 : List Int) (hb : ∀ x ∈ l0, (Lit.int .u8 x).wf = true) : ∃ (t : Int) (l : List Int), 1 ≤ t ∧ t ≤ 3 ∧ Few l ∧ ∀ k, 100 ≤ k → spec_DrawTableFrom.f k l0 = some (t, l) := by
  obtain ⟨b, hB, ho⟩ := open_ok l0 hb
  obtain ⟨v, v0, v1, hv⟩ := pick_ok hB 0 2 (by omega) (by omega) (by omega) (by omega)
  obtain ⟨u, u0, u1, hu⟩ := pick_ok hB (0 + 1) 20 (by omega) (by omega) (by omega) (by omega)
  obtain ⟨t, ht, t0, t1⟩ := few_things v u v0 v1 u0 u1
  obtain ⟨l, p2, hl, h3, h4, hs⟩ := rank_ok hB (0 + 1 + 1) t 12 (by omega) (by omega) (by omega) (by omega)
  refine ⟨t, l, t0, t1, hl, fun k hk => ?_⟩
  unfold spec_DrawTableFrom.f
  rw [ho]
  simp only [Option.bind_some]
  rw [hv k (by omega)]
  simp only [Option.bind_some]
  rw [hu k (by omega)]
  simp only [Option.bind_some]
  rw [ht, hs k (by omega)]
  simp only [Option.bind_some]
theorem FnTableFrom : laws_FnTableFrom.Pure := by
  intro l0 _ _ hb
  obtain ⟨k, hk⟩ : ∃ k : Nat, 100000 ≤ k := ⟨_, Nat.le_refl _⟩
  refine ⟨k, ?_⟩
  unfold laws_FnTableFrom.f
  by_cases hl : (l0.length : Int) > 1048576
  · rw [if_pos hl]
  · rw [if_neg hl]
    obtain ⟨t, l, t0, t1, hf, hd⟩ := draw_ok l0 hb
    have hf1 := hf.1
    rw [hd k (by omega)]
    simp only [Option.bind_some]
    rw [show impl_TableFrom.f t l = some (if t ≤ 2 ∧ okR t l = true then fromTab t l else []) from rfl]
    simp only [Option.bind_some]
    rw [sTableFrom_eq t l k (by omega) (by omega)]
    simp only [Option.bind_some]
    by_cases h : t ≤ 2 ∧ okR t l = true
    · rw [if_pos h]
      obtain ⟨g1, g2, g3, g4, g5, g6⟩ := okR_cases h.2
      have hA := allW_range g1
      have hlen := fromTab_len t l
      have hok := okTab_from h.2 h.1
      have hfa := fault_from h.2
      rw [sameInts_refl _ k (by omega) (by omega)]
      simp only [Option.bind_some, if_true]
      rw [if_neg (by omega), show impl_RankFrom.f t (fromTab t l) = some (fromRanks (fromTab t l) (nW t).toNat, true) by unfold impl_RankFrom.f; rw [if_pos ⟨hok, hfa⟩]]
      simp only [Option.bind_some]
      rw [TableOk_eq, hok]
      simp only [Option.bind_some, if_true]
      rw [FirstFault_eq t _ k (by omega)]
      unfold fauE
      rw [if_pos hok, hfa]
      simp only [Option.bind_some, if_true]
      rw [TidyRank_eq t l k (by omega), if_pos h.2, ranks_from h.2]
      simp only [Option.bind_some]
      have := tidyL_length l
      rw [sameInts_refl _ k (by omega) (by omega)]
      simp only [Option.bind_some]
    · rw [if_neg h, sameInts_refl _ k (by simp) (by simp; omega)]
      simp only [Option.bind_some, if_true]
      rw [if_pos (by simp), alive_eq]; rfl
end Go.Proofs.Ytogifggjcdcodaa.Pure
