/- The law that the program's GiveFault is the reference's answers true, for all arguments. -/
import Derived.Test.YtogifggjcdcodaaHm
import Derived.Test.YtogifggjcdcodaaHandF
import Derived.Test.YtogifggjcdcodaaPx1
import Derived.Test.YtogifggjcdcodaaPx2
import Derived.Test.YtogifggjcdcodaaPx5
import Derived.Test.YtogifggjcdcodaaPx8
import Derived.Test.YtogifggjcdcodaaPx9
namespace Go.Proofs.Ytogifggjcdcodaa.L
open Go.RowKit Go.Proofs.Ytogifggjcdcodaa.B Go.Proofs.Ytogifggjcdcodaa.P Go.Proofs.Ytogifggjcdcodaa.Hand Go.Proofs.YtogifggjcdcodaaW.PrintWords Go.Proofs.YtogifggjcdcodaaW.PrintLast Go.Proofs.YtogifggjcdcodaaW.PrintMore
set_option linter.unusedVariables false
set_option linter.unusedSimpArgs false
theorem toIntS_l0 (x0 : List Int) (hl : x0.length ≤ 2000000) : ∀ (d i k : Nat) (x3 : List Int), i + d = x0.length → d < k → x3.length = x0.length → (∀ j, j < i → x3[j]? = x0[j]?) → laws_toIntS.l0 k x0 x3 i = some x0 := by
  intro d
  induction d with
  | zero =>
    intro i k x3 hi hk h3 hj
    obtain ⟨m, rfl⟩ : ∃ m, k = m + 1 := ⟨k - 1, by omega⟩
    simp only [laws_toIntS.l0]
    rw [if_neg (by omega)]
    congr 1
    apply List.ext_getElem?
    intro j
    by_cases h : j < i
    · exact hj j h
    · rw [List.getElem?_eq_none (by omega), List.getElem?_eq_none (by omega)]
  | succ d ih =>
    intro i k x3 hi hk h3 hj
    obtain ⟨m, rfl⟩ : ∃ m, k = m + 1 := ⟨k - 1, by omega⟩
    simp only [laws_toIntS.l0]
    rw [if_pos (by omega), if_pos (by omega), if_pos (by omega), next64 i (by omega), Int.toNat_natCast]
    refine ih (i + 1) m _ (by omega) (by omega) (by simp [h3]) (fun j hj2 => ?_)
    rw [List.getElem?_set]
    by_cases e : i = j
    · subst e
      rw [if_pos rfl, if_pos (by omega), rd_get x0 i (by omega)]
    · rw [if_neg e]
      exact hj j (by omega)
theorem toIntS_eq (l : List Int) (k : Nat) (hl : l.length ≤ 2000000) (hk : l.length < k) : laws_toIntS.f k l = some l := by
  unfold laws_toIntS.f
  rw [if_pos (by omega), if_pos (by omega)]
  exact toIntS_l0 l hl l.length 0 k _ (by omega) hk (by simp) (fun j hj => absurd hj (by omega))
theorem eqIntS_l0 (x : List Int) (hl : x.length ≤ 2000000) : ∀ (d i k : Nat), i + d = x.length → d < k → laws_eqIntS.l0 k x x i = some true := by
  intro d
  induction d with
  | zero =>
    intro i k hi hk
    obtain ⟨m, rfl⟩ : ∃ m, k = m + 1 := ⟨k - 1, by omega⟩
    simp only [laws_eqIntS.l0]
    rw [if_neg (by omega)]
  | succ d ih =>
    intro i k hi hk
    obtain ⟨m, rfl⟩ : ∃ m, k = m + 1 := ⟨k - 1, by omega⟩
    simp only [laws_eqIntS.l0]
    rw [if_pos (by omega), if_pos (by omega), if_pos (by omega), if_pos trivial, next64 i (by omega)]
    exact ih (i + 1) m (by omega) (by omega)
theorem eqIntS_refl (l : List Int) (k : Nat) (hl : l.length ≤ 2000000) (hk : l.length < k) : laws_eqIntS.f k l l = some true := by
  unfold laws_eqIntS.f
  rw [if_pos rfl]
  exact eqIntS_l0 l hl l.length 0 k (by omega) hk
end Go.Proofs.Ytogifggjcdcodaa.L
namespace Go.Proofs.Ytogifggjcdcodaa.L
open Go.RowKit Go.Proofs.Ytogifggjcdcodaa.B Go.Proofs.Ytogifggjcdcodaa.P Go.Proofs.Ytogifggjcdcodaa.Hand Go.Proofs.YtogifggjcdcodaaW.PrintWords Go.Proofs.YtogifggjcdcodaaW.PrintLast Go.Proofs.YtogifggjcdcodaaW.PrintMore
set_option linter.unusedVariables false
set_option linter.unusedSimpArgs false
theorem l1In_eq (a b c : Int) : spec_l1In.f a b c = some (decide (b ≤ a) && decide (a ≤ c)) := by
  unfold spec_l1In.f
  by_cases h : a ≥ b
  · rw [if_pos h]; simp [show b ≤ a from h]
  · rw [if_neg h]; simp [show ¬ b ≤ a from h]
theorem l1In_13 (a : Int) : spec_l1In.f a 1 3 = some (okT a) := l1In_eq a 1 3
theorem l1All_eq (a : Int) (h : okT a = true) : spec_l1All.f a = some (allW a) := by
  unfold spec_l1All.f allF; rw [if_pos h]
theorem sSetOk_eq (t s : Int) : spec_SetOk.f t s = some (okS t s) := by
  unfold spec_SetOk.f okS
  rw [l1In_13]
  simp only [Option.bind_some]
  cases h : okT t with
  | false => simp
  | true =>
    rw [l1All_eq t h]
    simp [l1In_eq]
end Go.Proofs.Ytogifggjcdcodaa.L
namespace Go.Proofs.Ytogifggjcdcodaa.L
open Go.RowKit Go.Proofs.Ytogifggjcdcodaa.B Go.Proofs.Ytogifggjcdcodaa.P Go.Proofs.Ytogifggjcdcodaa.Hand Go.Proofs.YtogifggjcdcodaaW.PrintWords Go.Proofs.YtogifggjcdcodaaW.PrintLast Go.Proofs.YtogifggjcdcodaaW.PrintMore
set_option linter.unusedVariables false
set_option linter.unusedSimpArgs false
theorem bit_nat (a w : Nat) (hw : w ≤ 62) : spec_l1Bit.f (a : Int) (w : Int) = some (if a.testBit w = true then 1 else 0) := by
  unfold spec_l1Bit.f
  rw [if_pos (by omega), shr_nat a w hw, tmod2]
theorem both_l0 (a b : Nat) : ∀ (d w k : Nat), w + d = 8 → d < k →
    spec_l1Both.l0 k a b (sumN w (fun i => a.testBit i && b.testBit i) : Nat) w = some ((sumN 8 (fun i => a.testBit i && b.testBit i) : Nat) : Int) := by
  intro d
  induction d with
  | zero =>
    intro w k hw hk
    obtain ⟨m, rfl⟩ : ∃ m, k = m + 1 := ⟨k - 1, by omega⟩
    obtain rfl : w = 8 := by omega
    simp only [spec_l1Both.l0]
    rw [if_neg (by omega)]
  | succ d ih =>
    intro w k hw hk
    obtain ⟨m, rfl⟩ : ∃ m, k = m + 1 := ⟨k - 1, by omega⟩
    have hlt := sumN_lt w (fun i => a.testBit i && b.testBit i)
    have hp : 2 ^ w ≤ 2 ^ 7 := Nat.pow_le_pow_right (by decide) (by omega)
    have e1 : wrap64 ((w : Int) + 1) = ((w + 1 : Nat) : Int) := by rw [w64 (by omega) (by omega)]; simp
    have key : ∀ x y : Bool, wrap64 (((sumN w (fun i => a.testBit i && b.testBit i) : Nat) : Int) + shl .i64 (wrap64 ((if x = true then 1 else 0) * (if y = true then 1 else 0))) (w : Int)) = ((sumN w (fun i => a.testBit i && b.testBit i) + (if (x && y) = true then 2 ^ w else 0) : Nat) : Int) := by
      intro x y
      generalize sumN w (fun i => a.testBit i && b.testBit i) = q at hlt
      have s0 : shl .i64 (wrap64 0) (w : Int) = 0 := by
        have := shl_nat 0 w (by omega) (by omega)
        rw [Nat.zero_mul] at this
        rw [show wrap64 0 = 0 from w64 (by omega) (by omega)]
        exact this
      have s1 : shl .i64 (wrap64 1) (w : Int) = ((2 ^ w : Nat) : Int) := by
        have := shl_nat 1 w (by omega) (by omega)
        rw [Nat.one_mul] at this
        rw [show wrap64 1 = 1 from w64 (by omega) (by omega)]
        exact this
      generalize 2 ^ w = e at s1 hlt hp
      cases x <;> cases y
      · show wrap64 ((q : Int) + shl .i64 (wrap64 0) (w : Int)) = _
        rw [s0, w64 (by omega) (by omega)]; simp
      · show wrap64 ((q : Int) + shl .i64 (wrap64 0) (w : Int)) = _
        rw [s0, w64 (by omega) (by omega)]; simp
      · show wrap64 ((q : Int) + shl .i64 (wrap64 0) (w : Int)) = _
        rw [s0, w64 (by omega) (by omega)]; simp
      · show wrap64 ((q : Int) + shl .i64 (wrap64 1) (w : Int)) = _
        rw [s1, w64 (by omega) (by omega)]; simp
    have key := key (a.testBit w) (b.testBit w)
    rw [show sumN w (fun i => a.testBit i && b.testBit i) + (if (a.testBit w && b.testBit w) = true then 2 ^ w else 0) = sumN (w + 1) (fun i => a.testBit i && b.testBit i) from rfl] at key
    simp only [spec_l1Both.l0]
    rw [if_pos (by omega), bit_nat a w (by omega)]
    simp only [Option.bind_some]
    rw [bit_nat b w (by omega)]
    simp only [Option.bind_some]
    rw [if_pos (by omega), key, e1]
    exact ih (w + 1) m (by omega) (by omega)
/-- What is in both sets. -/
theorem both_nat (a b k : Nat) (ha : a < 256) (hk : 9 ≤ k) : spec_l1Both.f k (a : Int) (b : Int) = some ((a &&& b : Nat) : Int) := by
  have h := both_l0 a b 8 0 k (by omega) (by omega)
  have e : sumN 8 (fun i => a.testBit i && b.testBit i) = a &&& b := by
    have h2 : a &&& b < 2 ^ 8 := Nat.lt_of_le_of_lt Nat.and_le_left ha
    rw [← sumN_bits 8 (a &&& b) h2]
    exact sumN_congr _ _ _ fun i _ => by rw [Nat.testBit_and]
  rw [e] at h
  unfold spec_l1Both.f
  simpa [sumN] using h
end Go.Proofs.Ytogifggjcdcodaa.L
namespace Go.Proofs.Ytogifggjcdcodaa.L
open Go.RowKit Go.Proofs.Ytogifggjcdcodaa.Hand Go.Proofs.YtogifggjcdcodaaW.PrintWords
set_option linter.unusedVariables false
set_option linter.unusedSimpArgs false
theorem mem_rd {l : List Int} {x : Int} (h : x ∈ l) : ∃ i : Nat, i < l.length ∧ rd l (i : Int) = x := by
  obtain ⟨i, hi, e⟩ := List.mem_iff_getElem.1 h
  refine ⟨i, hi, ?_⟩
  unfold rd
  rw [Int.toNat_natCast, List.getD_eq_getElem?_getD, List.getElem?_eq_getElem hi]; exact e
end Go.Proofs.Ytogifggjcdcodaa.L
namespace Go.Proofs.Ytogifggjcdcodaa.L
open Go.RowKit Go.Proofs.Ytogifggjcdcodaa.B Go.Proofs.Ytogifggjcdcodaa.P Go.Proofs.Ytogifggjcdcodaa.Hand Go.Proofs.YtogifggjcdcodaaW.PrintWords Go.Proofs.YtogifggjcdcodaaW.PrintLast Go.Proofs.YtogifggjcdcodaaW.PrintMore
set_option linter.unusedVariables false
set_option linter.unusedSimpArgs false
theorem sTableOk_l0 (t : Int) (l : List Int) (hl : l.length ≤ 2000000) : ∀ (d i k : Nat), i + d = l.length → d < k →
    spec_TableOk.l0 k t l i = some ((l.drop i).all (fun s => okS t s) && ((decide (1 ≤ t) && decide (t ≤ 2)) && decide ((l.length : Int) = allW t + 1))) := by
  intro d
  induction d with
  | zero =>
    intro i k hi hk
    obtain ⟨q, rfl⟩ : ∃ q, k = q + 1 := ⟨k - 1, by omega⟩
    simp only [spec_TableOk.l0]
    rw [if_neg (by omega), List.drop_eq_nil_of_le (by omega), l1In_eq]
    simp only [Option.bind_some, List.all_nil, Bool.true_and]
    cases hb : (decide (1 ≤ t) && decide (t ≤ 2)) with
    | false => simp
    | true =>
      have ht : okT t = true := by
        unfold okT; simp at hb; simp; omega
      have := allW_range ht
      rw [if_pos rfl, l1All_eq t ht]
      simp only [Option.bind_some]
      rw [w64 (by omega) (by omega)]
      rfl
  | succ d ih =>
    intro i k hi hk
    obtain ⟨q, rfl⟩ : ∃ q, k = q + 1 := ⟨k - 1, by omega⟩
    simp only [spec_TableOk.l0]
    rw [if_pos (by omega), if_pos (by omega), sSetOk_eq, drop_cons l i (by omega)]
    simp only [Option.bind_some, List.all_cons]
    cases hx : okS t (rd l (i : Int)) with
    | false => simp
    | true =>
      rw [if_pos rfl, next64 i (by omega), ih (i + 1) q (by omega) (by omega)]
      simp
theorem sTableOk_eq (t : Int) (l : List Int) (k : Nat) (hl : l.length ≤ 2000000) (hk : l.length < k) : spec_TableOk.f k t l = some (okTab t l) := by
  have h := sTableOk_l0 t l hl l.length 0 k (by omega) hk
  unfold spec_TableOk.f
  rw [show ((0 : Nat) : Int) = 0 from rfl, List.drop_zero] at h
  rw [h]
  unfold okTab
  rw [Bool.and_comm, Bool.and_assoc]
end Go.Proofs.Ytogifggjcdcodaa.L
namespace Go.Proofs.Ytogifggjcdcodaa.L
open Go.RowKit Go.Proofs.Ytogifggjcdcodaa.B Go.Proofs.Ytogifggjcdcodaa.P Go.Proofs.Ytogifggjcdcodaa.Hand Go.Proofs.YtogifggjcdcodaaW.PrintWords Go.Proofs.YtogifggjcdcodaaW.PrintLast Go.Proofs.YtogifggjcdcodaaW.PrintMore
set_option linter.unusedVariables false
set_option linter.unusedSimpArgs false
theorem par (x : Nat) : x % 2 = if x.testBit 0 = true then 1 else 0 := by
  rw [Nat.testBit_zero]
  rcases Nat.mod_two_eq_zero_or_one x with h | h <;> simp [h]
theorem or_add (a b : Nat) : (a ||| b) + (a &&& b) = a + b := by
  induction a using Nat.strongRecOn generalizing b with
  | _ a ih =>
    rcases Nat.eq_zero_or_pos a with rfl | h
    · simp
    · have h1 := ih (a / 2) (by omega) (b / 2)
      have e1 : (a ||| b) / 2 = a / 2 ||| b / 2 := Nat.or_div_two
      have e2 : (a &&& b) / 2 = a / 2 &&& b / 2 := Nat.and_div_two
      have e3 : (a ||| b) % 2 + (a &&& b) % 2 = a % 2 + b % 2 := by
        have t1 := par (a ||| b)
        have t2 := par (a &&& b)
        have t3 := par a
        have t4 := par b
        rw [t1, t2, t3, t4, Nat.testBit_or, Nat.testBit_and]
        cases a.testBit 0 <;> cases b.testBit 0 <;> rfl
      have d1 := Nat.div_add_mod (a ||| b) 2
      have d2 := Nat.div_add_mod (a &&& b) 2
      omega
end Go.Proofs.Ytogifggjcdcodaa.L
namespace Go.Proofs.Ytogifggjcdcodaa.L
open Go.RowKit Go.Proofs.Ytogifggjcdcodaa.B Go.Proofs.Ytogifggjcdcodaa.P Go.Proofs.Ytogifggjcdcodaa.Hand Go.Proofs.YtogifggjcdcodaaW.PrintWords Go.Proofs.YtogifggjcdcodaaW.PrintLast Go.Proofs.YtogifggjcdcodaaW.PrintMore
set_option linter.unusedVariables false
set_option linter.unusedSimpArgs false
theorem okTab_cases' {t : Int} {l : List Int} (h : okTab t l = true) : okT t = true ∧ t ≤ 2 ∧ (l.length : Int) = allW t + 1 ∧ (∀ x ∈ l, 0 ≤ x ∧ x ≤ 255) ∧ 4 ≤ l.length ∧ l.length ≤ 16 := by
  unfold okTab at h
  simp only [Bool.and_eq_true, decide_eq_true_eq, List.all_eq_true] at h
  obtain ⟨⟨h1, h2⟩, h3, h4⟩ := h
  have hc : t = 1 ∨ t = 2 := by omega
  refine ⟨by unfold okT; simp; omega, h2, h3, fun x hx => ?_, ?_⟩
  · have := okS_cases (h4 x hx)
    omega
  · rcases hc with rfl | rfl
    · have : allW 1 = 3 := by decide
      omega
    · have : allW 2 = 15 := by decide
      omega
theorem ent_rd {l : List Int} (hp : ∀ x ∈ l, 0 ≤ x ∧ x ≤ 255) (i : Nat) (h : i < l.length) : rd l (i : Int) = ((ent l i : Nat) : Int) ∧ ent l i < 256 := by
  have := hp _ (Hand.mem_rd l i h)
  unfold ent
  omega
/-- The entry of the set of all worlds. -/
def topE (l : List Int) : Nat := ent l (l.length - 1)
def gf1At (l : List Int) (s : Nat) : Bool := !(topE l == 0) && topE l &&& ent l s == topE l
def gf2At (l : List Int) (s : Nat) : Bool := topE l &&& s == topE l || ent l s == topE l
def gf3At (l : List Int) (s : Nat) : Bool := s == l.length - 1 || !(ent l s &&& s == ent l s)
def gf4At (l : List Int) (s : Nat) : Bool := minus (ent l s) (topE l) &&& s == 0
/-- The least number of a postulate of contraction that is not fulfilled. -/
def gfault (l : List Int) : Int :=
  if (List.range l.length).all (gf1At l) = true then (if (List.range l.length).all (gf2At l) = true then (if (List.range l.length).all (gf3At l) = true then (if (List.range l.length).all (gf4At l) = true then 0 else 4) else 3) else 2) else 1
/-- GiveFault. -/
def gfE (t : Int) (l : List Int) : Int := if okTab t l = true then gfault l else -1
theorem sub_minus {e c : Nat} (h : c &&& e = c) : e = minus e c + c := by
  have h1 := or_add (minus e c) c
  have h2 : minus e c &&& c = 0 := by
    apply Nat.eq_of_testBit_eq; intro i
    rw [Nat.testBit_and, minus_testBit, Nat.zero_testBit]
    cases e.testBit i <;> cases c.testBit i <;> rfl
  have h3 : minus e c ||| c = e := by
    apply Nat.eq_of_testBit_eq; intro i
    rw [Nat.testBit_or, minus_testBit]
    have h4 : (c &&& e).testBit i = c.testBit i := by rw [h]
    rw [Nat.testBit_and] at h4
    cases hc : c.testBit i <;> cases he : e.testBit i <;> simp_all
  omega
theorem ig_l3 (l : List Int) (hl : l.length ≤ 16) (hp : ∀ x ∈ l, 0 ≤ x ∧ x ≤ 255) (hl1 : 1 ≤ l.length) : ∀ (d a k : Nat), a + d = l.length → d < k →
    impl_giveFault.l3 k (topE l : Nat) l (l.length : Int) (a : Int) = some (if (from_ a l.length).all (gf4At l) = true then 0 else 4) := by
  have ht := (ent_rd hp (l.length - 1) (by omega)).2
  intro d
  induction d with
  | zero =>
    intro a k ha hk
    obtain ⟨q, rfl⟩ : ∃ q, k = q + 1 := ⟨k - 1, by omega⟩
    obtain rfl : a = l.length := by omega
    simp only [impl_giveFault.l3]
    rw [if_neg (by omega), from_end]; rfl
  | succ d ih =>
    intro a k ha hk
    obtain ⟨q, rfl⟩ : ∃ q, k = q + 1 := ⟨k - 1, by omega⟩
    obtain ⟨hm, hm2⟩ := ent_rd hp a (by omega)
    have hmi := minus_lt (b := topE l) (n := 8) hm2
    simp only [impl_giveFault.l3]
    rw [if_pos (by omega), if_pos (by omega), if_pos (by omega), hm, andNot_i64 (ent l a) (topE l) (by omega) (by unfold topE; omega), and_i64 _ a (by omega) (by omega), next64 a (by omega), ih (a + 1) q (by omega) (by omega), from_cons a _ (by omega), List.all_cons]
    have hF : gf4At l a = (minus (ent l a) (topE l) &&& a == 0) := rfl
    rw [hF]
    by_cases hz : minus (ent l a) (topE l) &&& a = 0
    · rw [if_pos (by omega)]; simp [hz]
    · rw [if_neg (by omega)]; simp [hz]
theorem ig_l2 (l : List Int) (hl : l.length ≤ 16) (hp : ∀ x ∈ l, 0 ≤ x ∧ x ≤ 255) (hl1 : 1 ≤ l.length) : ∀ (d a k : Nat), a + d = l.length → d + l.length + 1 < k →
    impl_giveFault.l2 k l ((l.length - 1 : Nat) : Int) (topE l : Nat) l (l.length : Int) (a : Int) = some (if (from_ a l.length).all (gf3At l) = true then (if (List.range l.length).all (gf4At l) = true then 0 else 4) else 3) := by
  intro d
  induction d with
  | zero =>
    intro a k ha hk
    obtain ⟨q, rfl⟩ : ∃ q, k = q + 1 := ⟨k - 1, by omega⟩
    obtain rfl : a = l.length := by omega
    have h := ig_l3 l hl hp hl1 l.length 0 q (by omega) (by omega)
    simp only [impl_giveFault.l2]
    rw [if_neg (by omega), from_end, show (0 : Int) = ((0 : Nat) : Int) from rfl, h, from_zero]; rfl
  | succ d ih =>
    intro a k ha hk
    obtain ⟨q, rfl⟩ : ∃ q, k = q + 1 := ⟨k - 1, by omega⟩
    obtain ⟨hm, hm2⟩ := ent_rd hp a (by omega)
    simp only [impl_giveFault.l2]
    rw [if_pos (by omega), if_pos (by omega), if_pos (by omega), hm, andNot_i64 (ent l a) a (by omega) (by omega), next64 a (by omega), ih (a + 1) q (by omega) (by omega), from_cons a _ (by omega), List.all_cons]
    have hF : gf3At l a = (a == l.length - 1 || !(ent l a &&& a == ent l a)) := rfl
    rw [hF]
    by_cases hz : a = l.length - 1
    · rw [if_pos (by omega)]; simp [hz]
    · rw [if_neg (by omega)]
      have hmz := minus_zero (ent l a) a
      by_cases hy : ent l a &&& a = ent l a
      · rw [if_pos (by have := hmz.2 hy; omega)]; simp [hz, hy]
      · rw [if_neg (by intro h; exact hy (hmz.1 (by omega)))]; simp [hy]
theorem ig_l1 (l : List Int) (hl : l.length ≤ 16) (hp : ∀ x ∈ l, 0 ≤ x ∧ x ≤ 255) (hl1 : 1 ≤ l.length) : ∀ (d a k : Nat), a + d = l.length → d + 2 * l.length + 3 < k →
    impl_giveFault.l1 k l ((l.length - 1 : Nat) : Int) (topE l : Nat) l (l.length : Int) (a : Int) = some (if (from_ a l.length).all (gf2At l) = true then (if (List.range l.length).all (gf3At l) = true then (if (List.range l.length).all (gf4At l) = true then 0 else 4) else 3) else 2) := by
  have ht := (ent_rd hp (l.length - 1) (by omega)).2
  intro d
  induction d with
  | zero =>
    intro a k ha hk
    obtain ⟨q, rfl⟩ : ∃ q, k = q + 1 := ⟨k - 1, by omega⟩
    obtain rfl : a = l.length := by omega
    have h := ig_l2 l hl hp hl1 l.length 0 q (by omega) (by omega)
    simp only [impl_giveFault.l1]
    rw [if_neg (by omega), from_end, show (0 : Int) = ((0 : Nat) : Int) from rfl, h, from_zero]; rfl
  | succ d ih =>
    intro a k ha hk
    obtain ⟨q, rfl⟩ : ∃ q, k = q + 1 := ⟨k - 1, by omega⟩
    obtain ⟨hm, hm2⟩ := ent_rd hp a (by omega)
    have hmz := minus_zero (topE l) a
    simp only [impl_giveFault.l1]
    rw [if_pos (by omega), if_pos (by omega), if_pos (by omega), hm, andNot_i64 (topE l) a (by unfold topE; omega) (by omega), next64 a (by omega), ih (a + 1) q (by omega) (by omega), from_cons a _ (by omega), List.all_cons]
    have hF : gf2At l a = (topE l &&& a == topE l || ent l a == topE l) := rfl
    rw [hF]
    by_cases hz : topE l &&& a = topE l
    · rw [if_pos (by have := hmz.2 hz; omega)]; simp [hz]
    · rw [if_neg (by intro h; exact hz (hmz.1 (by omega)))]
      by_cases hy : ent l a = topE l
      · rw [if_pos (by omega)]; simp [hy]
      · rw [if_neg (by omega)]; simp [hz, hy]
theorem ig_l0 (l : List Int) (hl : l.length ≤ 16) (hp : ∀ x ∈ l, 0 ≤ x ∧ x ≤ 255) (hl1 : 1 ≤ l.length) : ∀ (d a k : Nat), a + d = l.length → d + 3 * l.length + 5 < k →
    impl_giveFault.l0 k l ((l.length - 1 : Nat) : Int) (topE l : Nat) l (l.length : Int) (a : Int) = some (if (from_ a l.length).all (gf1At l) = true then (if (List.range l.length).all (gf2At l) = true then (if (List.range l.length).all (gf3At l) = true then (if (List.range l.length).all (gf4At l) = true then 0 else 4) else 3) else 2) else 1) := by
  have ht := (ent_rd hp (l.length - 1) (by omega)).2
  intro d
  induction d with
  | zero =>
    intro a k ha hk
    obtain ⟨q, rfl⟩ : ∃ q, k = q + 1 := ⟨k - 1, by omega⟩
    obtain rfl : a = l.length := by omega
    have h := ig_l1 l hl hp hl1 l.length 0 q (by omega) (by omega)
    simp only [impl_giveFault.l0]
    rw [if_neg (by omega), from_end, show (0 : Int) = ((0 : Nat) : Int) from rfl, h, from_zero]; rfl
  | succ d ih =>
    intro a k ha hk
    obtain ⟨q, rfl⟩ : ∃ q, k = q + 1 := ⟨k - 1, by omega⟩
    obtain ⟨hm, hm2⟩ := ent_rd hp a (by omega)
    have hmz := minus_zero (topE l) (ent l a)
    simp only [impl_giveFault.l0]
    rw [if_pos (by omega), if_pos (by omega), if_pos (by omega), hm, andNot_i64 (topE l) (ent l a) (by unfold topE; omega) (by omega), next64 a (by omega), ih (a + 1) q (by omega) (by omega), from_cons a _ (by omega), List.all_cons]
    have hF : gf1At l a = (!(topE l == 0) && topE l &&& ent l a == topE l) := rfl
    rw [hF]
    by_cases hz : topE l = 0
    · rw [if_pos (by omega)]; simp [hz]
    · rw [if_neg (by omega)]
      by_cases hy : topE l &&& ent l a = topE l
      · rw [if_pos (by have := hmz.2 hy; omega)]; simp [hz, hy]
      · rw [if_neg (by intro h; exact hy (hmz.1 (by omega)))]; simp [hy]
theorem GiveFault_eq (t : Int) (l : List Int) (k : Nat) (hk : 1000 ≤ k) : impl_GiveFault.f k t l = some (gfE t l) := by
  unfold impl_GiveFault.f gfE
  rw [show impl_isTable.f t l = some (okTab t l) from rfl]
  simp only [Option.bind_some]
  cases h : okTab t l with
  | false => simp
  | true =>
    obtain ⟨h1, h2, h3, h4, h5, h6⟩ := okTab_cases' h
    have ew : wrap64 ((l.length : Int) - 1) = ((l.length - 1 : Nat) : Int) := by rw [w64 (by omega) (by omega)]; omega
    have e := (ent_rd h4 (l.length - 1) (by omega)).1
    have hm := ig_l0 l h6 h4 (by omega) l.length 0 k (by omega) (by omega)
    rw [if_pos rfl]
    unfold impl_giveFault.f
    rw [ew, if_pos (by omega), if_pos (by omega), e]
    rw [show (0 : Int) = ((0 : Nat) : Int) from rfl] 
    unfold topE at hm
    rw [hm, from_zero]; rfl
theorem sg_l3 (l : List Int) (hl : l.length ≤ 16) (hp : ∀ x ∈ l, 0 ≤ x ∧ x ≤ 255) (hl1 : 1 ≤ l.length) (hc : ∀ s, s < l.length → topE l &&& ent l s = topE l) : ∀ (d a k : Nat), a + d = l.length → d + 10 < k →
    spec_GiveFault.l3 k l (topE l : Nat) (a : Int) = some (if (from_ a l.length).all (gf4At l) = true then 0 else 4) := by
  have ht := (ent_rd hp (l.length - 1) (by omega)).2
  intro d
  induction d with
  | zero =>
    intro a k ha hk
    obtain ⟨q, rfl⟩ : ∃ q, k = q + 1 := ⟨k - 1, by omega⟩
    obtain rfl : a = l.length := by omega
    simp only [spec_GiveFault.l3]
    rw [if_neg (by omega), from_end]; rfl
  | succ d ih =>
    intro a k ha hk
    obtain ⟨q, rfl⟩ : ∃ q, k = q + 1 := ⟨k - 1, by omega⟩
    obtain ⟨hm, hm2⟩ := ent_rd hp a (by omega)
    have hmi := minus_lt (b := topE l) (n := 8) hm2
    have hs := sub_minus (hc a (by omega))
    have hw : wrap64 (((ent l a : Nat) : Int) - ((topE l : Nat) : Int)) = ((minus (ent l a) (topE l) : Nat) : Int) := by rw [w64 (by omega) (by omega)]; omega
    simp only [spec_GiveFault.l3]
    rw [if_pos (by omega), if_pos (by omega), hm, hw, both_nat _ a q (by omega) (by omega), next64 a (by omega), ih (a + 1) q (by omega) (by omega), from_cons a _ (by omega), List.all_cons]
    simp only [Option.bind_some]
    have hF : gf4At l a = (minus (ent l a) (topE l) &&& a == 0) := rfl
    rw [hF]
    by_cases hz : minus (ent l a) (topE l) &&& a = 0
    · rw [if_pos (by omega)]; simp [hz]
    · rw [if_neg (by omega)]; simp [hz]
theorem sg_l2 (l : List Int) (hl : l.length ≤ 16) (hp : ∀ x ∈ l, 0 ≤ x ∧ x ≤ 255) (hl1 : 1 ≤ l.length) (hc : ∀ s, s < l.length → topE l &&& ent l s = topE l) : ∀ (d a k : Nat), a + d = l.length - 1 → d + l.length + 20 < k →
    spec_GiveFault.l2 k l ((l.length - 1 : Nat) : Int) (topE l : Nat) (a : Int) = some (if (from_ a l.length).all (gf3At l) = true then (if (List.range l.length).all (gf4At l) = true then 0 else 4) else 3) := by
  intro d
  induction d with
  | zero =>
    intro a k ha hk
    obtain ⟨q, rfl⟩ : ∃ q, k = q + 1 := ⟨k - 1, by omega⟩
    obtain rfl : a = l.length - 1 := by omega
    have h := sg_l3 l hl hp hl1 hc l.length 0 q (by omega) (by omega)
    have e : from_ (l.length - 1) l.length = [l.length - 1] := by
      rw [from_cons _ _ (by omega), show l.length - 1 + 1 = l.length by omega, from_end]
    simp only [spec_GiveFault.l2]
    rw [if_neg (by omega), e, show (0 : Int) = ((0 : Nat) : Int) from rfl, h, from_zero]
    simp [gf3At]
  | succ d ih =>
    intro a k ha hk
    obtain ⟨q, rfl⟩ : ∃ q, k = q + 1 := ⟨k - 1, by omega⟩
    obtain ⟨hm, hm2⟩ := ent_rd hp a (by omega)
    simp only [spec_GiveFault.l2]
    rw [if_pos (by omega), if_pos (by omega), if_pos (by omega), hm, both_nat (ent l a) a q hm2 (by omega), next64 a (by omega), ih (a + 1) q (by omega) (by omega), from_cons a _ (by omega), List.all_cons]
    simp only [Option.bind_some]
    have hF : gf3At l a = (a == l.length - 1 || !(ent l a &&& a == ent l a)) := rfl
    have hz : ¬ a = l.length - 1 := by omega
    rw [hF]
    by_cases hy : ent l a &&& a = ent l a
    · rw [if_pos (by omega)]; simp [hz, hy]
    · rw [if_neg (by omega)]; simp [hy]
theorem sg_l1 (l : List Int) (hl : l.length ≤ 16) (hp : ∀ x ∈ l, 0 ≤ x ∧ x ≤ 255) (hl1 : 1 ≤ l.length) (hc : ∀ s, s < l.length → topE l &&& ent l s = topE l) : ∀ (d a k : Nat), a + d = l.length → d + 2 * l.length + 30 < k →
    spec_GiveFault.l1 k l ((l.length - 1 : Nat) : Int) (topE l : Nat) (a : Int) = some (if (from_ a l.length).all (gf2At l) = true then (if (List.range l.length).all (gf3At l) = true then (if (List.range l.length).all (gf4At l) = true then 0 else 4) else 3) else 2) := by
  have ht := (ent_rd hp (l.length - 1) (by omega)).2
  intro d
  induction d with
  | zero =>
    intro a k ha hk
    obtain ⟨q, rfl⟩ : ∃ q, k = q + 1 := ⟨k - 1, by omega⟩
    obtain rfl : a = l.length := by omega
    have h := sg_l2 l hl hp hl1 hc (l.length - 1) 0 q (by omega) (by omega)
    simp only [spec_GiveFault.l1]
    rw [if_neg (by omega), from_end, show (0 : Int) = ((0 : Nat) : Int) from rfl, h, from_zero]; rfl
  | succ d ih =>
    intro a k ha hk
    obtain ⟨q, rfl⟩ : ∃ q, k = q + 1 := ⟨k - 1, by omega⟩
    obtain ⟨hm, hm2⟩ := ent_rd hp a (by omega)
    simp only [spec_GiveFault.l1]
    rw [if_pos (by omega), both_nat (topE l) a q (by unfold topE; omega) (by omega), next64 a (by omega), ih (a + 1) q (by omega) (by omega), from_cons a _ (by omega), List.all_cons]
    simp only [Option.bind_some]
    have hF : gf2At l a = (topE l &&& a == topE l || ent l a == topE l) := rfl
    rw [hF]
    by_cases hz : topE l &&& a = topE l
    · rw [if_pos (by omega)]; simp [hz]
    · rw [if_neg (by omega), if_pos (by omega), hm]
      by_cases hy : ent l a = topE l
      · rw [if_pos (by omega)]; simp [hy]
      · rw [if_neg (by omega)]; simp [hz, hy]
theorem sg_l0 (l : List Int) (hl : l.length ≤ 16) (hp : ∀ x ∈ l, 0 ≤ x ∧ x ≤ 255) (hl1 : 1 ≤ l.length) : ∀ (d a k : Nat), a + d = l.length → (∀ s, s < a → topE l &&& ent l s = topE l) → d + 3 * l.length + 40 < k →
    spec_GiveFault.l0 k l ((l.length - 1 : Nat) : Int) (topE l : Nat) (a : Int) = some (if (from_ a l.length).all (gf1At l) = true then (if (List.range l.length).all (gf2At l) = true then (if (List.range l.length).all (gf3At l) = true then (if (List.range l.length).all (gf4At l) = true then 0 else 4) else 3) else 2) else 1) := by
  have ht := (ent_rd hp (l.length - 1) (by omega)).2
  intro d
  induction d with
  | zero =>
    intro a k ha hc hk
    obtain ⟨q, rfl⟩ : ∃ q, k = q + 1 := ⟨k - 1, by omega⟩
    obtain rfl : a = l.length := by omega
    have h := sg_l1 l hl hp hl1 hc l.length 0 q (by omega) (by omega)
    simp only [spec_GiveFault.l0]
    rw [if_neg (by omega), from_end, show (0 : Int) = ((0 : Nat) : Int) from rfl, h, from_zero]; rfl
  | succ d ih =>
    intro a k ha hc hk
    obtain ⟨q, rfl⟩ : ∃ q, k = q + 1 := ⟨k - 1, by omega⟩
    obtain ⟨hm, hm2⟩ := ent_rd hp a (by omega)
    simp only [spec_GiveFault.l0]
    rw [if_pos (by omega), if_pos (by omega), hm, both_nat (topE l) (ent l a) q (by unfold topE; omega) (by omega), next64 a (by omega), from_cons a _ (by omega), List.all_cons]
    simp only [Option.bind_some]
    have hF : gf1At l a = (!(topE l == 0) && topE l &&& ent l a == topE l) := rfl
    rw [hF]
    by_cases hy : topE l &&& ent l a = topE l
    · rw [if_pos (by omega)]
      by_cases hz : topE l = 0
      · rw [if_pos (by omega)]; simp [hz]
      · rw [if_neg (by omega), ih (a + 1) q (by omega) (fun s hs => by rcases Nat.lt_succ_iff_lt_or_eq.1 hs with h | h; exact hc s h; rw [h]; exact hy) (by omega)]; simp [hz, hy]
    · rw [if_neg (by omega)]; simp [hy]
theorem sGiveFault_eq (t : Int) (l : List Int) (k : Nat) (hl : l.length ≤ 2000000) (hk : l.length + 1000 < k) : spec_GiveFault.f k t l = some (gfE t l) := by
  unfold spec_GiveFault.f gfE
  rw [sTableOk_eq t l k hl (by omega)]
  simp only [Option.bind_some]
  cases h : okTab t l with
  | false => simp
  | true =>
    obtain ⟨h1, h2, h3, h4, h5, h6⟩ := okTab_cases' h
    have ew : allW t = ((l.length - 1 : Nat) : Int) := by omega
    have e := (ent_rd h4 (l.length - 1) (by omega)).1
    have hm := sg_l0 l h6 h4 (by omega) l.length 0 k (by omega) (fun s hs => absurd hs (by omega)) (by omega)
    rw [if_pos rfl, l1All_eq t h1]
    simp only [Option.bind_some]
    rw [ew, if_pos (by omega), if_pos (by omega), e]
    rw [show (0 : Int) = ((0 : Nat) : Int) from rfl]
    unfold topE at hm
    rw [hm, from_zero]; rfl
end Go.Proofs.Ytogifggjcdcodaa.L
namespace Go.Proofs.Ytogifggjcdcodaa.Pure
open Go.RowKit Go.Proofs.Ytogifggjcdcodaa.B Go.Proofs.Ytogifggjcdcodaa.P Go.Proofs.Ytogifggjcdcodaa.Hand Go.Proofs.Ytogifggjcdcodaa.L Go.Proofs.YtogifggjcdcodaaW.PrintWords Go.Proofs.YtogifggjcdcodaaW.PrintLast Go.Proofs.YtogifggjcdcodaaW.PrintMore
set_option linter.unusedVariables false
set_option linter.unusedSimpArgs false
theorem FnExactGiveFault : laws_FnExactGiveFault.Pure := by
  intro t l  _ _ _ _
  obtain ⟨k, hk⟩ : ∃ k : Nat, l.length + 100000 ≤ k := ⟨_, Nat.le_refl _⟩
  refine ⟨k, ?_⟩
  unfold laws_FnExactGiveFault.f
  by_cases hl : (l.length : Int) > 1048576
  · rw [if_pos hl]
  · rw [if_neg hl, toIntS_eq l _ (by omega) (by omega)]
    simp only [Option.bind_some]
    rw [sGiveFault_eq t l  _ (by omega) (by omega)]
    simp only [Option.bind_some]
    rw [GiveFault_eq t l  _ (by omega)]
    simp only [Option.bind_some]
    rw [if_pos trivial, eqIntS_refl l _ (by omega) (by omega)]
    simp
end Go.Proofs.Ytogifggjcdcodaa.Pure
