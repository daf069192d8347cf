/- The law that the program's FirstFault is the reference's answers true, for all arguments. -/
import Derived.Test.YtogifggjcdcodaaHm
import Derived.Test.YtogifggjcdcodaaHandF
import Derived.Test.YtogifggjcdcodaaPx1
import Derived.Test.YtogifggjcdcodaaPx2
import Derived.Test.YtogifggjcdcodaaPx4
import Derived.Test.YtogifggjcdcodaaPx5
import Derived.Test.YtogifggjcdcodaaPx6
namespace Go.Proofs.Ytogifggjcdcodaa.L
open Go.RowKit Go.Proofs.Ytogifggjcdcodaa.B Go.Proofs.Ytogifggjcdcodaa.P Go.Proofs.Ytogifggjcdcodaa.Hand Go.Proofs.YtogifggjcdcodaaW.PrintWords Go.Proofs.YtogifggjcdcodaaW.PrintLast Go.Proofs.YtogifggjcdcodaaW.PrintMore
set_option linter.unusedVariables false
set_option linter.unusedSimpArgs false
theorem toIntS_l0 (x0 : List Int) (hl : x0.length ≤ 2000000) : ∀ (d i k : Nat) (x3 : List Int), i + d = x0.length → d < k → x3.length = x0.length → (∀ j, j < i → x3[j]? = x0[j]?) → laws_toIntS.l0 k x0 x3 i = some x0 := by
  intro d
  induction d with
  | zero =>
    intro i k x3 hi hk h3 hj
    obtain ⟨m, rfl⟩ : ∃ m, k = m + 1 := ⟨k - 1, by omega⟩
    simp only [laws_toIntS.l0]
    rw [if_neg (by omega)]
    congr 1
    apply List.ext_getElem?
    intro j
    by_cases h : j < i
    · exact hj j h
    · rw [List.getElem?_eq_none (by omega), List.getElem?_eq_none (by omega)]
  | succ d ih =>
    intro i k x3 hi hk h3 hj
    obtain ⟨m, rfl⟩ : ∃ m, k = m + 1 := ⟨k - 1, by omega⟩
    simp only [laws_toIntS.l0]
    rw [if_pos (by omega), if_pos (by omega), if_pos (by omega), next64 i (by omega), Int.toNat_natCast]
    refine ih (i + 1) m _ (by omega) (by omega) (by simp [h3]) (fun j hj2 => ?_)
    rw [List.getElem?_set]
    by_cases e : i = j
    · subst e
      rw [if_pos rfl, if_pos (by omega), rd_get x0 i (by omega)]
    · rw [if_neg e]
      exact hj j (by omega)
theorem toIntS_eq (l : List Int) (k : Nat) (hl : l.length ≤ 2000000) (hk : l.length < k) : laws_toIntS.f k l = some l := by
  unfold laws_toIntS.f
  rw [if_pos (by omega), if_pos (by omega)]
  exact toIntS_l0 l hl l.length 0 k _ (by omega) hk (by simp) (fun j hj => absurd hj (by omega))
theorem eqIntS_l0 (x : List Int) (hl : x.length ≤ 2000000) : ∀ (d i k : Nat), i + d = x.length → d < k → laws_eqIntS.l0 k x x i = some true := by
  intro d
  induction d with
  | zero =>
    intro i k hi hk
    obtain ⟨m, rfl⟩ : ∃ m, k = m + 1 := ⟨k - 1, by omega⟩
    simp only [laws_eqIntS.l0]
    rw [if_neg (by omega)]
  | succ d ih =>
    intro i k hi hk
    obtain ⟨m, rfl⟩ : ∃ m, k = m + 1 := ⟨k - 1, by omega⟩
    simp only [laws_eqIntS.l0]
    rw [if_pos (by omega), if_pos (by omega), if_pos (by omega), if_pos trivial, next64 i (by omega)]
    exact ih (i + 1) m (by omega) (by omega)
theorem eqIntS_refl (l : List Int) (k : Nat) (hl : l.length ≤ 2000000) (hk : l.length < k) : laws_eqIntS.f k l l = some true := by
  unfold laws_eqIntS.f
  rw [if_pos rfl]
  exact eqIntS_l0 l hl l.length 0 k (by omega) hk
end Go.Proofs.Ytogifggjcdcodaa.L
namespace Go.Proofs.Ytogifggjcdcodaa.L
open Go.RowKit Go.Proofs.Ytogifggjcdcodaa.B Go.Proofs.Ytogifggjcdcodaa.P Go.Proofs.Ytogifggjcdcodaa.Hand Go.Proofs.YtogifggjcdcodaaW.PrintWords Go.Proofs.YtogifggjcdcodaaW.PrintLast Go.Proofs.YtogifggjcdcodaaW.PrintMore
set_option linter.unusedVariables false
set_option linter.unusedSimpArgs false
theorem l1In_eq (a b c : Int) : spec_l1In.f a b c = some (decide (b ≤ a) && decide (a ≤ c)) := by
  unfold spec_l1In.f
  by_cases h : a ≥ b
  · rw [if_pos h]; simp [show b ≤ a from h]
  · rw [if_neg h]; simp [show ¬ b ≤ a from h]
theorem l1In_13 (a : Int) : spec_l1In.f a 1 3 = some (okT a) := l1In_eq a 1 3
theorem l1All_eq (a : Int) (h : okT a = true) : spec_l1All.f a = some (allW a) := by
  unfold spec_l1All.f allF; rw [if_pos h]
theorem sSetOk_eq (t s : Int) : spec_SetOk.f t s = some (okS t s) := by
  unfold spec_SetOk.f okS
  rw [l1In_13]
  simp only [Option.bind_some]
  cases h : okT t with
  | false => simp
  | true =>
    rw [l1All_eq t h]
    simp [l1In_eq]
end Go.Proofs.Ytogifggjcdcodaa.L
namespace Go.Proofs.Ytogifggjcdcodaa.L
open Go.RowKit Go.Proofs.Ytogifggjcdcodaa.B Go.Proofs.Ytogifggjcdcodaa.P Go.Proofs.Ytogifggjcdcodaa.Hand Go.Proofs.YtogifggjcdcodaaW.PrintWords Go.Proofs.YtogifggjcdcodaaW.PrintLast Go.Proofs.YtogifggjcdcodaaW.PrintMore
set_option linter.unusedVariables false
set_option linter.unusedSimpArgs false
theorem bit_nat (a w : Nat) (hw : w ≤ 62) : spec_l1Bit.f (a : Int) (w : Int) = some (if a.testBit w = true then 1 else 0) := by
  unfold spec_l1Bit.f
  rw [if_pos (by omega), shr_nat a w hw, tmod2]
theorem both_l0 (a b : Nat) : ∀ (d w k : Nat), w + d = 8 → d < k →
    spec_l1Both.l0 k a b (sumN w (fun i => a.testBit i && b.testBit i) : Nat) w = some ((sumN 8 (fun i => a.testBit i && b.testBit i) : Nat) : Int) := by
  intro d
  induction d with
  | zero =>
    intro w k hw hk
    obtain ⟨m, rfl⟩ : ∃ m, k = m + 1 := ⟨k - 1, by omega⟩
    obtain rfl : w = 8 := by omega
    simp only [spec_l1Both.l0]
    rw [if_neg (by omega)]
  | succ d ih =>
    intro w k hw hk
    obtain ⟨m, rfl⟩ : ∃ m, k = m + 1 := ⟨k - 1, by omega⟩
    have hlt := sumN_lt w (fun i => a.testBit i && b.testBit i)
    have hp : 2 ^ w ≤ 2 ^ 7 := Nat.pow_le_pow_right (by decide) (by omega)
    have e1 : wrap64 ((w : Int) + 1) = ((w + 1 : Nat) : Int) := by rw [w64 (by omega) (by omega)]; simp
    have key : ∀ x y : Bool, wrap64 (((sumN w (fun i => a.testBit i && b.testBit i) : Nat) : Int) + shl .i64 (wrap64 ((if x = true then 1 else 0) * (if y = true then 1 else 0))) (w : Int)) = ((sumN w (fun i => a.testBit i && b.testBit i) + (if (x && y) = true then 2 ^ w else 0) : Nat) : Int) := by
      intro x y
      generalize sumN w (fun i => a.testBit i && b.testBit i) = q at hlt
      have s0 : shl .i64 (wrap64 0) (w : Int) = 0 := by
        have := shl_nat 0 w (by omega) (by omega)
        rw [Nat.zero_mul] at this
        rw [show wrap64 0 = 0 from w64 (by omega) (by omega)]
        exact this
      have s1 : shl .i64 (wrap64 1) (w : Int) = ((2 ^ w : Nat) : Int) := by
        have := shl_nat 1 w (by omega) (by omega)
        rw [Nat.one_mul] at this
        rw [show wrap64 1 = 1 from w64 (by omega) (by omega)]
        exact this
      generalize 2 ^ w = e at s1 hlt hp
      cases x <;> cases y
      · show wrap64 ((q : Int) + shl .i64 (wrap64 0) (w : Int)) = _
        rw [s0, w64 (by omega) (by omega)]; simp
      · show wrap64 ((q : Int) + shl .i64 (wrap64 0) (w : Int)) = _
        rw [s0, w64 (by omega) (by omega)]; simp
      · show wrap64 ((q : Int) + shl .i64 (wrap64 0) (w : Int)) = _
        rw [s0, w64 (by omega) (by omega)]; simp
      · show wrap64 ((q : Int) + shl .i64 (wrap64 1) (w : Int)) = _
        rw [s1, w64 (by omega) (by omega)]; simp
    have key := key (a.testBit w) (b.testBit w)
    rw [show sumN w (fun i => a.testBit i && b.testBit i) + (if (a.testBit w && b.testBit w) = true then 2 ^ w else 0) = sumN (w + 1) (fun i => a.testBit i && b.testBit i) from rfl] at key
    simp only [spec_l1Both.l0]
    rw [if_pos (by omega), bit_nat a w (by omega)]
    simp only [Option.bind_some]
    rw [bit_nat b w (by omega)]
    simp only [Option.bind_some]
    rw [if_pos (by omega), key, e1]
    exact ih (w + 1) m (by omega) (by omega)
/-- What is in both sets. -/
theorem both_nat (a b k : Nat) (ha : a < 256) (hk : 9 ≤ k) : spec_l1Both.f k (a : Int) (b : Int) = some ((a &&& b : Nat) : Int) := by
  have h := both_l0 a b 8 0 k (by omega) (by omega)
  have e : sumN 8 (fun i => a.testBit i && b.testBit i) = a &&& b := by
    have h2 : a &&& b < 2 ^ 8 := Nat.lt_of_le_of_lt Nat.and_le_left ha
    rw [← sumN_bits 8 (a &&& b) h2]
    exact sumN_congr _ _ _ fun i _ => by rw [Nat.testBit_and]
  rw [e] at h
  unfold spec_l1Both.f
  simpa [sumN] using h
end Go.Proofs.Ytogifggjcdcodaa.L
namespace Go.Proofs.Ytogifggjcdcodaa.L
open Go.RowKit Go.Proofs.Ytogifggjcdcodaa.Hand Go.Proofs.YtogifggjcdcodaaW.PrintWords
set_option linter.unusedVariables false
set_option linter.unusedSimpArgs false
theorem mem_rd {l : List Int} {x : Int} (h : x ∈ l) : ∃ i : Nat, i < l.length ∧ rd l (i : Int) = x := by
  obtain ⟨i, hi, e⟩ := List.mem_iff_getElem.1 h
  refine ⟨i, hi, ?_⟩
  unfold rd
  rw [Int.toNat_natCast, List.getD_eq_getElem?_getD, List.getElem?_eq_getElem hi]; exact e
end Go.Proofs.Ytogifggjcdcodaa.L
namespace Go.Proofs.Ytogifggjcdcodaa.L
open Go.RowKit Go.Proofs.Ytogifggjcdcodaa.B Go.Proofs.Ytogifggjcdcodaa.P Go.Proofs.Ytogifggjcdcodaa.Hand Go.Proofs.YtogifggjcdcodaaW.PrintWords Go.Proofs.YtogifggjcdcodaaW.PrintLast Go.Proofs.YtogifggjcdcodaaW.PrintMore
set_option linter.unusedVariables false
set_option linter.unusedSimpArgs false
theorem sTableOk_l0 (t : Int) (l : List Int) (hl : l.length ≤ 2000000) : ∀ (d i k : Nat), i + d = l.length → d < k →
    spec_TableOk.l0 k t l i = some ((l.drop i).all (fun s => okS t s) && ((decide (1 ≤ t) && decide (t ≤ 2)) && decide ((l.length : Int) = allW t + 1))) := by
  intro d
  induction d with
  | zero =>
    intro i k hi hk
    obtain ⟨q, rfl⟩ : ∃ q, k = q + 1 := ⟨k - 1, by omega⟩
    simp only [spec_TableOk.l0]
    rw [if_neg (by omega), List.drop_eq_nil_of_le (by omega), l1In_eq]
    simp only [Option.bind_some, List.all_nil, Bool.true_and]
    cases hb : (decide (1 ≤ t) && decide (t ≤ 2)) with
    | false => simp
    | true =>
      have ht : okT t = true := by
        unfold okT; simp at hb; simp; omega
      have := allW_range ht
      rw [if_pos rfl, l1All_eq t ht]
      simp only [Option.bind_some]
      rw [w64 (by omega) (by omega)]
      rfl
  | succ d ih =>
    intro i k hi hk
    obtain ⟨q, rfl⟩ : ∃ q, k = q + 1 := ⟨k - 1, by omega⟩
    simp only [spec_TableOk.l0]
    rw [if_pos (by omega), if_pos (by omega), sSetOk_eq, drop_cons l i (by omega)]
    simp only [Option.bind_some, List.all_cons]
    cases hx : okS t (rd l (i : Int)) with
    | false => simp
    | true =>
      rw [if_pos rfl, next64 i (by omega), ih (i + 1) q (by omega) (by omega)]
      simp
theorem sTableOk_eq (t : Int) (l : List Int) (k : Nat) (hl : l.length ≤ 2000000) (hk : l.length < k) : spec_TableOk.f k t l = some (okTab t l) := by
  have h := sTableOk_l0 t l hl l.length 0 k (by omega) hk
  unfold spec_TableOk.f
  rw [show ((0 : Nat) : Int) = 0 from rfl, List.drop_zero] at h
  rw [h]
  unfold okTab
  rw [Bool.and_comm, Bool.and_assoc]
end Go.Proofs.Ytogifggjcdcodaa.L
namespace Go.Proofs.Ytogifggjcdcodaa.L
open Go.RowKit Go.Proofs.Ytogifggjcdcodaa.B Go.Proofs.Ytogifggjcdcodaa.P Go.Proofs.Ytogifggjcdcodaa.Hand Go.Proofs.YtogifggjcdcodaaW.PrintWords Go.Proofs.YtogifggjcdcodaaW.PrintLast Go.Proofs.YtogifggjcdcodaaW.PrintMore
set_option linter.unusedVariables false
set_option linter.unusedSimpArgs false
theorem okTab_cases' {t : Int} {l : List Int} (h : okTab t l = true) : okT t = true ∧ t ≤ 2 ∧ (l.length : Int) = allW t + 1 ∧ (∀ x ∈ l, 0 ≤ x ∧ x ≤ 255) ∧ 4 ≤ l.length ∧ l.length ≤ 16 := by
  unfold okTab at h
  simp only [Bool.and_eq_true, decide_eq_true_eq, List.all_eq_true] at h
  obtain ⟨⟨h1, h2⟩, h3, h4⟩ := h
  have hc : t = 1 ∨ t = 2 := by omega
  refine ⟨by unfold okT; simp; omega, h2, h3, fun x hx => ?_, ?_⟩
  · have := okS_cases (h4 x hx)
    omega
  · rcases hc with rfl | rfl
    · have : allW 1 = 3 := by decide
      omega
    · have : allW 2 = 15 := by decide
      omega
theorem ent_rd {l : List Int} (hp : ∀ x ∈ l, 0 ≤ x ∧ x ≤ 255) (i : Nat) (h : i < l.length) : rd l (i : Int) = ((ent l i : Nat) : Int) ∧ ent l i < 256 := by
  have := hp _ (Hand.mem_rd l i h)
  unfold ent
  omega
/-- FirstFault. -/
def fauE (t : Int) (l : List Int) : Int := if okTab t l = true then fault l else -1
theorem FirstFault_eq (t : Int) (l : List Int) (k : Nat) (hk : 70000 ≤ k) : impl_FirstFault.f k t l = some (fauE t l) := by
  unfold impl_FirstFault.f fauE
  rw [show impl_isTable.f t l = some (okTab t l) from rfl]
  simp only [Option.bind_some]
  cases h : okTab t l with
  | false => simp
  | true =>
    obtain ⟨h1, h2, h3, h4, h5, h6⟩ := okTab_cases' h
    rw [if_pos rfl, firstFault_eq l k (by omega) h4 hk]
    simp
theorem sff_l3 (l : List Int) (hl : l.length ≤ 16) (hp : ∀ x ∈ l, 0 ≤ x ∧ x ≤ 255) (a : Nat) (ha : a < l.length) (K : Nat) (hK : 20 ≤ K) : ∀ (d b k : Nat), b + d = l.length → d + K < k →
    (∀ k', K ≤ k' → spec_FirstFault.l2 k' l ((a + 1 : Nat) : Int) = some (if (from_ (a + 1) l.length).all (fun a => (List.range l.length).all fun b => fault3At l a b) = true then 0 else 3)) →
    spec_FirstFault.l3 k l (a : Int) (b : Int) = some (if ((from_ b l.length).all (fun b => fault3At l a b) && (from_ (a + 1) l.length).all (fun a => (List.range l.length).all fun b => fault3At l a b)) = true then 0 else 3) := by
  obtain ⟨he, he2⟩ := ent_rd hp a ha
  intro d
  induction d with
  | zero =>
    intro b k hb hk h2
    obtain ⟨q, rfl⟩ : ∃ q, k = q + 1 := ⟨k - 1, by omega⟩
    obtain rfl : b = l.length := by omega
    simp only [spec_FirstFault.l3]
    rw [if_neg (by omega), next64 a (by omega), h2 q (by omega), from_end]; simp
  | succ d ih =>
    intro b k hb hk h2
    obtain ⟨q, rfl⟩ : ∃ q, k = q + 1 := ⟨k - 1, by omega⟩
    have hab : a &&& b ≤ a := Nat.and_le_left
    have hIH := ih (b + 1) q (by omega) (by omega) h2
    obtain ⟨hm, hm2⟩ := ent_rd hp (a &&& b) (by omega)
    simp only [spec_FirstFault.l3]
    rw [if_pos (by omega), if_pos (by omega), if_pos (by omega), he, both_nat (ent l a) b q he2 (by omega)]
    simp only [Option.bind_some]
    rw [both_nat a b q (by omega) (by omega), from_cons b _ (by omega), next64 b (by omega), hIH, List.all_cons]
    simp only [Option.bind_some]
    have hF : fault3At l a b = (ent l a &&& b == 0 || ent l a &&& b == ent l (a &&& b)) := rfl
    rw [hF]
    by_cases hz : ent l a &&& b = 0
    · rw [if_pos (by omega)]; simp [hz]
    · rw [if_neg (by omega), if_pos (by omega), if_pos (by omega), hm]
      by_cases hy : ent l a &&& b = ent l (a &&& b)
      · rw [if_pos (by omega)]; simp [hy]
      · rw [if_neg (by omega)]; simp [hy, hz]
theorem sff_l2 (l : List Int) (hl : l.length ≤ 16) (hp : ∀ x ∈ l, 0 ≤ x ∧ x ≤ 255) : ∀ (d a k : Nat), a + d = l.length → (d + 1) * (l.length + 3) + 20 < k →
    spec_FirstFault.l2 k l (a : Int) = some (if (from_ a l.length).all (fun a => (List.range l.length).all fun b => fault3At l a b) = true then 0 else 3) := by
  intro d
  induction d with
  | zero =>
    intro a k ha hk
    obtain ⟨q, rfl⟩ : ∃ q, k = q + 1 := ⟨k - 1, by omega⟩
    obtain rfl : a = l.length := by omega
    simp only [spec_FirstFault.l2]
    rw [if_neg (by omega), from_end]; rfl
  | succ d ih =>
    intro a k ha hk
    obtain ⟨q, rfl⟩ : ∃ q, k = q + 1 := ⟨k - 1, by omega⟩
    simp only [spec_FirstFault.l2]
    have e1 : (d + 1 + 1) * (l.length + 3) = (d + 1) * (l.length + 3) + (l.length + 3) := by rw [Nat.add_mul, Nat.one_mul]
    have h3 := sff_l3 l hl hp a (by omega) ((d + 1) * (l.length + 3) + 21) (by omega) l.length 0 q (by omega) (by omega) (fun k' hk' => ih (a + 1) k' (by omega) (by omega))
    rw [if_pos (by omega), show (0 : Int) = ((0 : Nat) : Int) from rfl, h3, from_cons a _ (by omega), from_zero]; rfl
theorem sff_l1 (l : List Int) (hl : l.length ≤ 16) (hp : ∀ x ∈ l, 0 ≤ x ∧ x ≤ 255) : ∀ (d a k : Nat), 1 ≤ a → a + d = l.length → d + (l.length + 1) * (l.length + 3) + 30 < k →
    spec_FirstFault.l1 k l (a : Int) = some (if (from_ a l.length).all (fun s => s == 0 || !(ent l s == 0)) = true then (if fault3 l = true then 0 else 3) else 2) := by
  intro d
  induction d with
  | zero =>
    intro a k ha1 ha hk
    obtain ⟨q, rfl⟩ : ∃ q, k = q + 1 := ⟨k - 1, by omega⟩
    obtain rfl : a = l.length := by omega
    simp only [spec_FirstFault.l1]
    have h2 := sff_l2 l hl hp l.length 0 q (by omega) (by omega)
    rw [if_neg (by omega), from_end, show (0 : Int) = ((0 : Nat) : Int) from rfl, h2, from_zero]; rfl
  | succ d ih =>
    intro a k ha1 ha hk
    obtain ⟨q, rfl⟩ : ∃ q, k = q + 1 := ⟨k - 1, by omega⟩
    obtain ⟨hm, hm2⟩ := ent_rd hp a (by omega)
    simp only [spec_FirstFault.l1]
    rw [if_pos (by omega), if_pos (by omega), next64 a (by omega), ih (a + 1) q (by omega) (by omega) (by omega), from_cons a _ (by omega), List.all_cons, hm]
    by_cases hz : ent l a = 0
    · rw [if_pos (by omega)]; simp [hz, show ¬ a = 0 by omega]
    · rw [if_neg (by omega)]; simp [hz]
theorem sff_l0 (l : List Int) (hl : l.length ≤ 16) (hl1 : 1 ≤ l.length) (hp : ∀ x ∈ l, 0 ≤ x ∧ x ≤ 255) : ∀ (d a k : Nat), a + d = l.length → d + l.length + (l.length + 1) * (l.length + 3) + 40 < k →
    spec_FirstFault.l0 k l (a : Int) = some (if (from_ a l.length).all (fun s => ent l s &&& s == ent l s) = true then (if fault2 l = true then (if fault3 l = true then 0 else 3) else 2) else 1) := by
  intro d
  induction d with
  | zero =>
    intro a k ha hk
    obtain ⟨q, rfl⟩ : ∃ q, k = q + 1 := ⟨k - 1, by omega⟩
    obtain rfl : a = l.length := by omega
    simp only [spec_FirstFault.l0]
    have h1 := sff_l1 l hl hp (l.length - 1) 1 q (by omega) (by omega) (by omega)
    have h2 : fault2 l = (from_ 1 l.length).all (fun s => s == 0 || !(ent l s == 0)) := by
      unfold fault2
      rw [← from_zero, from_cons 0 _ (by omega), List.all_cons]; simp
    rw [if_neg (by omega), from_end, show (1 : Int) = ((1 : Nat) : Int) from rfl, h1, h2]; rfl
  | succ d ih =>
    intro a k ha hk
    obtain ⟨q, rfl⟩ : ∃ q, k = q + 1 := ⟨k - 1, by omega⟩
    obtain ⟨hm, hm2⟩ := ent_rd hp a (by omega)
    simp only [spec_FirstFault.l0]
    rw [if_pos (by omega), if_pos (by omega), hm, both_nat (ent l a) a q hm2 (by omega)]
    simp only [Option.bind_some]
    rw [next64 a (by omega), ih (a + 1) q (by omega) (by omega), from_cons a _ (by omega), List.all_cons]
    by_cases hz : ent l a &&& a = ent l a
    · rw [if_pos (by omega)]; simp [hz]
    · rw [if_neg (by omega)]; simp [hz]
theorem sFirstFault_eq (t : Int) (l : List Int) (k : Nat) (hl : l.length ≤ 2000000) (hk : l.length + 3000 < k) : spec_FirstFault.f k t l = some (fauE t l) := by
  unfold spec_FirstFault.f fauE
  rw [sTableOk_eq t l k hl (by omega)]
  simp only [Option.bind_some]
  cases h : okTab t l with
  | false => simp
  | true =>
    obtain ⟨h1, h2, h3, h4, h5, h6⟩ := okTab_cases' h
    have e1 : (l.length + 1) * (l.length + 3) ≤ 17 * 19 := Nat.mul_le_mul (by omega) (by omega)
    have h := sff_l0 l h6 (by omega) h4 l.length 0 k (by omega) (by omega)
    rw [if_pos rfl, show (0 : Int) = ((0 : Nat) : Int) from rfl, h, from_zero]
    simp [fault, fault1]
end Go.Proofs.Ytogifggjcdcodaa.L
namespace Go.Proofs.Ytogifggjcdcodaa.Pure
open Go.RowKit Go.Proofs.Ytogifggjcdcodaa.B Go.Proofs.Ytogifggjcdcodaa.P Go.Proofs.Ytogifggjcdcodaa.Hand Go.Proofs.Ytogifggjcdcodaa.L Go.Proofs.YtogifggjcdcodaaW.PrintWords Go.Proofs.YtogifggjcdcodaaW.PrintLast Go.Proofs.YtogifggjcdcodaaW.PrintMore
set_option linter.unusedVariables false
set_option linter.unusedSimpArgs false
theorem FnExactFirstFault : laws_FnExactFirstFault.Pure := by
  intro t l  _ _ _ _
  obtain ⟨k, hk⟩ : ∃ k : Nat, l.length + 100000 ≤ k := ⟨_, Nat.le_refl _⟩
  refine ⟨k, ?_⟩
  unfold laws_FnExactFirstFault.f
  by_cases hl : (l.length : Int) > 1048576
  · rw [if_pos hl]
  · rw [if_neg hl, toIntS_eq l _ (by omega) (by omega)]
    simp only [Option.bind_some]
    rw [sFirstFault_eq t l  _ (by omega) (by omega)]
    simp only [Option.bind_some]
    rw [FirstFault_eq t l  _ (by omega)]
    simp only [Option.bind_some]
    rw [if_pos trivial, eqIntS_refl l _ (by omega) (by omega)]
    simp
end Go.Proofs.Ytogifggjcdcodaa.Pure
