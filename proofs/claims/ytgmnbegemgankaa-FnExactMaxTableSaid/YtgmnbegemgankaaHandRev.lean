/- surpriseOf, revisedBy return just the numbers that the words below tell, at ranks of as many worlds as there are and a set of them. -/
import Derived.Test.YtgmnbegemgankaaHandSet
import Derived.Test.YtgmnbegemgankaaHandBase
import Derived.Deep.LoopGhost
import Derived.Deep.QuietTactic
import Derived.BigQuiet
import Derived.Lib.Hide
import Derived.Shelf.Abstract
namespace Go.Proofs.Ytgmnbegemgankaa.Hand
open Go.RowKit Go.Proofs.Ytgmnbegemgankaa.B Go.Proofs.YtgmnbegemgankaaW.PrintWords Go.Proofs.YtgmnbegemgankaaW.PrintLast Go.Proofs.YtgmnbegemgankaaW.PrintMore
set_option linter.unusedVariables false
set_option linter.unusedSimpArgs false

theorem rev_and (l : List Int) (s : Int) (h0 : 0 ≤ s) (h1 : s < 4611686018427387904) (hl : l.length ≤ 60) :
    Go.bits .and .i64 s (sumN l.length (fun x => rd l (x : Int) == least l s) : Nat) = rev l s := by
  obtain ⟨a, rfl⟩ := Int.eq_ofNat_of_zero_le h0
  have h2 := sumN_lt l.length (fun x => rd l (x : Int) == least l a)
  have h3 : 2 ^ l.length ≤ 2 ^ 60 := Nat.pow_le_pow_right (by decide) hl
  rw [and_i64 _ _ (by omega) (by omega), sumN_and]
  unfold rev bit
  rw [Int.toNat_natCast]

/-- The test of revisedBy: a world's rank is the least one. -/
theorem revTells (A1 : Option Addr) (c1 : Nat) (l1 : List Int) (m : Int) (n B1 B2 : Nat) (w w0 : World) (hb0 : Below w0.heap.size w0 w) (hn : n ≤ l1.length) (hr : Kd.C (Kd.int .i64) w0 A1 l1.length l1)
    (h1 : w.heap[B1]? = some (.cells #[.slice A1 l1.length c1] 29 (0, 0))) (h2 : w.heap[B2]? = some (.cells #[.int .i64 m] 3 (0, 0))) :
    Tells 76 #[.pointer (some ⟨B1, 0, none⟩), .pointer (some ⟨B2, 0, none⟩)] n (fun x => rd l1 (x : Int) == m) w := by
  intro W x hx hb
  obtain ⟨ad, e, hx0⟩ := Kd.at_int hr (x : Int) (by omega) (by omega)
  subst e
  have hx1 := (hb0.cell (World.block_lt_of_cell? w0 _ hx0)).trans hx0
  have hcx := (hb.cell (World.block_lt_of_cell? w _ hx1)).trans hx1
  rw [Int.toNat_natCast] at hcx
  have hc1 : W.cell? ⟨B1, 0, none⟩ = some (.slice (some ad) l1.length c1) := (hb.cell (p := ⟨B1, 0, none⟩) (blk_lt h1)).trans (blk_cell h1 0)
  have hc2 : W.cell? ⟨B2, 0, none⟩ = some (.int .i64 m) := (hb.cell (p := ⟨B2, 0, none⟩) (blk_lt h2)).trans (blk_cell h2 0)
  have p1 := eq_true (show (0 : Int) ≤ (x : Int) by omega)
  have p2 := eq_true (show (x : Int) < (l1.length : Int) by omega)
  clear hr hx0 hx1 h1 h2 hb hb0
  go_enter Try.func76, Try.ntmps76
  go_wp2
  go_quiet (fail)
  go_wp2
  go_ret
  exact ⟨rfl, _, rfl⟩

/-- revisedBy: where there are ranks of as many worlds as there are, and a set of them. -/
def impl_revisedBy.f (t : Int) (l : List Int) (s : Int) : Option Int :=
  if okT t = true ∧ (l.length : Int) = nW t ∧ 0 ≤ s ∧ s ≤ 255 then some (rev l s) else none

set_option maxHeartbeats 2000000 in
theorem impl_revisedBy.calls (a0 : Int) (A1 : Option Addr) (c1 : Nat) (l1 : List Int) (a2 : Int) (r : Int) (w : World) (hr1 : Kd.C (Kd.int .i64) w A1 l1.length l1) (hc1 : l1.length ≤ c1) (h : impl_revisedBy.f a0 l1 a2 = some r) :
    Calls Try.prog 55 #[.int .i64 a0, .slice A1 l1.length c1, .int .i64 a2] w fun e w' => e = .returned (.int .i64 r) ∧ Below w.heap.size w w' := by
  unfold impl_revisedBy.f at h
  by_cases hc : okT a0 = true ∧ (l1.length : Int) = nW a0 ∧ 0 ≤ a2 ∧ a2 ≤ 255
  · rw [if_pos hc] at h
    obtain ⟨ht, hl, h0, h1⟩ := hc
    have hn : a0 = 1 ∧ l1.length = 2 ∨ a0 = 2 ∧ l1.length = 4 ∨ a0 = 3 ∧ l1.length = 8 := by
      unfold nW at hl
      rw [if_pos ht] at hl
      rcases okT_cases ht with rfl | rfl | rfl
      · left; simp at hl; omega
      · right; left; simp at hl; omega
      · right; right; simp at hl; omega
    have HS := Lib.hid (surpriseOf_eq l1 a2 100 h0 (by omega) (by omega) (by omega))
    obtain rfl := Option.some.inj h
    have HN := Lib.hid hn
    have HR := Lib.hid hr1
    have HT := Lib.hid ht
    have HL := Lib.hid hl
    clear hn hr1 hl ht h
    go_enter Try.func55, Try.ntmps55
    go_wp2_with fail
    refine (impl_surpriseOf.calls 100 A1 c1 l1 a2 _ _ (Kd.C_alloc HR.out _) hc1 HS.out).mono ?_
    rintro e w1 ⟨rfl, hb1⟩
    have HB1 := Lib.hid hb1
    have HK1 := Lib.hid (blk_below (blk_new w (.cells #[.slice A1 l1.length c1] 29)) hb1)
    have hsz : w.heap.size + 1 ≤ w1.heap.size := by have := hb1.size; simpa using this
    clear hb1
    go_wp2_with fail
    refine (setThat_at l1.length a0 HN.out 76 #[.pointer (some ⟨w.heap.size, 0, none⟩), .pointer (some ⟨w1.heap.size, 0, none⟩)] (enters_of Try.func76 (by kernel_rfl) rfl) (fun x => rd l1 (x : Int) == least l1 a2) _
      (revTells A1 c1 l1 (least l1 a2) l1.length w.heap.size w1.heap.size _ w ?hb (Nat.le_refl _) HR.out ?h1 ?h2)).mono ?_
    case hb => exact ((Below.refl _ w).alloc (Nat.le_refl _) _).trans ((HB1.out.mono (by simp)).alloc (by omega) _)
    case h1 => exact (Below.heap_alloc _ _ _ (by omega)).trans HK1.out
    case h2 => exact blk_new w1 _
    rintro e w2 ⟨rfl, q, rfl⟩
    go_wp2
    go_ret
    refine ⟨?_, ?_⟩
    · rw [rev_and l1 a2 h0 (by omega) (by have := HN.out; omega)]; rfl
    · exact pw_below_drewN (((Below.refl _ w).alloc (Nat.le_refl _) _).trans ((HB1.out.mono (by simp)).alloc (by omega) _)) q
  · rw [if_neg hc] at h
    exact absurd h (by simp)

end Go.Proofs.Ytgmnbegemgankaa.Hand
