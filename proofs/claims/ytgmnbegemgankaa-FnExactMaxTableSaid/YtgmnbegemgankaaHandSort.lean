/- slices.Sort leaves the same numbers in ascending order, and slices.Compact hands back the row without neighbours that are alike, at a row of the call's own of at most 1000 numbers. -/
import Derived.Test.YtgmnbegemgankaaHandShelf
import Derived.Test.YtgmnbegemgankaaHandF
import Derived.Sort.OwnSortedInts
import Derived.Test.YtgmnbegemgankaaWKept
namespace Go.Proofs.Ytgmnbegemgankaa.Hand
open Go.RowKit Go.Sort Go.Proofs.YtgmnbegemgankaaW.PrintWords Go.Proofs.YtgmnbegemgankaaW.PrintLast Go.Proofs.YtgmnbegemgankaaW.PrintMore
set_option linter.unusedVariables false
set_option linter.unusedSimpArgs false

def slices_Sort_int_int.f (l : List Int) : Option (List Int) := if l.length ≤ 1000 then some (l.mergeSort fun x y => decide (x ≤ y)) else none
def slices_Compact_int_int.f (l : List Int) : Option (List Int) := if l.length ≤ 1000 then some (Lib.compact l) else none

theorem compact_len (l : List Int) : (Lib.compact l).length ≤ l.length := by
  unfold Lib.compact Lib.compactUpTo
  rw [List.length_map]
  exact Nat.le_trans (List.length_filter_le _ _) (by simp)

def padC (l : List Int) : List Int := Lib.compact l ++ List.replicate (l.length - (Lib.compact l).length) 0
theorem pad_len (l : List Int) : (padC l).length = l.length := by
  have := compact_len l
  simp [padC]; omega

theorem slices_Sort_int_int.calls (P0_ : Nat → Prop) (u : Value) (l0 : List Int) (r : List Int) (w0 w : World) (hB : Below w0.heap.size w0 w) (ho0 : Kd.R (Kd.int .i64) 3 w w0.heap.size P0_ u l0) (h : slices_Sort_int_int.f l0 = some r) :
    Calls Try.prog 72 #[u] w fun e w' => e = .returned (.tuple #[]) ∧ Kd.R (Kd.int .i64) 3 w' w0.heap.size (fun k_ => (P0_ k_ ∨ w.heap.size ≤ k_)) u r ∧ Below w0.heap.size w0 w' ∧ Kept w w' (fun k_ => P0_ k_) := by
  unfold slices_Sort_int_int.f at h
  by_cases hl : l0.length ≤ 1000
  · rw [if_pos hl] at h
    obtain rfl := Option.some.inj h
    have hown := Kd.own_of_R (enc := Value.int .i64) (h1 := fun _ => rfl) ho0
    rcases hown.2 with ⟨rfl, h0⟩ | ⟨g, cap, cur, rfl, hbase, hb, h1, h2, h3, h4⟩
    · obtain rfl : l0 = [] := List.length_eq_zero_iff.1 h0
      refine (Try.slices_Sort_int_none none 0 w).mono ?_
      rintro e w' ⟨rfl, rfl⟩
      exact ⟨rfl, Kd.R_mono (by simpa using ho0) (fun k hk => .inl hk), hB, Kept.refl _ _⟩
    · have hH : Holds (Value.int .i64) w g 0 l0.toArray := holds_of_blockI hb (by have h5 := h4; rw [Nat.mul_one] at h5; exact h5)
      have hg : g < w.heap.size := (Array.getElem?_eq_some_iff.1 hb).1
      refine (Try.slices_Sort_int g 0 cap l0 w hH hg (by omega)).mono ?_
      rintro e w' ⟨rfl, n, os, rfl⟩
      have hgr := grownBy_sortedI (w := w) (g := g) (n := n) (os := os) (l0.mergeSort fun x y => decide (x ≤ y)).toArray
      have hrow := ownsRow_sortedI (w := w) (n := n) (os := os) (ss := l0) (ts := l0.mergeSort fun x y => decide (x ≤ y)) (by simp) hbase hb h1 h2 h3
      refine ⟨rfl, ?_, hB.grown hgr hB.size (fun k hk => by cases hk; exact hbase), Kept.of_grown hgr (Kept.refl _ _) (fun k hk => by cases hk; exact .inl (ho0.1 g rfl))⟩
      have hlen : (l0.mergeSort fun x y => decide (x ≤ y)).length = l0.length := by simp
      rw [← hlen] at hrow
      exact Kd.R_of_own (enc := Value.int .i64) (h1 := fun _ => rfl) (by rw [hlen] at hrow ⊢; exact hrow) (fun k hk => by cases hk; exact .inl (ho0.1 g rfl))
  · rw [if_neg hl] at h
    exact absurd h (by simp)

theorem slices_Compact_int_int.calls (P0_ : Nat → Prop) (u : Value) (l0 : List Int) (r : List Int) (w0 w : World) (hB : Below w0.heap.size w0 w) (ho0 : Kd.R (Kd.int .i64) 3 w w0.heap.size P0_ u l0) (h : slices_Compact_int_int.f l0 = some r) :
    Calls Try.prog 73 #[u] w fun e w' => ∃ v0_ : Value, e = .returned v0_ ∧ Kd.R (Kd.int .i64) 3 w' w0.heap.size (fun k_ => (P0_ k_ ∨ w.heap.size ≤ k_)) v0_ r ∧ Below w0.heap.size w0 w' ∧ Kept w w' (fun k_ => P0_ k_) := by
  unfold slices_Compact_int_int.f at h
  by_cases hl : l0.length ≤ 1000
  · rw [if_pos hl] at h
    obtain rfl := Option.some.inj h
    have hown := Kd.own_of_R (enc := Value.int .i64) (h1 := fun _ => rfl) ho0
    rcases hown.2 with ⟨rfl, h0⟩ | ⟨g, cap, cur, rfl, hbase, hb, h1, h2, h3, h4⟩
    · obtain rfl : l0 = [] := List.length_eq_zero_iff.1 h0
      refine (Try.slices_Compact_int_empty none 0 w).mono ?_
      rintro e w' ⟨rfl, rfl⟩
      exact ⟨_, rfl, Kd.R_mono (show Kd.R (Kd.int .i64) 3 _ w0.heap.size P0_ (.slice none 0 0) (Lib.compact []) from ho0) (fun k hk => .inl hk), hB, Kept.refl _ _⟩
    · have hH : Holds (Value.int .i64) w g 0 l0.toArray := holds_of_blockI hb (by have h5 := h4; rw [Nat.mul_one] at h5; exact h5)
      have hg : g < w.heap.size := (Array.getElem?_eq_some_iff.1 hb).1
      refine (Try.slices_Compact_int g 0 cap l0 w hH (by omega) h1).mono ?_
      rintro e w' ⟨rfl, q, rfl⟩
      have hcl := compact_len l0
      have hlen := pad_len l0
      have hgr := grownBy_sortedI (w := w) (g := g) (n := q) (os := #[]) (padC l0).toArray
      have htk := take_putCellsI cur (padC l0) (by rw [hlen]; omega)
      have hrow : (grow (putRow (Value.int .i64) (Sort.ahead w q) g 0 (padC l0).toArray) #[]).ownsRow w0.heap.size 3 1 (.slice (some ⟨g, 0, none⟩) (Lib.compact l0).length cap) (Lib.compact l0).length (encs (Value.int .i64) (Lib.compact l0)) := by
        refine ⟨by simp [encs], .inr ⟨g, cap, _, rfl, hbase, heap_sortedI _ hb, by omega, h2, by simp [putCells, h3], ?_⟩⟩
        rw [Nat.mul_one]
        have h6 := congrArg (List.take (Lib.compact l0).length) htk
        rw [List.take_take, hlen, Nat.min_eq_left hcl] at h6
        rw [h6]
        simp [encs, padC]
      have hfin : ∀ W' : World, W' = grow (putRow (Value.int .i64) (Sort.ahead w q) g 0 (padC l0).toArray) #[] → ∃ v0_ : Value, Ending.returned (.slice (some ⟨g, 0, none⟩) (Lib.compact l0).length cap) = .returned v0_ ∧ Kd.R (Kd.int .i64) 3 W' w0.heap.size (fun k_ => (P0_ k_ ∨ w.heap.size ≤ k_)) v0_ (Lib.compact l0) ∧ Below w0.heap.size w0 W' ∧ Kept w W' (fun k_ => P0_ k_) := by
        rintro W' rfl
        exact ⟨_, rfl, Kd.R_of_own (enc := Value.int .i64) (h1 := fun _ => rfl) hrow (fun k hk => by cases hk; exact .inl (ho0.1 g rfl)), hB.grown hgr hB.size (fun k hk => by cases hk; exact hbase), Kept.of_grown hgr (Kept.refl _ _) (fun k hk => by cases hk; exact .inl (ho0.1 g rfl))⟩
      exact hfin _ (grow_empty _).symm
  · rw [if_neg hl] at h
    exact absurd h (by simp)

end Go.Proofs.Ytgmnbegemgankaa.Hand
