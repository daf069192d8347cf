/- worldText returns the sentence of a world from a thing on, for 1, 2 and 3 things, their worlds and things. -/
import Derived.Test.YtgmnbegemgankaaProg
import Derived.Test.YtgmnbegemgankaaHandF
import Derived.RowKit
import Derived.OwnWalk
import Derived.WalkKit
import Derived.KernelRfl
namespace Go.Proofs.Ytgmnbegemgankaa.Hand
open Go.RowKit Go.Proofs.YtgmnbegemgankaaW.PrintWords Go.Proofs.YtgmnbegemgankaaW.PrintLast Go.Proofs.YtgmnbegemgankaaW.PrintMore
set_option linter.unusedVariables false
set_option linter.unusedSimpArgs false

/-- The sentence of world w from thing i on, d things yet to come. -/
def wtext (w : Nat) : Nat → Nat → List UInt8
  | 0, _ => []
  | d + 1, i =>
    let own : List UInt8 := if w.testBit i = true then [97 + UInt8.ofNat i] else [33, 97 + UInt8.ofNat i]
    if d = 0 then own else [40] ++ own ++ [38] ++ wtext w d (i + 1) ++ [41]

/-- The places that worldText is asked at. -/
def wtAt (t w i : Int) : Bool := okT t && (decide (0 ≤ w) && decide (w < nW t) && (decide (0 ≤ i) && decide (i < t)))

def impl_worldText.f (t w i : Int) : Option ByteArray := if wtAt t w i = true then some ⟨(wtext w.toNat (t - i).toNat i.toNat).toArray⟩ else none

theorem wt_1_0_0 (w : World) : Calls Try.prog 78 #[.int .i64 1, .int .i64 0, .int .i64 0] w fun e w' => e = .returned (.string ⟨#[33, 97]⟩) ∧ w = w' := by
  go_enter Try.func78, Try.ntmps78
  go_wp2
  go_ret
  exact ⟨by first | rfl | decide, rfl⟩
theorem wt_1_1_0 (w : World) : Calls Try.prog 78 #[.int .i64 1, .int .i64 1, .int .i64 0] w fun e w' => e = .returned (.string ⟨#[97]⟩) ∧ w = w' := by
  go_enter Try.func78, Try.ntmps78
  go_wp2
  go_ret
  exact ⟨by first | rfl | decide, rfl⟩
theorem wt_2_0_1 (w : World) : Calls Try.prog 78 #[.int .i64 2, .int .i64 0, .int .i64 1] w fun e w' => e = .returned (.string ⟨#[33, 98]⟩) ∧ w = w' := by
  go_enter Try.func78, Try.ntmps78
  go_wp2
  go_ret
  exact ⟨by first | rfl | decide, rfl⟩
theorem wt_2_0_0 (w : World) : Calls Try.prog 78 #[.int .i64 2, .int .i64 0, .int .i64 0] w fun e w' => e = .returned (.string ⟨#[40, 33, 97, 38, 33, 98, 41]⟩) ∧ w = w' := by
  go_enter Try.func78, Try.ntmps78
  go_wp2_with (go_at_call 78; refine (wt_2_0_1 _).mono ?_; rintro e w' ⟨rfl, rfl⟩)
  go_ret
  exact ⟨by first | rfl | decide, rfl⟩
theorem wt_2_1_1 (w : World) : Calls Try.prog 78 #[.int .i64 2, .int .i64 1, .int .i64 1] w fun e w' => e = .returned (.string ⟨#[33, 98]⟩) ∧ w = w' := by
  go_enter Try.func78, Try.ntmps78
  go_wp2
  go_ret
  exact ⟨by first | rfl | decide, rfl⟩
theorem wt_2_1_0 (w : World) : Calls Try.prog 78 #[.int .i64 2, .int .i64 1, .int .i64 0] w fun e w' => e = .returned (.string ⟨#[40, 97, 38, 33, 98, 41]⟩) ∧ w = w' := by
  go_enter Try.func78, Try.ntmps78
  go_wp2_with (go_at_call 78; refine (wt_2_1_1 _).mono ?_; rintro e w' ⟨rfl, rfl⟩)
  go_ret
  exact ⟨by first | rfl | decide, rfl⟩
theorem wt_2_2_1 (w : World) : Calls Try.prog 78 #[.int .i64 2, .int .i64 2, .int .i64 1] w fun e w' => e = .returned (.string ⟨#[98]⟩) ∧ w = w' := by
  go_enter Try.func78, Try.ntmps78
  go_wp2
  go_ret
  exact ⟨by first | rfl | decide, rfl⟩
theorem wt_2_2_0 (w : World) : Calls Try.prog 78 #[.int .i64 2, .int .i64 2, .int .i64 0] w fun e w' => e = .returned (.string ⟨#[40, 33, 97, 38, 98, 41]⟩) ∧ w = w' := by
  go_enter Try.func78, Try.ntmps78
  go_wp2_with (go_at_call 78; refine (wt_2_2_1 _).mono ?_; rintro e w' ⟨rfl, rfl⟩)
  go_ret
  exact ⟨by first | rfl | decide, rfl⟩
theorem wt_2_3_1 (w : World) : Calls Try.prog 78 #[.int .i64 2, .int .i64 3, .int .i64 1] w fun e w' => e = .returned (.string ⟨#[98]⟩) ∧ w = w' := by
  go_enter Try.func78, Try.ntmps78
  go_wp2
  go_ret
  exact ⟨by first | rfl | decide, rfl⟩
theorem wt_2_3_0 (w : World) : Calls Try.prog 78 #[.int .i64 2, .int .i64 3, .int .i64 0] w fun e w' => e = .returned (.string ⟨#[40, 97, 38, 98, 41]⟩) ∧ w = w' := by
  go_enter Try.func78, Try.ntmps78
  go_wp2_with (go_at_call 78; refine (wt_2_3_1 _).mono ?_; rintro e w' ⟨rfl, rfl⟩)
  go_ret
  exact ⟨by first | rfl | decide, rfl⟩
theorem wt_3_0_2 (w : World) : Calls Try.prog 78 #[.int .i64 3, .int .i64 0, .int .i64 2] w fun e w' => e = .returned (.string ⟨#[33, 99]⟩) ∧ w = w' := by
  go_enter Try.func78, Try.ntmps78
  go_wp2
  go_ret
  exact ⟨by first | rfl | decide, rfl⟩
theorem wt_3_0_1 (w : World) : Calls Try.prog 78 #[.int .i64 3, .int .i64 0, .int .i64 1] w fun e w' => e = .returned (.string ⟨#[40, 33, 98, 38, 33, 99, 41]⟩) ∧ w = w' := by
  go_enter Try.func78, Try.ntmps78
  go_wp2_with (go_at_call 78; refine (wt_3_0_2 _).mono ?_; rintro e w' ⟨rfl, rfl⟩)
  go_ret
  exact ⟨by first | rfl | decide, rfl⟩
theorem wt_3_0_0 (w : World) : Calls Try.prog 78 #[.int .i64 3, .int .i64 0, .int .i64 0] w fun e w' => e = .returned (.string ⟨#[40, 33, 97, 38, 40, 33, 98, 38, 33, 99, 41, 41]⟩) ∧ w = w' := by
  go_enter Try.func78, Try.ntmps78
  go_wp2_with (go_at_call 78; refine (wt_3_0_1 _).mono ?_; rintro e w' ⟨rfl, rfl⟩)
  go_ret
  exact ⟨by first | rfl | decide, rfl⟩
theorem wt_3_1_2 (w : World) : Calls Try.prog 78 #[.int .i64 3, .int .i64 1, .int .i64 2] w fun e w' => e = .returned (.string ⟨#[33, 99]⟩) ∧ w = w' := by
  go_enter Try.func78, Try.ntmps78
  go_wp2
  go_ret
  exact ⟨by first | rfl | decide, rfl⟩
theorem wt_3_1_1 (w : World) : Calls Try.prog 78 #[.int .i64 3, .int .i64 1, .int .i64 1] w fun e w' => e = .returned (.string ⟨#[40, 33, 98, 38, 33, 99, 41]⟩) ∧ w = w' := by
  go_enter Try.func78, Try.ntmps78
  go_wp2_with (go_at_call 78; refine (wt_3_1_2 _).mono ?_; rintro e w' ⟨rfl, rfl⟩)
  go_ret
  exact ⟨by first | rfl | decide, rfl⟩
theorem wt_3_1_0 (w : World) : Calls Try.prog 78 #[.int .i64 3, .int .i64 1, .int .i64 0] w fun e w' => e = .returned (.string ⟨#[40, 97, 38, 40, 33, 98, 38, 33, 99, 41, 41]⟩) ∧ w = w' := by
  go_enter Try.func78, Try.ntmps78
  go_wp2_with (go_at_call 78; refine (wt_3_1_1 _).mono ?_; rintro e w' ⟨rfl, rfl⟩)
  go_ret
  exact ⟨by first | rfl | decide, rfl⟩
theorem wt_3_2_2 (w : World) : Calls Try.prog 78 #[.int .i64 3, .int .i64 2, .int .i64 2] w fun e w' => e = .returned (.string ⟨#[33, 99]⟩) ∧ w = w' := by
  go_enter Try.func78, Try.ntmps78
  go_wp2
  go_ret
  exact ⟨by first | rfl | decide, rfl⟩
theorem wt_3_2_1 (w : World) : Calls Try.prog 78 #[.int .i64 3, .int .i64 2, .int .i64 1] w fun e w' => e = .returned (.string ⟨#[40, 98, 38, 33, 99, 41]⟩) ∧ w = w' := by
  go_enter Try.func78, Try.ntmps78
  go_wp2_with (go_at_call 78; refine (wt_3_2_2 _).mono ?_; rintro e w' ⟨rfl, rfl⟩)
  go_ret
  exact ⟨by first | rfl | decide, rfl⟩
theorem wt_3_2_0 (w : World) : Calls Try.prog 78 #[.int .i64 3, .int .i64 2, .int .i64 0] w fun e w' => e = .returned (.string ⟨#[40, 33, 97, 38, 40, 98, 38, 33, 99, 41, 41]⟩) ∧ w = w' := by
  go_enter Try.func78, Try.ntmps78
  go_wp2_with (go_at_call 78; refine (wt_3_2_1 _).mono ?_; rintro e w' ⟨rfl, rfl⟩)
  go_ret
  exact ⟨by first | rfl | decide, rfl⟩
theorem wt_3_3_2 (w : World) : Calls Try.prog 78 #[.int .i64 3, .int .i64 3, .int .i64 2] w fun e w' => e = .returned (.string ⟨#[33, 99]⟩) ∧ w = w' := by
  go_enter Try.func78, Try.ntmps78
  go_wp2
  go_ret
  exact ⟨by first | rfl | decide, rfl⟩
theorem wt_3_3_1 (w : World) : Calls Try.prog 78 #[.int .i64 3, .int .i64 3, .int .i64 1] w fun e w' => e = .returned (.string ⟨#[40, 98, 38, 33, 99, 41]⟩) ∧ w = w' := by
  go_enter Try.func78, Try.ntmps78
  go_wp2_with (go_at_call 78; refine (wt_3_3_2 _).mono ?_; rintro e w' ⟨rfl, rfl⟩)
  go_ret
  exact ⟨by first | rfl | decide, rfl⟩
theorem wt_3_3_0 (w : World) : Calls Try.prog 78 #[.int .i64 3, .int .i64 3, .int .i64 0] w fun e w' => e = .returned (.string ⟨#[40, 97, 38, 40, 98, 38, 33, 99, 41, 41]⟩) ∧ w = w' := by
  go_enter Try.func78, Try.ntmps78
  go_wp2_with (go_at_call 78; refine (wt_3_3_1 _).mono ?_; rintro e w' ⟨rfl, rfl⟩)
  go_ret
  exact ⟨by first | rfl | decide, rfl⟩
theorem wt_3_4_2 (w : World) : Calls Try.prog 78 #[.int .i64 3, .int .i64 4, .int .i64 2] w fun e w' => e = .returned (.string ⟨#[99]⟩) ∧ w = w' := by
  go_enter Try.func78, Try.ntmps78
  go_wp2
  go_ret
  exact ⟨by first | rfl | decide, rfl⟩
theorem wt_3_4_1 (w : World) : Calls Try.prog 78 #[.int .i64 3, .int .i64 4, .int .i64 1] w fun e w' => e = .returned (.string ⟨#[40, 33, 98, 38, 99, 41]⟩) ∧ w = w' := by
  go_enter Try.func78, Try.ntmps78
  go_wp2_with (go_at_call 78; refine (wt_3_4_2 _).mono ?_; rintro e w' ⟨rfl, rfl⟩)
  go_ret
  exact ⟨by first | rfl | decide, rfl⟩
theorem wt_3_4_0 (w : World) : Calls Try.prog 78 #[.int .i64 3, .int .i64 4, .int .i64 0] w fun e w' => e = .returned (.string ⟨#[40, 33, 97, 38, 40, 33, 98, 38, 99, 41, 41]⟩) ∧ w = w' := by
  go_enter Try.func78, Try.ntmps78
  go_wp2_with (go_at_call 78; refine (wt_3_4_1 _).mono ?_; rintro e w' ⟨rfl, rfl⟩)
  go_ret
  exact ⟨by first | rfl | decide, rfl⟩
theorem wt_3_5_2 (w : World) : Calls Try.prog 78 #[.int .i64 3, .int .i64 5, .int .i64 2] w fun e w' => e = .returned (.string ⟨#[99]⟩) ∧ w = w' := by
  go_enter Try.func78, Try.ntmps78
  go_wp2
  go_ret
  exact ⟨by first | rfl | decide, rfl⟩
theorem wt_3_5_1 (w : World) : Calls Try.prog 78 #[.int .i64 3, .int .i64 5, .int .i64 1] w fun e w' => e = .returned (.string ⟨#[40, 33, 98, 38, 99, 41]⟩) ∧ w = w' := by
  go_enter Try.func78, Try.ntmps78
  go_wp2_with (go_at_call 78; refine (wt_3_5_2 _).mono ?_; rintro e w' ⟨rfl, rfl⟩)
  go_ret
  exact ⟨by first | rfl | decide, rfl⟩
theorem wt_3_5_0 (w : World) : Calls Try.prog 78 #[.int .i64 3, .int .i64 5, .int .i64 0] w fun e w' => e = .returned (.string ⟨#[40, 97, 38, 40, 33, 98, 38, 99, 41, 41]⟩) ∧ w = w' := by
  go_enter Try.func78, Try.ntmps78
  go_wp2_with (go_at_call 78; refine (wt_3_5_1 _).mono ?_; rintro e w' ⟨rfl, rfl⟩)
  go_ret
  exact ⟨by first | rfl | decide, rfl⟩
theorem wt_3_6_2 (w : World) : Calls Try.prog 78 #[.int .i64 3, .int .i64 6, .int .i64 2] w fun e w' => e = .returned (.string ⟨#[99]⟩) ∧ w = w' := by
  go_enter Try.func78, Try.ntmps78
  go_wp2
  go_ret
  exact ⟨by first | rfl | decide, rfl⟩
theorem wt_3_6_1 (w : World) : Calls Try.prog 78 #[.int .i64 3, .int .i64 6, .int .i64 1] w fun e w' => e = .returned (.string ⟨#[40, 98, 38, 99, 41]⟩) ∧ w = w' := by
  go_enter Try.func78, Try.ntmps78
  go_wp2_with (go_at_call 78; refine (wt_3_6_2 _).mono ?_; rintro e w' ⟨rfl, rfl⟩)
  go_ret
  exact ⟨by first | rfl | decide, rfl⟩
theorem wt_3_6_0 (w : World) : Calls Try.prog 78 #[.int .i64 3, .int .i64 6, .int .i64 0] w fun e w' => e = .returned (.string ⟨#[40, 33, 97, 38, 40, 98, 38, 99, 41, 41]⟩) ∧ w = w' := by
  go_enter Try.func78, Try.ntmps78
  go_wp2_with (go_at_call 78; refine (wt_3_6_1 _).mono ?_; rintro e w' ⟨rfl, rfl⟩)
  go_ret
  exact ⟨by first | rfl | decide, rfl⟩
theorem wt_3_7_2 (w : World) : Calls Try.prog 78 #[.int .i64 3, .int .i64 7, .int .i64 2] w fun e w' => e = .returned (.string ⟨#[99]⟩) ∧ w = w' := by
  go_enter Try.func78, Try.ntmps78
  go_wp2
  go_ret
  exact ⟨by first | rfl | decide, rfl⟩
theorem wt_3_7_1 (w : World) : Calls Try.prog 78 #[.int .i64 3, .int .i64 7, .int .i64 1] w fun e w' => e = .returned (.string ⟨#[40, 98, 38, 99, 41]⟩) ∧ w = w' := by
  go_enter Try.func78, Try.ntmps78
  go_wp2_with (go_at_call 78; refine (wt_3_7_2 _).mono ?_; rintro e w' ⟨rfl, rfl⟩)
  go_ret
  exact ⟨by first | rfl | decide, rfl⟩
theorem wt_3_7_0 (w : World) : Calls Try.prog 78 #[.int .i64 3, .int .i64 7, .int .i64 0] w fun e w' => e = .returned (.string ⟨#[40, 97, 38, 40, 98, 38, 99, 41, 41]⟩) ∧ w = w' := by
  go_enter Try.func78, Try.ntmps78
  go_wp2_with (go_at_call 78; refine (wt_3_7_1 _).mono ?_; rintro e w' ⟨rfl, rfl⟩)
  go_ret
  exact ⟨by first | rfl | decide, rfl⟩
set_option maxHeartbeats 4000000 in
theorem impl_worldText.calls (a0 a1 a2 : Int) (r : ByteArray) (w : World) (h : impl_worldText.f a0 a1 a2 = some r) :
    Calls Try.prog 78 #[.int .i64 a0, .int .i64 a1, .int .i64 a2] w fun e w' => e = .returned (.string r) ∧ Drawn0 w w' := by
  unfold impl_worldText.f at h
  cases hw : wtAt a0 a1 a2 with
  | false => rw [hw] at h; simp at h
  | true =>
    rw [if_pos hw] at h
    obtain rfl := Option.some.inj h
    clear h
    unfold wtAt at hw
    simp only [Bool.and_eq_true, decide_eq_true_eq] at hw
    obtain ⟨h1, ⟨h2, h3⟩, h4, h5⟩ := hw
    unfold nW at h3
    rw [if_pos h1] at h3
    rcases okT_cases h1 with rfl | rfl | rfl
    · simp at h3
      rcases (show a1 = 0 ∨ a1 = 1 by omega) with rfl | rfl
      · rcases (show a2 = 0 by omega) with rfl
        · exact (wt_1_0_0 w).mono fun e w' ⟨h1, h2⟩ => ⟨h1.trans rfl, h2 ▸ Drawn0.refl _⟩
      · rcases (show a2 = 0 by omega) with rfl
        · exact (wt_1_1_0 w).mono fun e w' ⟨h1, h2⟩ => ⟨h1.trans rfl, h2 ▸ Drawn0.refl _⟩
    · simp at h3
      rcases (show a1 = 0 ∨ a1 = 1 ∨ a1 = 2 ∨ a1 = 3 by omega) with rfl | rfl | rfl | rfl
      · rcases (show a2 = 0 ∨ a2 = 1 by omega) with rfl | rfl
        · exact (wt_2_0_0 w).mono fun e w' ⟨h1, h2⟩ => ⟨h1.trans rfl, h2 ▸ Drawn0.refl _⟩
        · exact (wt_2_0_1 w).mono fun e w' ⟨h1, h2⟩ => ⟨h1.trans rfl, h2 ▸ Drawn0.refl _⟩
      · rcases (show a2 = 0 ∨ a2 = 1 by omega) with rfl | rfl
        · exact (wt_2_1_0 w).mono fun e w' ⟨h1, h2⟩ => ⟨h1.trans rfl, h2 ▸ Drawn0.refl _⟩
        · exact (wt_2_1_1 w).mono fun e w' ⟨h1, h2⟩ => ⟨h1.trans rfl, h2 ▸ Drawn0.refl _⟩
      · rcases (show a2 = 0 ∨ a2 = 1 by omega) with rfl | rfl
        · exact (wt_2_2_0 w).mono fun e w' ⟨h1, h2⟩ => ⟨h1.trans rfl, h2 ▸ Drawn0.refl _⟩
        · exact (wt_2_2_1 w).mono fun e w' ⟨h1, h2⟩ => ⟨h1.trans rfl, h2 ▸ Drawn0.refl _⟩
      · rcases (show a2 = 0 ∨ a2 = 1 by omega) with rfl | rfl
        · exact (wt_2_3_0 w).mono fun e w' ⟨h1, h2⟩ => ⟨h1.trans rfl, h2 ▸ Drawn0.refl _⟩
        · exact (wt_2_3_1 w).mono fun e w' ⟨h1, h2⟩ => ⟨h1.trans rfl, h2 ▸ Drawn0.refl _⟩
    · simp at h3
      rcases (show a1 = 0 ∨ a1 = 1 ∨ a1 = 2 ∨ a1 = 3 ∨ a1 = 4 ∨ a1 = 5 ∨ a1 = 6 ∨ a1 = 7 by omega) with rfl | rfl | rfl | rfl | rfl | rfl | rfl | rfl
      · rcases (show a2 = 0 ∨ a2 = 1 ∨ a2 = 2 by omega) with rfl | rfl | rfl
        · exact (wt_3_0_0 w).mono fun e w' ⟨h1, h2⟩ => ⟨h1.trans rfl, h2 ▸ Drawn0.refl _⟩
        · exact (wt_3_0_1 w).mono fun e w' ⟨h1, h2⟩ => ⟨h1.trans rfl, h2 ▸ Drawn0.refl _⟩
        · exact (wt_3_0_2 w).mono fun e w' ⟨h1, h2⟩ => ⟨h1.trans rfl, h2 ▸ Drawn0.refl _⟩
      · rcases (show a2 = 0 ∨ a2 = 1 ∨ a2 = 2 by omega) with rfl | rfl | rfl
        · exact (wt_3_1_0 w).mono fun e w' ⟨h1, h2⟩ => ⟨h1.trans rfl, h2 ▸ Drawn0.refl _⟩
        · exact (wt_3_1_1 w).mono fun e w' ⟨h1, h2⟩ => ⟨h1.trans rfl, h2 ▸ Drawn0.refl _⟩
        · exact (wt_3_1_2 w).mono fun e w' ⟨h1, h2⟩ => ⟨h1.trans rfl, h2 ▸ Drawn0.refl _⟩
      · rcases (show a2 = 0 ∨ a2 = 1 ∨ a2 = 2 by omega) with rfl | rfl | rfl
        · exact (wt_3_2_0 w).mono fun e w' ⟨h1, h2⟩ => ⟨h1.trans rfl, h2 ▸ Drawn0.refl _⟩
        · exact (wt_3_2_1 w).mono fun e w' ⟨h1, h2⟩ => ⟨h1.trans rfl, h2 ▸ Drawn0.refl _⟩
        · exact (wt_3_2_2 w).mono fun e w' ⟨h1, h2⟩ => ⟨h1.trans rfl, h2 ▸ Drawn0.refl _⟩
      · rcases (show a2 = 0 ∨ a2 = 1 ∨ a2 = 2 by omega) with rfl | rfl | rfl
        · exact (wt_3_3_0 w).mono fun e w' ⟨h1, h2⟩ => ⟨h1.trans rfl, h2 ▸ Drawn0.refl _⟩
        · exact (wt_3_3_1 w).mono fun e w' ⟨h1, h2⟩ => ⟨h1.trans rfl, h2 ▸ Drawn0.refl _⟩
        · exact (wt_3_3_2 w).mono fun e w' ⟨h1, h2⟩ => ⟨h1.trans rfl, h2 ▸ Drawn0.refl _⟩
      · rcases (show a2 = 0 ∨ a2 = 1 ∨ a2 = 2 by omega) with rfl | rfl | rfl
        · exact (wt_3_4_0 w).mono fun e w' ⟨h1, h2⟩ => ⟨h1.trans rfl, h2 ▸ Drawn0.refl _⟩
        · exact (wt_3_4_1 w).mono fun e w' ⟨h1, h2⟩ => ⟨h1.trans rfl, h2 ▸ Drawn0.refl _⟩
        · exact (wt_3_4_2 w).mono fun e w' ⟨h1, h2⟩ => ⟨h1.trans rfl, h2 ▸ Drawn0.refl _⟩
      · rcases (show a2 = 0 ∨ a2 = 1 ∨ a2 = 2 by omega) with rfl | rfl | rfl
        · exact (wt_3_5_0 w).mono fun e w' ⟨h1, h2⟩ => ⟨h1.trans rfl, h2 ▸ Drawn0.refl _⟩
        · exact (wt_3_5_1 w).mono fun e w' ⟨h1, h2⟩ => ⟨h1.trans rfl, h2 ▸ Drawn0.refl _⟩
        · exact (wt_3_5_2 w).mono fun e w' ⟨h1, h2⟩ => ⟨h1.trans rfl, h2 ▸ Drawn0.refl _⟩
      · rcases (show a2 = 0 ∨ a2 = 1 ∨ a2 = 2 by omega) with rfl | rfl | rfl
        · exact (wt_3_6_0 w).mono fun e w' ⟨h1, h2⟩ => ⟨h1.trans rfl, h2 ▸ Drawn0.refl _⟩
        · exact (wt_3_6_1 w).mono fun e w' ⟨h1, h2⟩ => ⟨h1.trans rfl, h2 ▸ Drawn0.refl _⟩
        · exact (wt_3_6_2 w).mono fun e w' ⟨h1, h2⟩ => ⟨h1.trans rfl, h2 ▸ Drawn0.refl _⟩
      · rcases (show a2 = 0 ∨ a2 = 1 ∨ a2 = 2 by omega) with rfl | rfl | rfl
        · exact (wt_3_7_0 w).mono fun e w' ⟨h1, h2⟩ => ⟨h1.trans rfl, h2 ▸ Drawn0.refl _⟩
        · exact (wt_3_7_1 w).mono fun e w' ⟨h1, h2⟩ => ⟨h1.trans rfl, h2 ▸ Drawn0.refl _⟩
        · exact (wt_3_7_2 w).mono fun e w' ⟨h1, h2⟩ => ⟨h1.trans rfl, h2 ▸ Drawn0.refl _⟩
end Go.Proofs.Ytgmnbegemgankaa.Hand
