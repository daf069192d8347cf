/- Each Go function named below returns what the Lean function of its name says, for all arguments at which that is some value; these lines were written by a program of this session, out of the translation. -/
import Derived.Test.YtcmhilebiojfaaaRx0
import Derived.Test.YtcmhilebiojfaaaRx1
import Derived.Test.YtcmhilebiojfaaaRx2
namespace Go.Proofs.Ytcmhilebiojfaaa.R
open Go.RowKit Go.Proofs.Ytcmhilebiojfaaa.B Go.Proofs.Ytcmhilebiojfaaa.Hand Go.Proofs.YtcmhilebiojfaaaW.PrintWords Go.Proofs.YtcmhilebiojfaaaW.PrintLast Go.Proofs.YtcmhilebiojfaaaW.PrintMore
attribute [local go_sem] max2_int min2_int max_two min_two max_three min_three max_four min_four   -- for this text's walks alone
set_option linter.unusedVariables false
set_option linter.unusedSimpArgs false

/-! ### spec_l1World: function 46 -/
def spec_l1World.l0 : Nat → Int → ByteArray → Int → Option (ByteArray)
  | 0, _, _, _ => none
  | k + 1, x1, x5, x6 => if x6 ≥ 0 then ((some (([(⟨#[33]⟩ : ByteArray), (⟨#[]⟩ : ByteArray)] : List ByteArray) : List ByteArray)).bind fun y156 => (if 0 ≤ x6 then (if 0 ≤ (Int.tmod (shr .i64 x1 x6) 2) then (if (Int.tmod (shr .i64 x1 x6) 2) < (y156.length : Int) then ((some (([(⟨#[97]⟩ : ByteArray), (⟨#[98]⟩ : ByteArray), (⟨#[99]⟩ : ByteArray)] : List ByteArray) : List ByteArray)).bind fun y160 => (if x6 < (y160.length : Int) then (if (rdOf ByteArray.empty y156 (Int.tmod (shr .i64 x1 x6) 2)).size + (rdOf ByteArray.empty y160 x6).size ≤ 9223372036854775807 then (if x5.toList = ([] : List UInt8) then (spec_l1World.l0 k x1 ((rdOf ByteArray.empty y156 (Int.tmod (shr .i64 x1 x6) 2)) ++ (rdOf ByteArray.empty y160 x6)) (wrap64 (x6 - 1))) else (if 1 + ((rdOf ByteArray.empty y156 (Int.tmod (shr .i64 x1 x6) 2)) ++ (rdOf ByteArray.empty y160 x6)).size ≤ 9223372036854775807 then (if ((⟨#[40]⟩ : ByteArray) ++ ((rdOf ByteArray.empty y156 (Int.tmod (shr .i64 x1 x6) 2)) ++ (rdOf ByteArray.empty y160 x6))).size + 1 ≤ 9223372036854775807 then (if (((⟨#[40]⟩ : ByteArray) ++ ((rdOf ByteArray.empty y156 (Int.tmod (shr .i64 x1 x6) 2)) ++ (rdOf ByteArray.empty y160 x6))) ++ (⟨#[38]⟩ : ByteArray)).size + x5.size ≤ 9223372036854775807 then (if ((((⟨#[40]⟩ : ByteArray) ++ ((rdOf ByteArray.empty y156 (Int.tmod (shr .i64 x1 x6) 2)) ++ (rdOf ByteArray.empty y160 x6))) ++ (⟨#[38]⟩ : ByteArray)) ++ x5).size + 1 ≤ 9223372036854775807 then (spec_l1World.l0 k x1 (((((⟨#[40]⟩ : ByteArray) ++ ((rdOf ByteArray.empty y156 (Int.tmod (shr .i64 x1 x6) 2)) ++ (rdOf ByteArray.empty y160 x6))) ++ (⟨#[38]⟩ : ByteArray)) ++ x5) ++ (⟨#[41]⟩ : ByteArray)) (wrap64 (x6 - 1))) else (none)) else (none)) else (none)) else (none))) else (none)) else (none))) else (none)) else (none)) else (none))) else (some x5)
def spec_l1World.f (k : Nat) (a0 : Int) (a1 : Int) : Option (ByteArray) := spec_l1World.l0 k a1 (⟨#[]⟩ : ByteArray) (wrap64 (a0 - 1))
theorem spec_l1World.mono_l : ∀ k, (∀ y0 y1 y2, LeO (spec_l1World.l0 k y0 y1 y2) (spec_l1World.l0 (k + 1) y0 y1 y2))
  | 0 => fun _ _ _ r h => by simp [spec_l1World.l0] at h
  | k + 1 => by
    have ih0 := spec_l1World.mono_l k
    · intro y0 y1 y2
      unfold spec_l1World.l0
      repeat' first
      | (with_reducible exact ih0 _ _ _)
      | (with_reducible exact LeO.refl _)
      | (with_reducible exact LeO.none _)
      | (with_reducible refine LeO.ite ?_ ?_)
      | (with_reducible refine LeO.bind ?_ (fun _ => ?_))
      | exact ih0 _ _ _
      | exact LeO.none _
      | refine LeO.ite ?_ ?_
      | refine LeO.bind ?_ (fun _ => ?_)
theorem spec_l1World.mono : ∀ a0 a1 k, LeO (spec_l1World.f k a0 a1) (spec_l1World.f (k + 1) a0 a1) := by
  intro a0 a1 k
  have ih0 := spec_l1World.mono_l k
  unfold spec_l1World.f
  repeat' first
      | (with_reducible exact ih0 _ _ _)
      | (with_reducible exact LeO.refl _)
      | (with_reducible exact LeO.none _)
      | (with_reducible refine LeO.ite ?_ ?_)
      | (with_reducible refine LeO.bind ?_ (fun _ => ?_))
      | exact ih0 _ _ _
      | exact LeO.none _
      | refine LeO.ite ?_ ?_
      | refine LeO.bind ?_ (fun _ => ?_)
def spec_l1World.T5 : Bool × List (List Nat × List Nat) := (true, [([], []), ([], []), ([], []), ([1, 2], [1, 2]), ([3], [3]), ([0, 4], [0, 4]), ([5], [5]), ([], []), ([], []), ([7, 8], [7, 8]), ([9], [9]), ([6, 10], [6, 10]), ([11, 0, 1, 2, 3, 4, 5, 6, 7, 8, 9, 10, 11], [11])])
def spec_l1World.B5 : List Nat := [0, 0, 0, 6, 14, 31, 63, 0, 0, 384, 896, 2047, 4095]
theorem spec_l1World.tab5 : rtab .any (opsOf Try.f46 5) = spec_l1World.T5 := by kernel_rfl
theorem spec_l1World.bits5 : waitsOk spec_l1World.T5.2 spec_l1World.B5 = true := by kernel_rfl
set_option maxHeartbeats 8000000 in
set_option maxRecDepth 100000 in
theorem spec_l1World.calls (k : Nat) (a0 : Int) (a1 : Int) (r : ByteArray) (w : World) (h : spec_l1World.f k a0 a1 = some r) :
    Calls Try.prog 46 #[.int .i64 a0, .int .i64 a1] w fun e w' => e = .returned (.string r) ∧ Below w.heap.size w w' := by
  have HB := Aside0.mk (Below.refl w.heap.size w)
  have H : (spec_l1World.l0 k a1 (⟨#[]⟩ : ByteArray) (wrap64 (a0 - 1))) = some r := h
  clear h
  have H' := Aside0.mk H
  clear H
  go_enter Try.func46, Try.ntmps46
  go_wp2
  go_loopg [5, 6] k (fun kq v5 v6 w' => ∃ (x5_1 : ByteArray) (x6_1 : Int), v5 = .string x5_1 ∧ v6 = .int .i64 x6_1 ∧ Aside0 (spec_l1World.l0 kq a1 x5_1 x6_1 = some r) ∧ Aside0 (kq ≤ k) ∧ Aside0 (Below w.heap.size w w'))
  case atStart => exact ⟨((⟨#[]⟩ : ByteArray)), (wrap64 (a0 - 1)), (by first | rfl | (simp; done) | (simp [*]; done)), (by first | rfl | (simp; done) | (simp [*]; done)), H', ⟨Nat.le_refl _⟩, ⟨by repeat (first | (with_reducible first | exact HB.out | apply below_alloc | apply pw_below_drewN | apply below_drew1) | exact HB.out)⟩⟩
  case round =>
    clear H'
    try clear p2
    obtain ⟨x5_1, x6_1, rfl, rfl, HA, HK1, HB⟩ := hrel
    cases gk with
    | zero => exact absurd HA.out (by simp [spec_l1World.l0])
    | succ k1 =>
      have H := HA.out
      clear HA
      simp only [spec_l1World.l0] at H
      by_cases c3 : x6_1 ≥ 0
      · rw [if_pos c3] at H
        have c3b0 : decide (0 ≤ x6_1) = true := decide_eq_true c3
        clear c3
        obtain ⟨y156, hy156⟩ : ∃ y_ : List ByteArray, y_ = (([(⟨#[33]⟩ : ByteArray), (⟨#[]⟩ : ByteArray)] : List ByteArray)) := ⟨_, rfl⟩
        replace H : (if 0 ≤ x6_1 then (if 0 ≤ (Int.tmod (shr .i64 a1 x6_1) 2) then (if (Int.tmod (shr .i64 a1 x6_1) 2) < (y156.length : Int) then ((some (([(⟨#[97]⟩ : ByteArray), (⟨#[98]⟩ : ByteArray), (⟨#[99]⟩ : ByteArray)] : List ByteArray) : List ByteArray)).bind fun y160 => (if x6_1 < (y160.length : Int) then (if (rdOf ByteArray.empty y156 (Int.tmod (shr .i64 a1 x6_1) 2)).size + (rdOf ByteArray.empty y160 x6_1).size ≤ 9223372036854775807 then (if x5_1.toList = ([] : List UInt8) then (spec_l1World.l0 k1 a1 ((rdOf ByteArray.empty y156 (Int.tmod (shr .i64 a1 x6_1) 2)) ++ (rdOf ByteArray.empty y160 x6_1)) (wrap64 (x6_1 - 1))) else (if 1 + ((rdOf ByteArray.empty y156 (Int.tmod (shr .i64 a1 x6_1) 2)) ++ (rdOf ByteArray.empty y160 x6_1)).size ≤ 9223372036854775807 then (if ((⟨#[40]⟩ : ByteArray) ++ ((rdOf ByteArray.empty y156 (Int.tmod (shr .i64 a1 x6_1) 2)) ++ (rdOf ByteArray.empty y160 x6_1))).size + 1 ≤ 9223372036854775807 then (if (((⟨#[40]⟩ : ByteArray) ++ ((rdOf ByteArray.empty y156 (Int.tmod (shr .i64 a1 x6_1) 2)) ++ (rdOf ByteArray.empty y160 x6_1))) ++ (⟨#[38]⟩ : ByteArray)).size + x5_1.size ≤ 9223372036854775807 then (if ((((⟨#[40]⟩ : ByteArray) ++ ((rdOf ByteArray.empty y156 (Int.tmod (shr .i64 a1 x6_1) 2)) ++ (rdOf ByteArray.empty y160 x6_1))) ++ (⟨#[38]⟩ : ByteArray)) ++ x5_1).size + 1 ≤ 9223372036854775807 then (spec_l1World.l0 k1 a1 (((((⟨#[40]⟩ : ByteArray) ++ ((rdOf ByteArray.empty y156 (Int.tmod (shr .i64 a1 x6_1) 2)) ++ (rdOf ByteArray.empty y160 x6_1))) ++ (⟨#[38]⟩ : ByteArray)) ++ x5_1) ++ (⟨#[41]⟩ : ByteArray)) (wrap64 (x6_1 - 1))) else (none)) else (none)) else (none)) else (none))) else (none)) else (none))) else (none)) else (none)) else (none)) = some r := by first | (rw [hy156]; with_reducible exact H) | (have H2_ := (Option.bind_some _ _).symm.trans H; rw [hy156]; with_reducible exact H2_) | (have H2_ := (Option.bind_some _ _).symm.trans H; with_reducible exact H2_) | with_reducible exact H | (rw [hy156]; exact H) | exact H
        have Ny156 := Aside0.mk hy156
        clear hy156
        by_cases c4 : 0 ≤ x6_1
        · rw [if_pos c4] at H
          have c4b0 := eq_true c4
          have c4b1 : decide (0 ≤ x6_1) = true := decide_eq_true c4
          clear c4
          obtain ⟨ji5, hji5⟩ : ∃ j_ : Int, (shr .i64 a1 x6_1) = j_ := ⟨_, rfl⟩
          replace H : (if 0 ≤ (Int.tmod (ji5) 2) then (if (Int.tmod (ji5) 2) < (y156.length : Int) then ((some (([(⟨#[97]⟩ : ByteArray), (⟨#[98]⟩ : ByteArray), (⟨#[99]⟩ : ByteArray)] : List ByteArray) : List ByteArray)).bind fun y160 => (if x6_1 < (y160.length : Int) then (if (rdOf ByteArray.empty y156 (Int.tmod (ji5) 2)).size + (rdOf ByteArray.empty y160 x6_1).size ≤ 9223372036854775807 then (if x5_1.toList = ([] : List UInt8) then (spec_l1World.l0 k1 a1 ((rdOf ByteArray.empty y156 (Int.tmod (ji5) 2)) ++ (rdOf ByteArray.empty y160 x6_1)) (wrap64 (x6_1 - 1))) else (if 1 + ((rdOf ByteArray.empty y156 (Int.tmod (ji5) 2)) ++ (rdOf ByteArray.empty y160 x6_1)).size ≤ 9223372036854775807 then (if ((⟨#[40]⟩ : ByteArray) ++ ((rdOf ByteArray.empty y156 (Int.tmod (ji5) 2)) ++ (rdOf ByteArray.empty y160 x6_1))).size + 1 ≤ 9223372036854775807 then (if (((⟨#[40]⟩ : ByteArray) ++ ((rdOf ByteArray.empty y156 (Int.tmod (ji5) 2)) ++ (rdOf ByteArray.empty y160 x6_1))) ++ (⟨#[38]⟩ : ByteArray)).size + x5_1.size ≤ 9223372036854775807 then (if ((((⟨#[40]⟩ : ByteArray) ++ ((rdOf ByteArray.empty y156 (Int.tmod (ji5) 2)) ++ (rdOf ByteArray.empty y160 x6_1))) ++ (⟨#[38]⟩ : ByteArray)) ++ x5_1).size + 1 ≤ 9223372036854775807 then (spec_l1World.l0 k1 a1 (((((⟨#[40]⟩ : ByteArray) ++ ((rdOf ByteArray.empty y156 (Int.tmod (ji5) 2)) ++ (rdOf ByteArray.empty y160 x6_1))) ++ (⟨#[38]⟩ : ByteArray)) ++ x5_1) ++ (⟨#[41]⟩ : ByteArray)) (wrap64 (x6_1 - 1))) else (none)) else (none)) else (none)) else (none))) else (none)) else (none))) else (none)) else (none)) = some r := by first | (rw [hji5] at H; exact H) | (simp only [hji5] at H ⊢; exact H)
          have hji5_ : (a1 / 2 ^ min x6_1.toNat 64) = ji5 := hji5
          have hji5z : x6_1 ≤ 64 → (a1 / 2 ^ x6_1.toNat) = ji5 := shr_small hji5
          obtain ⟨ji6, hji6⟩ : ∃ j_ : Int, (Int.tmod (ji5) 2) = j_ := ⟨_, rfl⟩
          replace H : (if 0 ≤ (ji6) then (if (ji6) < (y156.length : Int) then ((some (([(⟨#[97]⟩ : ByteArray), (⟨#[98]⟩ : ByteArray), (⟨#[99]⟩ : ByteArray)] : List ByteArray) : List ByteArray)).bind fun y160 => (if x6_1 < (y160.length : Int) then (if (rdOf ByteArray.empty y156 (ji6)).size + (rdOf ByteArray.empty y160 x6_1).size ≤ 9223372036854775807 then (if x5_1.toList = ([] : List UInt8) then (spec_l1World.l0 k1 a1 ((rdOf ByteArray.empty y156 (ji6)) ++ (rdOf ByteArray.empty y160 x6_1)) (wrap64 (x6_1 - 1))) else (if 1 + ((rdOf ByteArray.empty y156 (ji6)) ++ (rdOf ByteArray.empty y160 x6_1)).size ≤ 9223372036854775807 then (if ((⟨#[40]⟩ : ByteArray) ++ ((rdOf ByteArray.empty y156 (ji6)) ++ (rdOf ByteArray.empty y160 x6_1))).size + 1 ≤ 9223372036854775807 then (if (((⟨#[40]⟩ : ByteArray) ++ ((rdOf ByteArray.empty y156 (ji6)) ++ (rdOf ByteArray.empty y160 x6_1))) ++ (⟨#[38]⟩ : ByteArray)).size + x5_1.size ≤ 9223372036854775807 then (if ((((⟨#[40]⟩ : ByteArray) ++ ((rdOf ByteArray.empty y156 (ji6)) ++ (rdOf ByteArray.empty y160 x6_1))) ++ (⟨#[38]⟩ : ByteArray)) ++ x5_1).size + 1 ≤ 9223372036854775807 then (spec_l1World.l0 k1 a1 (((((⟨#[40]⟩ : ByteArray) ++ ((rdOf ByteArray.empty y156 (ji6)) ++ (rdOf ByteArray.empty y160 x6_1))) ++ (⟨#[38]⟩ : ByteArray)) ++ x5_1) ++ (⟨#[41]⟩ : ByteArray)) (wrap64 (x6_1 - 1))) else (none)) else (none)) else (none)) else (none))) else (none)) else (none))) else (none)) else (none)) = some r := by first | (rw [hji6] at H; exact H) | (simp only [hji6] at H ⊢; exact H)
          by_cases c7 : 0 ≤ (ji6)
          · rw [if_pos c7] at H
            have c7b0 : decide (0 ≤ (ji6)) = true := decide_eq_true c7
            clear c7
            by_cases c8 : (ji6) < (y156.length : Int)
            · rw [if_pos c8] at H
              have c8b0 : decide ((ji6) < (y156.length : Int)) = true := decide_eq_true c8
              clear c8
              obtain ⟨y160, hy160⟩ : ∃ y_ : List ByteArray, y_ = (([(⟨#[97]⟩ : ByteArray), (⟨#[98]⟩ : ByteArray), (⟨#[99]⟩ : ByteArray)] : List ByteArray)) := ⟨_, rfl⟩
              replace H : (if x6_1 < (y160.length : Int) then (if (rdOf ByteArray.empty y156 (ji6)).size + (rdOf ByteArray.empty y160 x6_1).size ≤ 9223372036854775807 then (if x5_1.toList = ([] : List UInt8) then (spec_l1World.l0 k1 a1 ((rdOf ByteArray.empty y156 (ji6)) ++ (rdOf ByteArray.empty y160 x6_1)) (wrap64 (x6_1 - 1))) else (if 1 + ((rdOf ByteArray.empty y156 (ji6)) ++ (rdOf ByteArray.empty y160 x6_1)).size ≤ 9223372036854775807 then (if ((⟨#[40]⟩ : ByteArray) ++ ((rdOf ByteArray.empty y156 (ji6)) ++ (rdOf ByteArray.empty y160 x6_1))).size + 1 ≤ 9223372036854775807 then (if (((⟨#[40]⟩ : ByteArray) ++ ((rdOf ByteArray.empty y156 (ji6)) ++ (rdOf ByteArray.empty y160 x6_1))) ++ (⟨#[38]⟩ : ByteArray)).size + x5_1.size ≤ 9223372036854775807 then (if ((((⟨#[40]⟩ : ByteArray) ++ ((rdOf ByteArray.empty y156 (ji6)) ++ (rdOf ByteArray.empty y160 x6_1))) ++ (⟨#[38]⟩ : ByteArray)) ++ x5_1).size + 1 ≤ 9223372036854775807 then (spec_l1World.l0 k1 a1 (((((⟨#[40]⟩ : ByteArray) ++ ((rdOf ByteArray.empty y156 (ji6)) ++ (rdOf ByteArray.empty y160 x6_1))) ++ (⟨#[38]⟩ : ByteArray)) ++ x5_1) ++ (⟨#[41]⟩ : ByteArray)) (wrap64 (x6_1 - 1))) else (none)) else (none)) else (none)) else (none))) else (none)) else (none)) = some r := by first | (rw [hy160]; with_reducible exact H) | (have H2_ := (Option.bind_some _ _).symm.trans H; rw [hy160]; with_reducible exact H2_) | (have H2_ := (Option.bind_some _ _).symm.trans H; with_reducible exact H2_) | with_reducible exact H | (rw [hy160]; exact H) | exact H
              have Ny160 := Aside0.mk hy160
              clear hy160
              by_cases c9 : x6_1 < (y160.length : Int)
              · rw [if_pos c9] at H
                have c9b0 : decide (x6_1 < (y160.length : Int)) = true := decide_eq_true c9
                clear c9
                by_cases c10 : (rdOf ByteArray.empty y156 (ji6)).size + (rdOf ByteArray.empty y160 x6_1).size ≤ 9223372036854775807
                · rw [if_pos c10] at H
                  have c10b0 := eq_true c10
                  have c10b1 : decide ((rdOf ByteArray.empty y156 (ji6)).size + (rdOf ByteArray.empty y160 x6_1).size ≤ 9223372036854775807) = true := decide_eq_true c10
                  try have c10b2 : (9223372036854775807 < (rdOf ByteArray.empty y156 (ji6)).size + (rdOf ByteArray.empty y160 x6_1).size) = False := eq_false (Nat.not_lt.2 c10)
                  try (have c10b3 := c10b2; simp only [ByteArray.size_append, bsz1, bsz0] at c10b3)
                  by_cases c11 : x5_1.toList = ([] : List UInt8)
                  · rw [if_pos c11] at H
                    have c11b0 : (x5_1.toList == ([] : List UInt8)) = true := beq_iff_eq.mpr c11
                    have c11b1 : (x5_1.toList != ([] : List UInt8)) = false := bne_eq_false_iff_eq.mpr c11
                    clear c11
                    have H' := Aside0.mk H
                    clear H
                    try go_wp2
                    have pi159 : (0 ≤ ((ji6) : Int)) = True := eq_true (of_decide_eq_true (by first | (with_reducible assumption) | assumption))
                    have qi159 : ((ji6) < (y156.length : Int)) = True := eq_true (of_decide_eq_true (by first | (with_reducible assumption) | assumption))
                    have pi163 : (0 ≤ (x6_1 : Int)) = True := eq_true (of_decide_eq_true (by first | (with_reducible assumption) | assumption))
                    have qi163 : (x6_1 < (y160.length : Int)) = True := eq_true (of_decide_eq_true (by first | (with_reducible assumption) | assumption))
                    have n0_ := Aside0.mk (below_drew1 HB.out)
                    clear HB
                    have HB := n0_
                    clear n0_
                    refine start_ (n := 13) (S := fun w' => True) (ds := []) #[false, false, false, false, false, false, false, false, false, false, false, false, false] (by kernel_rfl) rfl rfl trivial (fun hHeld => ?_); refine with_tabW spec_l1World.tab5 spec_l1World.bits5 (fun HT_ HW_ => ?_)
                    generalize wr.drew = w12 at HB hHeld ⊢
                    refine pure_ (i := 1) (N := some 15) (v := ?_) (a' := ?_) #[false, true, false, false, false, false, false, false, false, false, false, false, false] rfl rfl (any_of HT_.out (by kernel_rfl)) (fun _ _ _ h => h) (Or.inl ⟨by rfl, ?_⟩) ?_ ?_
                    rotate_left
                    · intro w'
                      go_simp
                      with_reducible rfl
                    rotate_left
                    · simp only [Act.put, List.setIfInBounds_toArray, List.set_cons_zero, List.set_cons_succ, i64_w, i32_w]
                      rfl
                    refine pure_ (i := 2) (N := some 16) (v := ?_) (a' := ?_) #[false, true, true, false, false, false, false, false, false, false, false, false, false] rfl rfl (any_of HT_.out (by kernel_rfl)) (fun _ _ _ h => h) (Or.inl ⟨by rfl, ?_⟩) ?_ ?_
                    rotate_left
                    · intro w'
                      go_simp
                      with_reducible rfl
                    rotate_left
                    · simp only [Act.put, List.setIfInBounds_toArray, List.set_cons_zero, List.set_cons_succ, i64_w, i32_w]
                      rfl
                    refine pure_ (i := 8) (N := some 22) (v := ?_) (a' := ?_) #[false, true, true, false, false, false, false, false, true, false, false, false, false] rfl rfl (any_of HT_.out (by kernel_rfl)) (fun _ _ _ h => h) (Or.inl ⟨by rfl, ?_⟩) ?_ ?_
                    rotate_left
                    · intro w'
                      go_simp
                      with_reducible rfl
                    rotate_left
                    · simp only [Act.put, List.setIfInBounds_toArray, List.set_cons_zero, List.set_cons_succ, i64_w, i32_w]
                      rfl
                    refine inv_at [0, 3, 4, 5, 6, 7, 9, 10, 11, 12] (fun a0_ b a w' => ∃ (v157 : Value) (adz_v157 : Addr) (v161 : Value) (adz_v161 : Addr) (m5_ : Value) (m9_ : Value), a = putSel a0_ b [(0, 14, v157), (3, 17, .int .i64 ji5), (4, 18, .int .i64 ji6), (5, 19, m5_), (6, 20, .string (rdOf ByteArray.empty y156 (ji6))), (7, 21, v161), (9, 23, m9_), (10, 24, .string (rdOf ByteArray.empty y160 x6_1)), (11, 25, .string ((rdOf ByteArray.empty y156 (ji6)) ++ (rdOf ByteArray.empty y160 x6_1))), (12, 7, .string ((rdOf ByteArray.empty y156 (ji6)) ++ (rdOf ByteArray.empty y160 x6_1)))] ∧ (Below w.heap.size w w') ∧ (b 0 = true → Kd.R Kd.string 9 w' w.heap.size (fun _ => True) v157 y156) ∧ (b 0 = true → ∃ c_, (v157 : Value) = .slice (some adz_v157) y156.length c_) ∧ (b 7 = true → Kd.R Kd.string 9 w' w.heap.size (fun _ => True) v161 y160) ∧ (b 7 = true → ∃ c_, (v161 : Value) = .slice (some adz_v161) y160.length c_) ∧ (b 5 = true → (m5_ : Value) = .pointer (some (adz_v157.add ((ji6)).toNat))) ∧ (b 9 = true → (m9_ : Value) = .pointer (some (adz_v161.add (x6_1).toNat)))) HT_.out HW_.out (by kernel_rfl) (by kernel_rfl) ?_ ?_ ?_
                    · exact ⟨.bool false, ⟨0, 0, none⟩, .bool false, ⟨0, 0, none⟩, .bool false, .bool false, by simp only [putSel, Bool.false_eq_true, if_false], HB.out, fun h_ => absurd h_ (by decide), fun h_ => absurd h_ (by decide), fun h_ => absurd h_ (by decide), fun h_ => absurd h_ (by decide), fun h_ => absurd h_ (by decide), fun h_ => absurd h_ (by decide)⟩
                    · skip
                      clear HB
                      refine steps_cons ?_ ?_
                      · rintro b a w' ⟨v157, adz_v157, v161, adz_v161, m5_, m9_, ha, Q_HB, Q_HO158, Q_HA_HO158, Q_HO162, Q_HA_HO162, Q_X5_, Q_X9_⟩ hb_ hon hoff
                        refine ⟨_, rfl, fun K hK => ?_⟩
                        replace ha := Aside0.mk ha
                        have HB := Aside0.mk Q_HB
                        refine Kd.R_lit_step Kd.string _ 9 ?hg (N := 14) ?hd (xs := ([(⟨#[33]⟩ : ByteArray), (⟨#[]⟩ : ByteArray)] : List ByteArray)) (inner := [.string (⟨#[33]⟩ : ByteArray), .string (⟨#[]⟩ : ByteArray)]) (ok := fun _ => True) (okp := fun _ => True) ?hr ?hp (fun _ hk => hk) trivial (Below.refl _ _) (Nat.le_refl _) (by simp) ?_; (case hd => rfl); (case hg => rfl); (case hr => first | (go_simp; done) | (go_simp; rfl)); (case hp => exact (Reps.one (show Kd.M Kd.string _ _ _ (⟨#[33]⟩ : ByteArray) [.string (⟨#[33]⟩ : ByteArray)] from rfl) (Reps.one (show Kd.M Kd.string _ _ _ (⟨#[]⟩ : ByteArray) [.string (⟨#[]⟩ : ByteArray)] from rfl) (Reps.none _ _))))
                        intro v157 w13 ho14 hb hg_ hnew_
                        clear hg_ hnew_
                        (first | rw [← Ny156.out] at ho14 | (simp only [Int.reduceToNat] at ho14; rw [← Ny156.out] at ho14))
                        have n0_ := Aside0.mk (Kd.R_lower ho14 (below_size (by repeat (first | (with_reducible first | exact HB.out | apply below_alloc | apply pw_below_drewN | apply below_drew1) | exact HB.out))))
                        have n1_ := Aside0.mk (below_step (by repeat (first | (with_reducible first | exact HB.out | apply below_alloc | apply pw_below_drewN | apply below_drew1) | exact HB.out)) hb)
                        have z_HO162 := fun (h0_ : b 7 = true) => (show Kd.R Kd.string 9 w13 w.heap.size (fun _ => True) v161 y160 from by first | exact (Kd.R_elder' (by (with_reducible repeat (first | apply Kd.R_alloc | apply Kd.R_drewN | apply Kd.R_drew)); exact (Q_HO162 h0_)) (Kd.R_base ho14) hb) | exact Kd.R_mono (Kd.R_elder' (by (with_reducible repeat (first | apply Kd.R_alloc | apply Kd.R_drewN | apply Kd.R_drew)); exact (Q_HO162 h0_)) (Kd.R_base ho14) hb) (fun _ h_ => by first | trivial | exact h_ | exact h_.1))
                        clear HB
                        have HO158 := n0_
                        have HB := n1_
                        clear n0_ n1_
                        clear hb ho14
                        obtain ⟨Ao15, co15, eo15⟩ := Kd.R_slice HO158.out
                        subst eo15
                        obtain ⟨ado15, fo15, _⟩ := Kd.at_string (Kd.R_reads' HO158.out).2.2 0 (by decide) (by rw [Ny156.out]; simp)
                        cases fo15
                        refine hK.out _ _ ⟨.slice (some ado15) y156.length co15, ado15, v161, adz_v161, m5_, m9_, (by rw [ha.out]; exact putSel_upk 0 hb_ rfl rfl rfl), (by repeat (first | (with_reducible first | exact HB.out | apply below_alloc | apply pw_below_drewN | apply below_drew1) | exact HB.out)), fun _ => (by (with_reducible repeat (first | apply Kd.R_alloc | apply Kd.R_drewN | apply Kd.R_drew)); exact HO158.out), fun _ => ⟨_, rfl⟩, z_HO162, Q_HA_HO162, fun h0_ => absurd ((hoff 5 (by kernel_rfl)).symm.trans h0_) (by decide), Q_X9_⟩
                      refine steps_cons ?_ ?_
                      · rintro b a w' ⟨v157, adz_v157, v161, adz_v161, m5_, m9_, ha, Q_HB, Q_HO158, Q_HA_HO158, Q_HO162, Q_HA_HO162, Q_X5_, Q_X9_⟩ hb_ hon hoff
                        refine ⟨_, rfl, fun K hK => ?_⟩
                        have e15 : a.tmps[15]? = some (.int .i64 a1) := by rw [ha]; exact (putSel_off rfl).trans rfl
                        have e16 : a.tmps[16]? = some (.int .i64 x6_1) := by rw [ha]; exact (putSel_off rfl).trans rfl
                        replace ha := Aside0.mk ha
                        have HB := Aside0.mk Q_HB
                        refine value_ (w1 := w') (v := .int .i64 ji5) (by rfl) rfl ?_ ?_
                        · go_simp
                          (try simp only [i64_w])
                          try rfl
                        refine hK.out _ _ ⟨v157, adz_v157, v161, adz_v161, m5_, m9_, (by rw [ha.out]; exact putSel_upk 1 hb_ rfl rfl rfl), Q_HB, Q_HO158, Q_HA_HO158, Q_HO162, Q_HA_HO162, fun h0_ => absurd ((hoff 5 (by kernel_rfl)).symm.trans h0_) (by decide), Q_X9_⟩
                      refine steps_cons ?_ ?_
                      · rintro b a w' ⟨v157, adz_v157, v161, adz_v161, m5_, m9_, ha, Q_HB, Q_HO158, Q_HA_HO158, Q_HO162, Q_HA_HO162, Q_X5_, Q_X9_⟩ hb_ hon hoff
                        refine ⟨_, rfl, fun K hK => ?_⟩
                        have e17 : a.tmps[17]? = some (.int .i64 ji5) := by rw [ha]; exact putSel_on (e := (3, 17, .int .i64 ji5)) 1 rfl rfl (hon 3 (by kernel_rfl)) rfl
                        replace ha := Aside0.mk ha
                        have HB := Aside0.mk Q_HB
                        refine value_ (w1 := w') (v := .int .i64 ji6) (by rfl) rfl ?_ ?_
                        · go_simp
                          (try simp only [i64_w])
                          try rfl
                        refine hK.out _ _ ⟨v157, adz_v157, v161, adz_v161, m5_, m9_, (by rw [ha.out]; exact putSel_upk 2 hb_ rfl rfl rfl), Q_HB, Q_HO158, Q_HA_HO158, Q_HO162, Q_HA_HO162, fun h0_ => absurd ((hoff 5 (by kernel_rfl)).symm.trans h0_) (by decide), Q_X9_⟩
                      refine steps_cons ?_ ?_
                      · rintro b a w' ⟨v157, adz_v157, v161, adz_v161, m5_, m9_, ha, Q_HB, Q_HO158, Q_HA_HO158, Q_HO162, Q_HA_HO162, Q_X5_, Q_X9_⟩ hb_ hon hoff
                        refine ⟨_, rfl, fun K hK => ?_⟩
                        have e14 : a.tmps[14]? = some (v157) := by rw [ha]; exact putSel_on (e := (0, 14, v157)) 0 rfl rfl (hon 0 (by kernel_rfl)) rfl
                        have e18 : a.tmps[18]? = some (.int .i64 ji6) := by rw [ha]; exact putSel_on (e := (4, 18, .int .i64 ji6)) 2 rfl rfl (hon 4 (by kernel_rfl)) rfl
                        replace ha := Aside0.mk ha
                        have HB := Aside0.mk Q_HB
                        have HO158 := Aside0.mk (Q_HO158 (hon 0 (by kernel_rfl)))
                        have HA_HO158 := Aside0.mk (Q_HA_HO158 (hon 0 (by kernel_rfl)))
                        obtain ⟨c_, hv_⟩ := HA_HO158.out
                        rw [hv_] at e14
                        refine value_ (w1 := w') (v := .pointer (some (adz_v157.add ((ji6)).toNat))) (by rfl) rfl ?_ ?_
                        · go_simp
                          (try simp only [i64_w])
                          try rfl
                        refine hK.out _ _ ⟨v157, adz_v157, v161, adz_v161, (.pointer (some (adz_v157.add ((ji6)).toNat))), m9_, (by rw [ha.out]; exact putSel_upk 3 hb_ rfl rfl rfl), Q_HB, Q_HO158, Q_HA_HO158, Q_HO162, Q_HA_HO162, fun _ => rfl, Q_X9_⟩
                      refine steps_cons ?_ ?_
                      · rintro b a w' ⟨v157, adz_v157, v161, adz_v161, m5_, m9_, ha, Q_HB, Q_HO158, Q_HA_HO158, Q_HO162, Q_HA_HO162, Q_X5_, Q_X9_⟩ hb_ hon hoff
                        refine ⟨_, rfl, fun K hK => ?_⟩
                        have e19 : a.tmps[19]? = some (m5_) := by rw [ha]; exact putSel_on (e := (5, 19, m5_)) 3 rfl rfl (hon 5 (by kernel_rfl)) rfl
                        rw [Q_X5_ (hon 5 (by kernel_rfl))] at e19
                        replace ha := Aside0.mk ha
                        have HB := Aside0.mk Q_HB
                        have HO158 := Aside0.mk (Q_HO158 (hon 0 (by kernel_rfl)))
                        have HA_HO158 := Aside0.mk (Q_HA_HO158 (hon 0 (by kernel_rfl)))
                        obtain ⟨c_, hv_⟩ := HA_HO158.out
                        have hF_ := HO158.out
                        rw [hv_] at hF_
                        obtain ⟨ad_, ea_, hx_⟩ := Kd.at_string (Kd.R_reads' hF_).2.2 (ji6) (of_eq_true pi159) (of_eq_true qi159)
                        cases ea_
                        refine value_ (w1 := w') (v := .string (rdOf ByteArray.empty y156 (ji6))) (by rfl) rfl ?_ ?_
                        · go_simp
                          (try simp only [i64_w])
                          try rfl
                        refine hK.out _ _ ⟨v157, adz_v157, v161, adz_v161, m5_, m9_, (by rw [ha.out]; exact putSel_upk 4 hb_ rfl rfl rfl), Q_HB, Q_HO158, Q_HA_HO158, Q_HO162, Q_HA_HO162, Q_X5_, Q_X9_⟩
                      refine steps_cons ?_ ?_
                      · rintro b a w' ⟨v157, adz_v157, v161, adz_v161, m5_, m9_, ha, Q_HB, Q_HO158, Q_HA_HO158, Q_HO162, Q_HA_HO162, Q_X5_, Q_X9_⟩ hb_ hon hoff
                        refine ⟨_, rfl, fun K hK => ?_⟩
                        replace ha := Aside0.mk ha
                        have HB := Aside0.mk Q_HB
                        refine Kd.R_lit_step Kd.string _ 9 ?hg (N := 21) ?hd (xs := ([(⟨#[97]⟩ : ByteArray), (⟨#[98]⟩ : ByteArray), (⟨#[99]⟩ : ByteArray)] : List ByteArray)) (inner := [.string (⟨#[97]⟩ : ByteArray), .string (⟨#[98]⟩ : ByteArray), .string (⟨#[99]⟩ : ByteArray)]) (ok := fun _ => True) (okp := fun _ => True) ?hr ?hp (fun _ hk => hk) trivial (Below.refl _ _) (Nat.le_refl _) (by simp) ?_; (case hd => rfl); (case hg => rfl); (case hr => first | (go_simp; done) | (go_simp; rfl)); (case hp => exact (Reps.one (show Kd.M Kd.string _ _ _ (⟨#[97]⟩ : ByteArray) [.string (⟨#[97]⟩ : ByteArray)] from rfl) (Reps.one (show Kd.M Kd.string _ _ _ (⟨#[98]⟩ : ByteArray) [.string (⟨#[98]⟩ : ByteArray)] from rfl) (Reps.one (show Kd.M Kd.string _ _ _ (⟨#[99]⟩ : ByteArray) [.string (⟨#[99]⟩ : ByteArray)] from rfl) (Reps.none _ _)))))
                        intro v161 w13 ho14 hb hg_ hnew_
                        clear hg_ hnew_
                        (first | rw [← Ny160.out] at ho14 | (simp only [Int.reduceToNat] at ho14; rw [← Ny160.out] at ho14))
                        have n0_ := Aside0.mk (Kd.R_lower ho14 (below_size (by repeat (first | (with_reducible first | exact HB.out | apply below_alloc | apply pw_below_drewN | apply below_drew1) | exact HB.out))))
                        have n1_ := Aside0.mk (below_step (by repeat (first | (with_reducible first | exact HB.out | apply below_alloc | apply pw_below_drewN | apply below_drew1) | exact HB.out)) hb)
                        have z_HO158 := fun (h0_ : b 0 = true) => (show Kd.R Kd.string 9 w13 w.heap.size (fun _ => True) v157 y156 from by first | exact (Kd.R_elder' (by (with_reducible repeat (first | apply Kd.R_alloc | apply Kd.R_drewN | apply Kd.R_drew)); exact (Q_HO158 h0_)) (Kd.R_base ho14) hb) | exact Kd.R_mono (Kd.R_elder' (by (with_reducible repeat (first | apply Kd.R_alloc | apply Kd.R_drewN | apply Kd.R_drew)); exact (Q_HO158 h0_)) (Kd.R_base ho14) hb) (fun _ h_ => by first | trivial | exact h_ | exact h_.1))
                        clear HB
                        have HO162 := n0_
                        have HB := n1_
                        clear n0_ n1_
                        clear hb ho14
                        obtain ⟨Ao15, co15, eo15⟩ := Kd.R_slice HO162.out
                        subst eo15
                        obtain ⟨ado15, fo15, _⟩ := Kd.at_string (Kd.R_reads' HO162.out).2.2 0 (by decide) (by rw [Ny160.out]; simp)
                        cases fo15
                        refine hK.out _ _ ⟨v157, adz_v157, .slice (some ado15) y160.length co15, ado15, m5_, m9_, (by rw [ha.out]; exact putSel_upk 5 hb_ rfl rfl rfl), (by repeat (first | (with_reducible first | exact HB.out | apply below_alloc | apply pw_below_drewN | apply below_drew1) | exact HB.out)), z_HO158, Q_HA_HO158, fun _ => (by (with_reducible repeat (first | apply Kd.R_alloc | apply Kd.R_drewN | apply Kd.R_drew)); exact HO162.out), fun _ => ⟨_, rfl⟩, Q_X5_, fun h0_ => absurd ((hoff 9 (by kernel_rfl)).symm.trans h0_) (by decide)⟩
                      refine steps_cons ?_ ?_
                      · rintro b a w' ⟨v157, adz_v157, v161, adz_v161, m5_, m9_, ha, Q_HB, Q_HO158, Q_HA_HO158, Q_HO162, Q_HA_HO162, Q_X5_, Q_X9_⟩ hb_ hon hoff
                        refine ⟨_, rfl, fun K hK => ?_⟩
                        have e21 : a.tmps[21]? = some (v161) := by rw [ha]; exact putSel_on (e := (7, 21, v161)) 5 rfl rfl (hon 7 (by kernel_rfl)) rfl
                        have e22 : a.tmps[22]? = some (.int .i64 x6_1) := by rw [ha]; exact (putSel_off rfl).trans rfl
                        replace ha := Aside0.mk ha
                        have HB := Aside0.mk Q_HB
                        have HO162 := Aside0.mk (Q_HO162 (hon 7 (by kernel_rfl)))
                        have HA_HO162 := Aside0.mk (Q_HA_HO162 (hon 7 (by kernel_rfl)))
                        obtain ⟨c_, hv_⟩ := HA_HO162.out
                        rw [hv_] at e21
                        refine value_ (w1 := w') (v := .pointer (some (adz_v161.add (x6_1).toNat))) (by rfl) rfl ?_ ?_
                        · go_simp
                          (try simp only [i64_w])
                          try rfl
                        refine hK.out _ _ ⟨v157, adz_v157, v161, adz_v161, m5_, (.pointer (some (adz_v161.add (x6_1).toNat))), (by rw [ha.out]; exact putSel_upk 6 hb_ rfl rfl rfl), Q_HB, Q_HO158, Q_HA_HO158, Q_HO162, Q_HA_HO162, Q_X5_, fun _ => rfl⟩
                      refine steps_cons ?_ ?_
                      · rintro b a w' ⟨v157, adz_v157, v161, adz_v161, m5_, m9_, ha, Q_HB, Q_HO158, Q_HA_HO158, Q_HO162, Q_HA_HO162, Q_X5_, Q_X9_⟩ hb_ hon hoff
                        refine ⟨_, rfl, fun K hK => ?_⟩
                        have e23 : a.tmps[23]? = some (m9_) := by rw [ha]; exact putSel_on (e := (9, 23, m9_)) 6 rfl rfl (hon 9 (by kernel_rfl)) rfl
                        rw [Q_X9_ (hon 9 (by kernel_rfl))] at e23
                        replace ha := Aside0.mk ha
                        have HB := Aside0.mk Q_HB
                        have HO162 := Aside0.mk (Q_HO162 (hon 7 (by kernel_rfl)))
                        have HA_HO162 := Aside0.mk (Q_HA_HO162 (hon 7 (by kernel_rfl)))
                        obtain ⟨c_, hv_⟩ := HA_HO162.out
                        have hF_ := HO162.out
                        rw [hv_] at hF_
                        obtain ⟨ad_, ea_, hx_⟩ := Kd.at_string (Kd.R_reads' hF_).2.2 x6_1 (of_eq_true pi163) (of_eq_true qi163)
                        cases ea_
                        refine value_ (w1 := w') (v := .string (rdOf ByteArray.empty y160 x6_1)) (by rfl) rfl ?_ ?_
                        · go_simp
                          (try simp only [i64_w])
                          try rfl
                        refine hK.out _ _ ⟨v157, adz_v157, v161, adz_v161, m5_, m9_, (by rw [ha.out]; exact putSel_upk 7 hb_ rfl rfl rfl), Q_HB, Q_HO158, Q_HA_HO158, Q_HO162, Q_HA_HO162, Q_X5_, Q_X9_⟩
                      refine steps_cons ?_ ?_
                      · rintro b a w' ⟨v157, adz_v157, v161, adz_v161, m5_, m9_, ha, Q_HB, Q_HO158, Q_HA_HO158, Q_HO162, Q_HA_HO162, Q_X5_, Q_X9_⟩ hb_ hon hoff
                        refine ⟨_, rfl, fun K hK => ?_⟩
                        have e20 : a.tmps[20]? = some (.string (rdOf ByteArray.empty y156 (ji6))) := by rw [ha]; exact putSel_on (e := (6, 20, .string (rdOf ByteArray.empty y156 (ji6)))) 4 rfl rfl (hon 6 (by kernel_rfl)) rfl
                        have e24 : a.tmps[24]? = some (.string (rdOf ByteArray.empty y160 x6_1)) := by rw [ha]; exact putSel_on (e := (10, 24, .string (rdOf ByteArray.empty y160 x6_1))) 7 rfl rfl (hon 10 (by kernel_rfl)) rfl
                        replace ha := Aside0.mk ha
                        have HB := Aside0.mk Q_HB
                        have HO158 := Aside0.mk (Q_HO158 (hon 0 (by kernel_rfl)))
                        have HA_HO158 := Aside0.mk (Q_HA_HO158 (hon 0 (by kernel_rfl)))
                        have HO162 := Aside0.mk (Q_HO162 (hon 7 (by kernel_rfl)))
                        have HA_HO162 := Aside0.mk (Q_HA_HO162 (hon 7 (by kernel_rfl)))
                        refine value_ (w1 := w') (v := .string ((rdOf ByteArray.empty y156 (ji6)) ++ (rdOf ByteArray.empty y160 x6_1))) (by rfl) rfl ?_ ?_
                        · go_simp
                          (try simp only [i64_w])
                          try rfl
                        refine hK.out _ _ ⟨v157, adz_v157, v161, adz_v161, m5_, m9_, (by rw [ha.out]; exact putSel_upk 8 hb_ rfl rfl rfl), Q_HB, Q_HO158, Q_HA_HO158, Q_HO162, Q_HA_HO162, Q_X5_, Q_X9_⟩
                      refine steps_cons ?_ ?_
                      · rintro b a w' ⟨v157, adz_v157, v161, adz_v161, m5_, m9_, ha, Q_HB, Q_HO158, Q_HA_HO158, Q_HO162, Q_HA_HO162, Q_X5_, Q_X9_⟩ hb_ hon hoff
                        refine ⟨_, rfl, fun K hK => ?_⟩
                        have e25 : a.tmps[25]? = some (.string ((rdOf ByteArray.empty y156 (ji6)) ++ (rdOf ByteArray.empty y160 x6_1))) := by rw [ha]; exact putSel_on (e := (11, 25, .string ((rdOf ByteArray.empty y156 (ji6)) ++ (rdOf ByteArray.empty y160 x6_1)))) 8 rfl rfl (hon 11 (by kernel_rfl)) rfl
                        replace ha := Aside0.mk ha
                        have HB := Aside0.mk Q_HB
                        have HO158 := Aside0.mk (Q_HO158 (hon 0 (by kernel_rfl)))
                        have HA_HO158 := Aside0.mk (Q_HA_HO158 (hon 0 (by kernel_rfl)))
                        have HO162 := Aside0.mk (Q_HO162 (hon 7 (by kernel_rfl)))
                        have HA_HO162 := Aside0.mk (Q_HA_HO162 (hon 7 (by kernel_rfl)))
                        refine value_ (w1 := w') (v := .string ((rdOf ByteArray.empty y156 (ji6)) ++ (rdOf ByteArray.empty y160 x6_1))) (by rfl) rfl ?_ ?_
                        · go_simp
                          (try simp only [i64_w])
                          try rfl
                        refine hK.out _ _ ⟨v157, adz_v157, v161, adz_v161, m5_, m9_, (by rw [ha.out]; exact putSel_upk 9 hb_ rfl rfl rfl), Q_HB, Q_HO158, Q_HA_HO158, Q_HO162, Q_HA_HO162, Q_X5_, Q_X9_⟩
                      exact steps_nil
                    rintro b a w19 hall ⟨v157, adz_v157, v161, adz_v161, m5_, m9_, ha, Q_HB, Q_HO158, Q_HA_HO158, Q_HO162, Q_HA_HO162, Q_X5_, Q_X9_⟩
                    clear HB
                    have hb0_ := hall 0 (by kernel_rfl)
                    have hb3_ := hall 3 (by kernel_rfl)
                    have hb4_ := hall 4 (by kernel_rfl)
                    have hb5_ := hall 5 (by kernel_rfl)
                    have hb6_ := hall 6 (by kernel_rfl)
                    have hb7_ := hall 7 (by kernel_rfl)
                    have hb9_ := hall 9 (by kernel_rfl)
                    have hb10_ := hall 10 (by kernel_rfl)
                    have hb11_ := hall 11 (by kernel_rfl)
                    have hb12_ := hall 12 (by kernel_rfl)
                    subst ha
                    obtain rfl := Q_X5_ hb5_
                    obtain rfl := Q_X9_ hb9_
                    simp only [putSel, hb0_, hb3_, hb4_, hb5_, hb6_, hb7_, hb9_, hb10_, hb11_, hb12_, if_true, Act.put, List.setIfInBounds_toArray, List.set_cons_zero, List.set_cons_succ]
                    have HB := Aside0.mk Q_HB
                    clear Q_HB
                    have HO158 := Aside0.mk (Q_HO158 hb0_)
                    clear Q_HO158
                    have HA_HO158 := Aside0.mk (Q_HA_HO158 hb0_)
                    clear Q_HA_HO158
                    have HO162 := Aside0.mk (Q_HO162 hb7_)
                    clear Q_HO162
                    have HA_HO162 := Aside0.mk (Q_HA_HO162 hb7_)
                    clear Q_HA_HO162
                    clear hall hb0_ hb3_ hb4_ hb5_ hb6_ hb7_ hb9_ hb10_ hb11_ hb12_
                    obtain ⟨co20, eo20⟩ := HA_HO158.out
                    clear HA_HO158
                    subst eo20
                    obtain ⟨co21, eo21⟩ := HA_HO162.out
                    clear HA_HO162
                    subst eo21
                    try go_wp2
                    go_roundg k1
                    case measure => have := HK1.out; omega
                    case rel => exact ⟨((rdOf ByteArray.empty y156 (ji6)) ++ (rdOf ByteArray.empty y160 x6_1)), (wrap64 (x6_1 - 1)), (by first | rfl | (simp; done) | (simp only [← hji6] <;> (first | rfl | simp)) | (simp [*]; done)), (by first | rfl | (simp; done) | (simp [*]; done)), H', ⟨by have := HK1.out; omega⟩, ⟨by repeat (first | (with_reducible first | exact HB.out | apply below_alloc | apply pw_below_drewN | apply below_drew1) | exact HB.out)⟩⟩
                  · rw [if_neg c11] at H
                    have c11b0 : (x5_1.toList == ([] : List UInt8)) = false := beq_eq_false_iff_ne.mpr c11
                    have c11b1 : (x5_1.toList != ([] : List UInt8)) = true := bne_iff_ne.mpr c11
                    by_cases c22 : 1 + ((rdOf ByteArray.empty y156 (ji6)) ++ (rdOf ByteArray.empty y160 x6_1)).size ≤ 9223372036854775807
                    · rw [if_pos c22] at H
                      have c22b0 := eq_true c22
                      have c22b1 : decide (1 + ((rdOf ByteArray.empty y156 (ji6)) ++ (rdOf ByteArray.empty y160 x6_1)).size ≤ 9223372036854775807) = true := decide_eq_true c22
                      try have c22b2 : (9223372036854775807 < 1 + ((rdOf ByteArray.empty y156 (ji6)) ++ (rdOf ByteArray.empty y160 x6_1)).size) = False := eq_false (Nat.not_lt.2 c22)
                      try (have c22b3 := c22b2; simp only [ByteArray.size_append, bsz1, bsz0] at c22b3)
                      by_cases c23 : ((⟨#[40]⟩ : ByteArray) ++ ((rdOf ByteArray.empty y156 (ji6)) ++ (rdOf ByteArray.empty y160 x6_1))).size + 1 ≤ 9223372036854775807
                      · rw [if_pos c23] at H
                        have c23b0 := eq_true c23
                        have c23b1 : decide (((⟨#[40]⟩ : ByteArray) ++ ((rdOf ByteArray.empty y156 (ji6)) ++ (rdOf ByteArray.empty y160 x6_1))).size + 1 ≤ 9223372036854775807) = true := decide_eq_true c23
                        try have c23b2 : (9223372036854775807 < ((⟨#[40]⟩ : ByteArray) ++ ((rdOf ByteArray.empty y156 (ji6)) ++ (rdOf ByteArray.empty y160 x6_1))).size + 1) = False := eq_false (Nat.not_lt.2 c23)
                        try (have c23b3 := c23b2; simp only [ByteArray.size_append, bsz1, bsz0] at c23b3)
                        by_cases c24 : (((⟨#[40]⟩ : ByteArray) ++ ((rdOf ByteArray.empty y156 (ji6)) ++ (rdOf ByteArray.empty y160 x6_1))) ++ (⟨#[38]⟩ : ByteArray)).size + x5_1.size ≤ 9223372036854775807
                        · rw [if_pos c24] at H
                          have c24b0 := eq_true c24
                          have c24b1 : decide ((((⟨#[40]⟩ : ByteArray) ++ ((rdOf ByteArray.empty y156 (ji6)) ++ (rdOf ByteArray.empty y160 x6_1))) ++ (⟨#[38]⟩ : ByteArray)).size + x5_1.size ≤ 9223372036854775807) = true := decide_eq_true c24
                          try have c24b2 : (9223372036854775807 < (((⟨#[40]⟩ : ByteArray) ++ ((rdOf ByteArray.empty y156 (ji6)) ++ (rdOf ByteArray.empty y160 x6_1))) ++ (⟨#[38]⟩ : ByteArray)).size + x5_1.size) = False := eq_false (Nat.not_lt.2 c24)
                          try (have c24b3 := c24b2; simp only [ByteArray.size_append, bsz1, bsz0] at c24b3)
                          by_cases c25 : ((((⟨#[40]⟩ : ByteArray) ++ ((rdOf ByteArray.empty y156 (ji6)) ++ (rdOf ByteArray.empty y160 x6_1))) ++ (⟨#[38]⟩ : ByteArray)) ++ x5_1).size + 1 ≤ 9223372036854775807
                          · rw [if_pos c25] at H
                            have c25b0 := eq_true c25
                            have c25b1 : decide (((((⟨#[40]⟩ : ByteArray) ++ ((rdOf ByteArray.empty y156 (ji6)) ++ (rdOf ByteArray.empty y160 x6_1))) ++ (⟨#[38]⟩ : ByteArray)) ++ x5_1).size + 1 ≤ 9223372036854775807) = true := decide_eq_true c25
                            try have c25b2 : (9223372036854775807 < ((((⟨#[40]⟩ : ByteArray) ++ ((rdOf ByteArray.empty y156 (ji6)) ++ (rdOf ByteArray.empty y160 x6_1))) ++ (⟨#[38]⟩ : ByteArray)) ++ x5_1).size + 1) = False := eq_false (Nat.not_lt.2 c25)
                            try (have c25b3 := c25b2; simp only [ByteArray.size_append, bsz1, bsz0] at c25b3)
                            have H' := Aside0.mk H
                            clear H
                            try go_wp2
                            have pi159 : (0 ≤ ((ji6) : Int)) = True := eq_true (of_decide_eq_true (by first | (with_reducible assumption) | assumption))
                            have qi159 : ((ji6) < (y156.length : Int)) = True := eq_true (of_decide_eq_true (by first | (with_reducible assumption) | assumption))
                            have pi163 : (0 ≤ (x6_1 : Int)) = True := eq_true (of_decide_eq_true (by first | (with_reducible assumption) | assumption))
                            have qi163 : (x6_1 < (y160.length : Int)) = True := eq_true (of_decide_eq_true (by first | (with_reducible assumption) | assumption))
                            have n0_ := Aside0.mk (below_drew1 HB.out)
                            clear HB
                            have HB := n0_
                            clear n0_
                            refine start_ (n := 13) (S := fun w' => True) (ds := []) #[false, false, false, false, false, false, false, false, false, false, false, false, false] (by kernel_rfl) rfl rfl trivial (fun hHeld => ?_); refine with_tabW spec_l1World.tab5 spec_l1World.bits5 (fun HT_ HW_ => ?_)
                            generalize wr.drew = w26 at HB hHeld ⊢
                            refine pure_ (i := 1) (N := some 15) (v := ?_) (a' := ?_) #[false, true, false, false, false, false, false, false, false, false, false, false, false] rfl rfl (any_of HT_.out (by kernel_rfl)) (fun _ _ _ h => h) (Or.inl ⟨by rfl, ?_⟩) ?_ ?_
                            rotate_left
                            · intro w'
                              go_simp
                              with_reducible rfl
                            rotate_left
                            · simp only [Act.put, List.setIfInBounds_toArray, List.set_cons_zero, List.set_cons_succ, i64_w, i32_w]
                              rfl
                            refine pure_ (i := 2) (N := some 16) (v := ?_) (a' := ?_) #[false, true, true, false, false, false, false, false, false, false, false, false, false] rfl rfl (any_of HT_.out (by kernel_rfl)) (fun _ _ _ h => h) (Or.inl ⟨by rfl, ?_⟩) ?_ ?_
                            rotate_left
                            · intro w'
                              go_simp
                              with_reducible rfl
                            rotate_left
                            · simp only [Act.put, List.setIfInBounds_toArray, List.set_cons_zero, List.set_cons_succ, i64_w, i32_w]
                              rfl
                            refine pure_ (i := 8) (N := some 22) (v := ?_) (a' := ?_) #[false, true, true, false, false, false, false, false, true, false, false, false, false] rfl rfl (any_of HT_.out (by kernel_rfl)) (fun _ _ _ h => h) (Or.inl ⟨by rfl, ?_⟩) ?_ ?_
                            rotate_left
                            · intro w'
                              go_simp
                              with_reducible rfl
                            rotate_left
                            · simp only [Act.put, List.setIfInBounds_toArray, List.set_cons_zero, List.set_cons_succ, i64_w, i32_w]
                              rfl
                            refine inv_at [0, 3, 4, 5, 6, 7, 9, 10, 11, 12] (fun a0_ b a w' => ∃ (v157 : Value) (adz_v157 : Addr) (v161 : Value) (adz_v161 : Addr) (m5_ : Value) (m9_ : Value), a = putSel a0_ b [(0, 14, v157), (3, 17, .int .i64 ji5), (4, 18, .int .i64 ji6), (5, 19, m5_), (6, 20, .string (rdOf ByteArray.empty y156 (ji6))), (7, 21, v161), (9, 23, m9_), (10, 24, .string (rdOf ByteArray.empty y160 x6_1)), (11, 25, .string ((rdOf ByteArray.empty y156 (ji6)) ++ (rdOf ByteArray.empty y160 x6_1))), (12, 7, .string ((rdOf ByteArray.empty y156 (ji6)) ++ (rdOf ByteArray.empty y160 x6_1)))] ∧ (Below w.heap.size w w') ∧ (b 0 = true → Kd.R Kd.string 9 w' w.heap.size (fun _ => True) v157 y156) ∧ (b 0 = true → ∃ c_, (v157 : Value) = .slice (some adz_v157) y156.length c_) ∧ (b 7 = true → Kd.R Kd.string 9 w' w.heap.size (fun _ => True) v161 y160) ∧ (b 7 = true → ∃ c_, (v161 : Value) = .slice (some adz_v161) y160.length c_) ∧ (b 5 = true → (m5_ : Value) = .pointer (some (adz_v157.add ((ji6)).toNat))) ∧ (b 9 = true → (m9_ : Value) = .pointer (some (adz_v161.add (x6_1).toNat)))) HT_.out HW_.out (by kernel_rfl) (by kernel_rfl) ?_ ?_ ?_
                            · exact ⟨.bool false, ⟨0, 0, none⟩, .bool false, ⟨0, 0, none⟩, .bool false, .bool false, by simp only [putSel, Bool.false_eq_true, if_false], HB.out, fun h_ => absurd h_ (by decide), fun h_ => absurd h_ (by decide), fun h_ => absurd h_ (by decide), fun h_ => absurd h_ (by decide), fun h_ => absurd h_ (by decide), fun h_ => absurd h_ (by decide)⟩
                            · skip
                              clear HB
                              refine steps_cons ?_ ?_
                              · rintro b a w' ⟨v157, adz_v157, v161, adz_v161, m5_, m9_, ha, Q_HB, Q_HO158, Q_HA_HO158, Q_HO162, Q_HA_HO162, Q_X5_, Q_X9_⟩ hb_ hon hoff
                                refine ⟨_, rfl, fun K hK => ?_⟩
                                replace ha := Aside0.mk ha
                                have HB := Aside0.mk Q_HB
                                refine Kd.R_lit_step Kd.string _ 9 ?hg (N := 14) ?hd (xs := ([(⟨#[33]⟩ : ByteArray), (⟨#[]⟩ : ByteArray)] : List ByteArray)) (inner := [.string (⟨#[33]⟩ : ByteArray), .string (⟨#[]⟩ : ByteArray)]) (ok := fun _ => True) (okp := fun _ => True) ?hr ?hp (fun _ hk => hk) trivial (Below.refl _ _) (Nat.le_refl _) (by simp) ?_; (case hd => rfl); (case hg => rfl); (case hr => first | (go_simp; done) | (go_simp; rfl)); (case hp => exact (Reps.one (show Kd.M Kd.string _ _ _ (⟨#[33]⟩ : ByteArray) [.string (⟨#[33]⟩ : ByteArray)] from rfl) (Reps.one (show Kd.M Kd.string _ _ _ (⟨#[]⟩ : ByteArray) [.string (⟨#[]⟩ : ByteArray)] from rfl) (Reps.none _ _))))
                                intro v157 w27 ho28 hb hg_ hnew_
                                clear hg_ hnew_
                                (first | rw [← Ny156.out] at ho28 | (simp only [Int.reduceToNat] at ho28; rw [← Ny156.out] at ho28))
                                have n0_ := Aside0.mk (Kd.R_lower ho28 (below_size (by repeat (first | (with_reducible first | exact HB.out | apply below_alloc | apply pw_below_drewN | apply below_drew1) | exact HB.out))))
                                have n1_ := Aside0.mk (below_step (by repeat (first | (with_reducible first | exact HB.out | apply below_alloc | apply pw_below_drewN | apply below_drew1) | exact HB.out)) hb)
                                have z_HO162 := fun (h0_ : b 7 = true) => (show Kd.R Kd.string 9 w27 w.heap.size (fun _ => True) v161 y160 from by first | exact (Kd.R_elder' (by (with_reducible repeat (first | apply Kd.R_alloc | apply Kd.R_drewN | apply Kd.R_drew)); exact (Q_HO162 h0_)) (Kd.R_base ho28) hb) | exact Kd.R_mono (Kd.R_elder' (by (with_reducible repeat (first | apply Kd.R_alloc | apply Kd.R_drewN | apply Kd.R_drew)); exact (Q_HO162 h0_)) (Kd.R_base ho28) hb) (fun _ h_ => by first | trivial | exact h_ | exact h_.1))
                                clear HB
                                have HO158 := n0_
                                have HB := n1_
                                clear n0_ n1_
                                clear hb ho28
                                obtain ⟨Ao29, co29, eo29⟩ := Kd.R_slice HO158.out
                                subst eo29
                                obtain ⟨ado29, fo29, _⟩ := Kd.at_string (Kd.R_reads' HO158.out).2.2 0 (by decide) (by rw [Ny156.out]; simp)
                                cases fo29
                                refine hK.out _ _ ⟨.slice (some ado29) y156.length co29, ado29, v161, adz_v161, m5_, m9_, (by rw [ha.out]; exact putSel_upk 0 hb_ rfl rfl rfl), (by repeat (first | (with_reducible first | exact HB.out | apply below_alloc | apply pw_below_drewN | apply below_drew1) | exact HB.out)), fun _ => (by (with_reducible repeat (first | apply Kd.R_alloc | apply Kd.R_drewN | apply Kd.R_drew)); exact HO158.out), fun _ => ⟨_, rfl⟩, z_HO162, Q_HA_HO162, fun h0_ => absurd ((hoff 5 (by kernel_rfl)).symm.trans h0_) (by decide), Q_X9_⟩
                              refine steps_cons ?_ ?_
                              · rintro b a w' ⟨v157, adz_v157, v161, adz_v161, m5_, m9_, ha, Q_HB, Q_HO158, Q_HA_HO158, Q_HO162, Q_HA_HO162, Q_X5_, Q_X9_⟩ hb_ hon hoff
                                refine ⟨_, rfl, fun K hK => ?_⟩
                                have e15 : a.tmps[15]? = some (.int .i64 a1) := by rw [ha]; exact (putSel_off rfl).trans rfl
                                have e16 : a.tmps[16]? = some (.int .i64 x6_1) := by rw [ha]; exact (putSel_off rfl).trans rfl
                                replace ha := Aside0.mk ha
                                have HB := Aside0.mk Q_HB
                                refine value_ (w1 := w') (v := .int .i64 ji5) (by rfl) rfl ?_ ?_
                                · go_simp
                                  (try simp only [i64_w])
                                  try rfl
                                refine hK.out _ _ ⟨v157, adz_v157, v161, adz_v161, m5_, m9_, (by rw [ha.out]; exact putSel_upk 1 hb_ rfl rfl rfl), Q_HB, Q_HO158, Q_HA_HO158, Q_HO162, Q_HA_HO162, fun h0_ => absurd ((hoff 5 (by kernel_rfl)).symm.trans h0_) (by decide), Q_X9_⟩
                              refine steps_cons ?_ ?_
                              · rintro b a w' ⟨v157, adz_v157, v161, adz_v161, m5_, m9_, ha, Q_HB, Q_HO158, Q_HA_HO158, Q_HO162, Q_HA_HO162, Q_X5_, Q_X9_⟩ hb_ hon hoff
                                refine ⟨_, rfl, fun K hK => ?_⟩
                                have e17 : a.tmps[17]? = some (.int .i64 ji5) := by rw [ha]; exact putSel_on (e := (3, 17, .int .i64 ji5)) 1 rfl rfl (hon 3 (by kernel_rfl)) rfl
                                replace ha := Aside0.mk ha
                                have HB := Aside0.mk Q_HB
                                refine value_ (w1 := w') (v := .int .i64 ji6) (by rfl) rfl ?_ ?_
                                · go_simp
                                  (try simp only [i64_w])
                                  try rfl
                                refine hK.out _ _ ⟨v157, adz_v157, v161, adz_v161, m5_, m9_, (by rw [ha.out]; exact putSel_upk 2 hb_ rfl rfl rfl), Q_HB, Q_HO158, Q_HA_HO158, Q_HO162, Q_HA_HO162, fun h0_ => absurd ((hoff 5 (by kernel_rfl)).symm.trans h0_) (by decide), Q_X9_⟩
                              refine steps_cons ?_ ?_
                              · rintro b a w' ⟨v157, adz_v157, v161, adz_v161, m5_, m9_, ha, Q_HB, Q_HO158, Q_HA_HO158, Q_HO162, Q_HA_HO162, Q_X5_, Q_X9_⟩ hb_ hon hoff
                                refine ⟨_, rfl, fun K hK => ?_⟩
                                have e14 : a.tmps[14]? = some (v157) := by rw [ha]; exact putSel_on (e := (0, 14, v157)) 0 rfl rfl (hon 0 (by kernel_rfl)) rfl
                                have e18 : a.tmps[18]? = some (.int .i64 ji6) := by rw [ha]; exact putSel_on (e := (4, 18, .int .i64 ji6)) 2 rfl rfl (hon 4 (by kernel_rfl)) rfl
                                replace ha := Aside0.mk ha
                                have HB := Aside0.mk Q_HB
                                have HO158 := Aside0.mk (Q_HO158 (hon 0 (by kernel_rfl)))
                                have HA_HO158 := Aside0.mk (Q_HA_HO158 (hon 0 (by kernel_rfl)))
                                obtain ⟨c_, hv_⟩ := HA_HO158.out
                                rw [hv_] at e14
                                refine value_ (w1 := w') (v := .pointer (some (adz_v157.add ((ji6)).toNat))) (by rfl) rfl ?_ ?_
                                · go_simp
                                  (try simp only [i64_w])
                                  try rfl
                                refine hK.out _ _ ⟨v157, adz_v157, v161, adz_v161, (.pointer (some (adz_v157.add ((ji6)).toNat))), m9_, (by rw [ha.out]; exact putSel_upk 3 hb_ rfl rfl rfl), Q_HB, Q_HO158, Q_HA_HO158, Q_HO162, Q_HA_HO162, fun _ => rfl, Q_X9_⟩
                              refine steps_cons ?_ ?_
                              · rintro b a w' ⟨v157, adz_v157, v161, adz_v161, m5_, m9_, ha, Q_HB, Q_HO158, Q_HA_HO158, Q_HO162, Q_HA_HO162, Q_X5_, Q_X9_⟩ hb_ hon hoff
                                refine ⟨_, rfl, fun K hK => ?_⟩
                                have e19 : a.tmps[19]? = some (m5_) := by rw [ha]; exact putSel_on (e := (5, 19, m5_)) 3 rfl rfl (hon 5 (by kernel_rfl)) rfl
                                rw [Q_X5_ (hon 5 (by kernel_rfl))] at e19
                                replace ha := Aside0.mk ha
                                have HB := Aside0.mk Q_HB
                                have HO158 := Aside0.mk (Q_HO158 (hon 0 (by kernel_rfl)))
                                have HA_HO158 := Aside0.mk (Q_HA_HO158 (hon 0 (by kernel_rfl)))
                                obtain ⟨c_, hv_⟩ := HA_HO158.out
                                have hF_ := HO158.out
                                rw [hv_] at hF_
                                obtain ⟨ad_, ea_, hx_⟩ := Kd.at_string (Kd.R_reads' hF_).2.2 (ji6) (of_eq_true pi159) (of_eq_true qi159)
                                cases ea_
                                refine value_ (w1 := w') (v := .string (rdOf ByteArray.empty y156 (ji6))) (by rfl) rfl ?_ ?_
                                · go_simp
                                  (try simp only [i64_w])
                                  try rfl
                                refine hK.out _ _ ⟨v157, adz_v157, v161, adz_v161, m5_, m9_, (by rw [ha.out]; exact putSel_upk 4 hb_ rfl rfl rfl), Q_HB, Q_HO158, Q_HA_HO158, Q_HO162, Q_HA_HO162, Q_X5_, Q_X9_⟩
                              refine steps_cons ?_ ?_
                              · rintro b a w' ⟨v157, adz_v157, v161, adz_v161, m5_, m9_, ha, Q_HB, Q_HO158, Q_HA_HO158, Q_HO162, Q_HA_HO162, Q_X5_, Q_X9_⟩ hb_ hon hoff
                                refine ⟨_, rfl, fun K hK => ?_⟩
                                replace ha := Aside0.mk ha
                                have HB := Aside0.mk Q_HB
                                refine Kd.R_lit_step Kd.string _ 9 ?hg (N := 21) ?hd (xs := ([(⟨#[97]⟩ : ByteArray), (⟨#[98]⟩ : ByteArray), (⟨#[99]⟩ : ByteArray)] : List ByteArray)) (inner := [.string (⟨#[97]⟩ : ByteArray), .string (⟨#[98]⟩ : ByteArray), .string (⟨#[99]⟩ : ByteArray)]) (ok := fun _ => True) (okp := fun _ => True) ?hr ?hp (fun _ hk => hk) trivial (Below.refl _ _) (Nat.le_refl _) (by simp) ?_; (case hd => rfl); (case hg => rfl); (case hr => first | (go_simp; done) | (go_simp; rfl)); (case hp => exact (Reps.one (show Kd.M Kd.string _ _ _ (⟨#[97]⟩ : ByteArray) [.string (⟨#[97]⟩ : ByteArray)] from rfl) (Reps.one (show Kd.M Kd.string _ _ _ (⟨#[98]⟩ : ByteArray) [.string (⟨#[98]⟩ : ByteArray)] from rfl) (Reps.one (show Kd.M Kd.string _ _ _ (⟨#[99]⟩ : ByteArray) [.string (⟨#[99]⟩ : ByteArray)] from rfl) (Reps.none _ _)))))
                                intro v161 w27 ho28 hb hg_ hnew_
                                clear hg_ hnew_
                                (first | rw [← Ny160.out] at ho28 | (simp only [Int.reduceToNat] at ho28; rw [← Ny160.out] at ho28))
                                have n0_ := Aside0.mk (Kd.R_lower ho28 (below_size (by repeat (first | (with_reducible first | exact HB.out | apply below_alloc | apply pw_below_drewN | apply below_drew1) | exact HB.out))))
                                have n1_ := Aside0.mk (below_step (by repeat (first | (with_reducible first | exact HB.out | apply below_alloc | apply pw_below_drewN | apply below_drew1) | exact HB.out)) hb)
                                have z_HO158 := fun (h0_ : b 0 = true) => (show Kd.R Kd.string 9 w27 w.heap.size (fun _ => True) v157 y156 from by first | exact (Kd.R_elder' (by (with_reducible repeat (first | apply Kd.R_alloc | apply Kd.R_drewN | apply Kd.R_drew)); exact (Q_HO158 h0_)) (Kd.R_base ho28) hb) | exact Kd.R_mono (Kd.R_elder' (by (with_reducible repeat (first | apply Kd.R_alloc | apply Kd.R_drewN | apply Kd.R_drew)); exact (Q_HO158 h0_)) (Kd.R_base ho28) hb) (fun _ h_ => by first | trivial | exact h_ | exact h_.1))
                                clear HB
                                have HO162 := n0_
                                have HB := n1_
                                clear n0_ n1_
                                clear hb ho28
                                obtain ⟨Ao29, co29, eo29⟩ := Kd.R_slice HO162.out
                                subst eo29
                                obtain ⟨ado29, fo29, _⟩ := Kd.at_string (Kd.R_reads' HO162.out).2.2 0 (by decide) (by rw [Ny160.out]; simp)
                                cases fo29
                                refine hK.out _ _ ⟨v157, adz_v157, .slice (some ado29) y160.length co29, ado29, m5_, m9_, (by rw [ha.out]; exact putSel_upk 5 hb_ rfl rfl rfl), (by repeat (first | (with_reducible first | exact HB.out | apply below_alloc | apply pw_below_drewN | apply below_drew1) | exact HB.out)), z_HO158, Q_HA_HO158, fun _ => (by (with_reducible repeat (first | apply Kd.R_alloc | apply Kd.R_drewN | apply Kd.R_drew)); exact HO162.out), fun _ => ⟨_, rfl⟩, Q_X5_, fun h0_ => absurd ((hoff 9 (by kernel_rfl)).symm.trans h0_) (by decide)⟩
                              refine steps_cons ?_ ?_
                              · rintro b a w' ⟨v157, adz_v157, v161, adz_v161, m5_, m9_, ha, Q_HB, Q_HO158, Q_HA_HO158, Q_HO162, Q_HA_HO162, Q_X5_, Q_X9_⟩ hb_ hon hoff
                                refine ⟨_, rfl, fun K hK => ?_⟩
                                have e21 : a.tmps[21]? = some (v161) := by rw [ha]; exact putSel_on (e := (7, 21, v161)) 5 rfl rfl (hon 7 (by kernel_rfl)) rfl
                                have e22 : a.tmps[22]? = some (.int .i64 x6_1) := by rw [ha]; exact (putSel_off rfl).trans rfl
                                replace ha := Aside0.mk ha
                                have HB := Aside0.mk Q_HB
                                have HO162 := Aside0.mk (Q_HO162 (hon 7 (by kernel_rfl)))
                                have HA_HO162 := Aside0.mk (Q_HA_HO162 (hon 7 (by kernel_rfl)))
                                obtain ⟨c_, hv_⟩ := HA_HO162.out
                                rw [hv_] at e21
                                refine value_ (w1 := w') (v := .pointer (some (adz_v161.add (x6_1).toNat))) (by rfl) rfl ?_ ?_
                                · go_simp
                                  (try simp only [i64_w])
                                  try rfl
                                refine hK.out _ _ ⟨v157, adz_v157, v161, adz_v161, m5_, (.pointer (some (adz_v161.add (x6_1).toNat))), (by rw [ha.out]; exact putSel_upk 6 hb_ rfl rfl rfl), Q_HB, Q_HO158, Q_HA_HO158, Q_HO162, Q_HA_HO162, Q_X5_, fun _ => rfl⟩
                              refine steps_cons ?_ ?_
                              · rintro b a w' ⟨v157, adz_v157, v161, adz_v161, m5_, m9_, ha, Q_HB, Q_HO158, Q_HA_HO158, Q_HO162, Q_HA_HO162, Q_X5_, Q_X9_⟩ hb_ hon hoff
                                refine ⟨_, rfl, fun K hK => ?_⟩
                                have e23 : a.tmps[23]? = some (m9_) := by rw [ha]; exact putSel_on (e := (9, 23, m9_)) 6 rfl rfl (hon 9 (by kernel_rfl)) rfl
                                rw [Q_X9_ (hon 9 (by kernel_rfl))] at e23
                                replace ha := Aside0.mk ha
                                have HB := Aside0.mk Q_HB
                                have HO162 := Aside0.mk (Q_HO162 (hon 7 (by kernel_rfl)))
                                have HA_HO162 := Aside0.mk (Q_HA_HO162 (hon 7 (by kernel_rfl)))
                                obtain ⟨c_, hv_⟩ := HA_HO162.out
                                have hF_ := HO162.out
                                rw [hv_] at hF_
                                obtain ⟨ad_, ea_, hx_⟩ := Kd.at_string (Kd.R_reads' hF_).2.2 x6_1 (of_eq_true pi163) (of_eq_true qi163)
                                cases ea_
                                refine value_ (w1 := w') (v := .string (rdOf ByteArray.empty y160 x6_1)) (by rfl) rfl ?_ ?_
                                · go_simp
                                  (try simp only [i64_w])
                                  try rfl
                                refine hK.out _ _ ⟨v157, adz_v157, v161, adz_v161, m5_, m9_, (by rw [ha.out]; exact putSel_upk 7 hb_ rfl rfl rfl), Q_HB, Q_HO158, Q_HA_HO158, Q_HO162, Q_HA_HO162, Q_X5_, Q_X9_⟩
                              refine steps_cons ?_ ?_
                              · rintro b a w' ⟨v157, adz_v157, v161, adz_v161, m5_, m9_, ha, Q_HB, Q_HO158, Q_HA_HO158, Q_HO162, Q_HA_HO162, Q_X5_, Q_X9_⟩ hb_ hon hoff
                                refine ⟨_, rfl, fun K hK => ?_⟩
                                have e20 : a.tmps[20]? = some (.string (rdOf ByteArray.empty y156 (ji6))) := by rw [ha]; exact putSel_on (e := (6, 20, .string (rdOf ByteArray.empty y156 (ji6)))) 4 rfl rfl (hon 6 (by kernel_rfl)) rfl
                                have e24 : a.tmps[24]? = some (.string (rdOf ByteArray.empty y160 x6_1)) := by rw [ha]; exact putSel_on (e := (10, 24, .string (rdOf ByteArray.empty y160 x6_1))) 7 rfl rfl (hon 10 (by kernel_rfl)) rfl
                                replace ha := Aside0.mk ha
                                have HB := Aside0.mk Q_HB
                                have HO158 := Aside0.mk (Q_HO158 (hon 0 (by kernel_rfl)))
                                have HA_HO158 := Aside0.mk (Q_HA_HO158 (hon 0 (by kernel_rfl)))
                                have HO162 := Aside0.mk (Q_HO162 (hon 7 (by kernel_rfl)))
                                have HA_HO162 := Aside0.mk (Q_HA_HO162 (hon 7 (by kernel_rfl)))
                                refine value_ (w1 := w') (v := .string ((rdOf ByteArray.empty y156 (ji6)) ++ (rdOf ByteArray.empty y160 x6_1))) (by rfl) rfl ?_ ?_
                                · go_simp
                                  (try simp only [i64_w])
                                  try rfl
                                refine hK.out _ _ ⟨v157, adz_v157, v161, adz_v161, m5_, m9_, (by rw [ha.out]; exact putSel_upk 8 hb_ rfl rfl rfl), Q_HB, Q_HO158, Q_HA_HO158, Q_HO162, Q_HA_HO162, Q_X5_, Q_X9_⟩
                              refine steps_cons ?_ ?_
                              · rintro b a w' ⟨v157, adz_v157, v161, adz_v161, m5_, m9_, ha, Q_HB, Q_HO158, Q_HA_HO158, Q_HO162, Q_HA_HO162, Q_X5_, Q_X9_⟩ hb_ hon hoff
                                refine ⟨_, rfl, fun K hK => ?_⟩
                                have e25 : a.tmps[25]? = some (.string ((rdOf ByteArray.empty y156 (ji6)) ++ (rdOf ByteArray.empty y160 x6_1))) := by rw [ha]; exact putSel_on (e := (11, 25, .string ((rdOf ByteArray.empty y156 (ji6)) ++ (rdOf ByteArray.empty y160 x6_1)))) 8 rfl rfl (hon 11 (by kernel_rfl)) rfl
                                replace ha := Aside0.mk ha
                                have HB := Aside0.mk Q_HB
                                have HO158 := Aside0.mk (Q_HO158 (hon 0 (by kernel_rfl)))
                                have HA_HO158 := Aside0.mk (Q_HA_HO158 (hon 0 (by kernel_rfl)))
                                have HO162 := Aside0.mk (Q_HO162 (hon 7 (by kernel_rfl)))
                                have HA_HO162 := Aside0.mk (Q_HA_HO162 (hon 7 (by kernel_rfl)))
                                refine value_ (w1 := w') (v := .string ((rdOf ByteArray.empty y156 (ji6)) ++ (rdOf ByteArray.empty y160 x6_1))) (by rfl) rfl ?_ ?_
                                · go_simp
                                  (try simp only [i64_w])
                                  try rfl
                                refine hK.out _ _ ⟨v157, adz_v157, v161, adz_v161, m5_, m9_, (by rw [ha.out]; exact putSel_upk 9 hb_ rfl rfl rfl), Q_HB, Q_HO158, Q_HA_HO158, Q_HO162, Q_HA_HO162, Q_X5_, Q_X9_⟩
                              exact steps_nil
                            rintro b a w33 hall ⟨v157, adz_v157, v161, adz_v161, m5_, m9_, ha, Q_HB, Q_HO158, Q_HA_HO158, Q_HO162, Q_HA_HO162, Q_X5_, Q_X9_⟩
                            clear HB
                            have hb0_ := hall 0 (by kernel_rfl)
                            have hb3_ := hall 3 (by kernel_rfl)
                            have hb4_ := hall 4 (by kernel_rfl)
                            have hb5_ := hall 5 (by kernel_rfl)
                            have hb6_ := hall 6 (by kernel_rfl)
                            have hb7_ := hall 7 (by kernel_rfl)
                            have hb9_ := hall 9 (by kernel_rfl)
                            have hb10_ := hall 10 (by kernel_rfl)
                            have hb11_ := hall 11 (by kernel_rfl)
                            have hb12_ := hall 12 (by kernel_rfl)
                            subst ha
                            obtain rfl := Q_X5_ hb5_
                            obtain rfl := Q_X9_ hb9_
                            simp only [putSel, hb0_, hb3_, hb4_, hb5_, hb6_, hb7_, hb9_, hb10_, hb11_, hb12_, if_true, Act.put, List.setIfInBounds_toArray, List.set_cons_zero, List.set_cons_succ]
                            have HB := Aside0.mk Q_HB
                            clear Q_HB
                            have HO158 := Aside0.mk (Q_HO158 hb0_)
                            clear Q_HO158
                            have HA_HO158 := Aside0.mk (Q_HA_HO158 hb0_)
                            clear Q_HA_HO158
                            have HO162 := Aside0.mk (Q_HO162 hb7_)
                            clear Q_HO162
                            have HA_HO162 := Aside0.mk (Q_HA_HO162 hb7_)
                            clear Q_HA_HO162
                            clear hall hb0_ hb3_ hb4_ hb5_ hb6_ hb7_ hb9_ hb10_ hb11_ hb12_
                            obtain ⟨co34, eo34⟩ := HA_HO158.out
                            clear HA_HO158
                            subst eo34
                            obtain ⟨co35, eo35⟩ := HA_HO162.out
                            clear HA_HO162
                            subst eo35
                            try go_wp2
                            go_roundg k1
                            case measure => have := HK1.out; omega
                            case rel => exact ⟨(((((⟨#[40]⟩ : ByteArray) ++ ((rdOf ByteArray.empty y156 (ji6)) ++ (rdOf ByteArray.empty y160 x6_1))) ++ (⟨#[38]⟩ : ByteArray)) ++ x5_1) ++ (⟨#[41]⟩ : ByteArray)), (wrap64 (x6_1 - 1)), (by first | rfl | (simp; done) | (simp only [← hji6] <;> (first | rfl | simp)) | (simp [*]; done)), (by first | rfl | (simp; done) | (simp [*]; done)), H', ⟨by have := HK1.out; omega⟩, ⟨by repeat (first | (with_reducible first | exact HB.out | apply below_alloc | apply pw_below_drewN | apply below_drew1) | exact HB.out)⟩⟩
                          · rw [if_neg c25] at H
                            exact absurd H (by simp)
                        · rw [if_neg c24] at H
                          exact absurd H (by simp)
                      · rw [if_neg c23] at H
                        exact absurd H (by simp)
                    · rw [if_neg c22] at H
                      exact absurd H (by simp)
                · rw [if_neg c10] at H
                  exact absurd H (by simp)
              · rw [if_neg c9] at H
                exact absurd H (by simp)
            · rw [if_neg c8] at H
              exact absurd H (by simp)
          · rw [if_neg c7] at H
            exact absurd H (by simp)
        · rw [if_neg c4] at H
          exact absurd H (by simp)
      · rw [if_neg c3] at H
        have c3b0 : decide (0 ≤ x6_1) = false := decide_eq_false c3
        clear c3
        obtain rfl := Option.some.inj H
        go_wp2
        go_ret
        exact ⟨by first | rfl | (simp [errW_none, errW_some] <;> rfl) | (simp [*, errW_none, errW_some] <;> rfl), by repeat (first | (with_reducible first | exact HB.out | apply below_alloc | apply pw_below_drewN | apply below_drew1) | exact HB.out)⟩

/-! ### spec_SentenceOf: function 17 -/
def spec_SentenceOf.l0 : Nat → Int → Int → ByteArray → Int → Option (ByteArray)
  | 0, _, _, _, _ => none
  | k + 1, x0, x1, x5, x6 => if x6 ≥ 0 then ((spec_l1Bit.f x1 x6).bind fun t166 => (if t166 = 0 then (spec_SentenceOf.l0 k x0 x1 x5 (wrap64 (x6 - 1))) else (if x5.toList = ([] : List UInt8) then ((spec_l1World.f k x0 x6).bind fun t167 => (spec_SentenceOf.l0 k x0 x1 t167 (wrap64 (x6 - 1)))) else ((spec_l1World.f k x0 x6).bind fun t168 => (if 1 + t168.size ≤ 9223372036854775807 then (if ((⟨#[40]⟩ : ByteArray) ++ t168).size + 1 ≤ 9223372036854775807 then (if (((⟨#[40]⟩ : ByteArray) ++ t168) ++ (⟨#[124]⟩ : ByteArray)).size + x5.size ≤ 9223372036854775807 then (if ((((⟨#[40]⟩ : ByteArray) ++ t168) ++ (⟨#[124]⟩ : ByteArray)) ++ x5).size + 1 ≤ 9223372036854775807 then (spec_SentenceOf.l0 k x0 x1 (((((⟨#[40]⟩ : ByteArray) ++ t168) ++ (⟨#[124]⟩ : ByteArray)) ++ x5) ++ (⟨#[41]⟩ : ByteArray)) (wrap64 (x6 - 1))) else (none)) else (none)) else (none)) else (none)))))) else (some x5)
def spec_SentenceOf.f (k : Nat) (a0 : Int) (a1 : Int) : Option (ByteArray) := (spec_SetOk.f a0 a1).bind fun t164 => (if t164 = true then (if a1 = 0 then (some (⟨#[48]⟩ : ByteArray)) else ((spec_l1All.f a0).bind fun t165 => (if a1 = t165 then (some (⟨#[49]⟩ : ByteArray)) else (if 0 ≤ a0 then (spec_SentenceOf.l0 k a0 a1 (⟨#[]⟩ : ByteArray) (wrap64 ((shl .i64 1 a0) - 1))) else (none))))) else (some (⟨#[]⟩ : ByteArray)))
theorem spec_SentenceOf.mono_l : ∀ k, (∀ y0 y1 y2 y3, LeO (spec_SentenceOf.l0 k y0 y1 y2 y3) (spec_SentenceOf.l0 (k + 1) y0 y1 y2 y3))
  | 0 => fun _ _ _ _ r h => by simp [spec_SentenceOf.l0] at h
  | k + 1 => by
    have ih0 := spec_SentenceOf.mono_l k
    · intro y0 y1 y2 y3
      unfold spec_SentenceOf.l0
      repeat' first
      | (with_reducible exact ih0 _ _ _ _)
      | (with_reducible exact spec_l1World.mono _ _ _)
      | (with_reducible exact LeO.refl _)
      | (with_reducible exact LeO.none _)
      | (with_reducible refine LeO.ite ?_ ?_)
      | (with_reducible refine LeO.bind ?_ (fun _ => ?_))
      | exact ih0 _ _ _ _
      | exact spec_l1World.mono _ _ _
      | exact LeO.none _
      | refine LeO.ite ?_ ?_
      | refine LeO.bind ?_ (fun _ => ?_)
theorem spec_SentenceOf.mono : ∀ a0 a1 k, LeO (spec_SentenceOf.f k a0 a1) (spec_SentenceOf.f (k + 1) a0 a1) := by
  intro a0 a1 k
  have ih0 := spec_SentenceOf.mono_l k
  unfold spec_SentenceOf.f
  repeat' first
      | (with_reducible exact ih0 _ _ _ _)
      | (with_reducible exact spec_l1World.mono _ _ _)
      | (with_reducible exact LeO.refl _)
      | (with_reducible exact LeO.none _)
      | (with_reducible refine LeO.ite ?_ ?_)
      | (with_reducible refine LeO.bind ?_ (fun _ => ?_))
      | exact ih0 _ _ _ _
      | exact spec_l1World.mono _ _ _
      | exact LeO.none _
      | refine LeO.ite ?_ ?_
      | refine LeO.bind ?_ (fun _ => ?_)
set_option maxHeartbeats 8000000 in
set_option maxRecDepth 100000 in
theorem spec_SentenceOf.calls (k : Nat) (a0 : Int) (a1 : Int) (r : ByteArray) (w : World) (h : spec_SentenceOf.f k a0 a1 = some r) :
    Calls Try.prog 17 #[.int .i64 a0, .int .i64 a1] w fun e w' => e = .returned (.string r) ∧ Below w.heap.size w w' := by
  have HB := Aside0.mk (Below.refl w.heap.size w)
  have H : ((spec_SetOk.f a0 a1).bind fun t164 => (if t164 = true then (if a1 = 0 then (some (⟨#[48]⟩ : ByteArray)) else ((spec_l1All.f a0).bind fun t165 => (if a1 = t165 then (some (⟨#[49]⟩ : ByteArray)) else (if 0 ≤ a0 then (spec_SentenceOf.l0 k a0 a1 (⟨#[]⟩ : ByteArray) (wrap64 ((shl .i64 1 a0) - 1))) else (none))))) else (some (⟨#[]⟩ : ByteArray)))) = some r := h
  clear h
  replace H := Option.bind_eq_some_iff.mp H
  obtain ⟨t164, A30, H⟩ := H
  replace H : (if t164 = true then (if a1 = 0 then (some (⟨#[48]⟩ : ByteArray)) else ((spec_l1All.f a0).bind fun t165 => (if a1 = t165 then (some (⟨#[49]⟩ : ByteArray)) else (if 0 ≤ a0 then (spec_SentenceOf.l0 k a0 a1 (⟨#[]⟩ : ByteArray) (wrap64 ((shl .i64 1 a0) - 1))) else (none))))) else (some (⟨#[]⟩ : ByteArray))) = some r := H
  have A3 := Aside0.mk A30
  clear A30
  by_cases c4 : t164 = true
  · subst c4
    have H1 : (if a1 = 0 then (some (⟨#[48]⟩ : ByteArray)) else ((spec_l1All.f a0).bind fun t165 => (if a1 = t165 then (some (⟨#[49]⟩ : ByteArray)) else (if 0 ≤ a0 then (spec_SentenceOf.l0 k a0 a1 (⟨#[]⟩ : ByteArray) (wrap64 ((shl .i64 1 a0) - 1))) else (none))))) = some r := by rw [if_pos rfl] at H; exact H
    clear H
    have H := H1
    clear H1
    by_cases c5 : a1 = 0
    · rw [if_pos c5] at H
      have c5b0 : (a1 == 0) = true := beq_iff_eq.mpr c5
      have c5b1 : (a1 != 0) = false := bne_eq_false_iff_eq.mpr c5
      clear c5
      obtain rfl := Option.some.inj H
      go_enter Try.func17, Try.ntmps17
      go_wp2_with (first | ((with_reducible refine gate_callee (f := 44) rfl ?_); refine goesL_ (some 9) rfl rfl Try.func44 (by kernel_rfl) rfl #[.int .i64 a0, .int .i64 a1] rfl (by (try simp only [List.map_toArray, List.map_cons, List.map_nil]); first | done | rfl | (simp only [List.length_drop, List.length_take]; rfl)) ?_; (with_reducible refine (spec_SetOk.calls a0 a1 true _ A3.out).mono ?_); rintro e w' ⟨rfl, ⟨nd, rfl⟩⟩; refine ⟨_, rfl, ?_⟩))
      go_ret
      exact ⟨by first | rfl | (simp [errW_none, errW_some] <;> rfl) | (simp [*, errW_none, errW_some] <;> rfl), by repeat (first | (with_reducible first | exact HB.out | apply below_alloc | apply pw_below_drewN | apply below_drew1) | exact HB.out)⟩
    · rw [if_neg c5] at H
      have c5b0 : (a1 == 0) = false := beq_eq_false_iff_ne.mpr c5
      have c5b1 : (a1 != 0) = true := bne_iff_ne.mpr c5
      replace H := Option.bind_eq_some_iff.mp H
      obtain ⟨t165, A60, H⟩ := H
      replace H : (if a1 = t165 then (some (⟨#[49]⟩ : ByteArray)) else (if 0 ≤ a0 then (spec_SentenceOf.l0 k a0 a1 (⟨#[]⟩ : ByteArray) (wrap64 ((shl .i64 1 a0) - 1))) else (none))) = some r := H
      have A6 := Aside0.mk A60
      clear A60
      by_cases c7 : a1 = t165
      · rw [if_pos c7] at H
        have c7b0 : (a1 == t165) = true := beq_iff_eq.mpr c7
        have c7b1 : (a1 != t165) = false := bne_eq_false_iff_eq.mpr c7
        clear c7
        obtain rfl := Option.some.inj H
        go_enter Try.func17, Try.ntmps17
        go_wp2_with (first | ((with_reducible refine gate_callee (f := 44) rfl ?_); refine goesL_ (some 9) rfl rfl Try.func44 (by kernel_rfl) rfl #[.int .i64 a0, .int .i64 a1] rfl (by (try simp only [List.map_toArray, List.map_cons, List.map_nil]); first | done | rfl | (simp only [List.length_drop, List.length_take]; rfl)) ?_; (with_reducible refine (spec_SetOk.calls a0 a1 true _ A3.out).mono ?_); rintro e w' ⟨rfl, ⟨nd, rfl⟩⟩; refine ⟨_, rfl, ?_⟩) | ((with_reducible refine gate_callee (f := 45) rfl ?_); refine goesL_ (some 15) rfl rfl Try.func45 (by kernel_rfl) rfl #[.int .i64 a0] rfl (by (try simp only [List.map_toArray, List.map_cons, List.map_nil]); first | done | rfl | (simp only [List.length_drop, List.length_take]; rfl)) ?_; (with_reducible refine (spec_l1All.calls a0 t165 _ A6.out).mono ?_); rintro e w' ⟨rfl, ⟨nd, rfl⟩⟩; refine ⟨_, rfl, ?_⟩))
        go_ret
        exact ⟨by first | rfl | (simp [errW_none, errW_some] <;> rfl) | (simp [*, errW_none, errW_some] <;> rfl), by repeat (first | (with_reducible first | exact HB.out | apply below_alloc | apply pw_below_drewN | apply below_drew1) | exact HB.out)⟩
      · rw [if_neg c7] at H
        have c7b0 : (a1 == t165) = false := beq_eq_false_iff_ne.mpr c7
        have c7b1 : (a1 != t165) = true := bne_iff_ne.mpr c7
        by_cases c8 : 0 ≤ a0
        · rw [if_pos c8] at H
          have c8b0 := eq_true c8
          have c8b1 : decide (0 ≤ a0) = true := decide_eq_true c8
          clear c8
          obtain ⟨ji9, hji9⟩ : ∃ j_ : Int, (shl .i64 1 a0) = j_ := ⟨_, rfl⟩
          replace H : (spec_SentenceOf.l0 k a0 a1 (⟨#[]⟩ : ByteArray) (wrap64 ((ji9) - 1))) = some r := by first | (rw [hji9] at H; exact H) | (simp only [hji9] at H ⊢; exact H)
          (try rw [hji9] at A3)
          (try rw [hji9] at A6)
          have hji9_ : (IntKind.i64.wrap (1 * 2 ^ min a0.toNat 64)) = ji9 := hji9
          have hji9z : a0 ≤ 64 → (IntKind.i64.wrap (1 * 2 ^ a0.toNat)) = ji9 := shl_small hji9
          have hji9u : (IntKind.i64.wrap (2 ^ min a0.toNat 64)) = ji9 := by have h_ := hji9_; rw [Int.one_mul] at h_; exact h_
          have hji9v : a0 ≤ 64 → (IntKind.i64.wrap (2 ^ a0.toNat)) = ji9 := fun hle_ => by have h_ := hji9z hle_; rw [Int.one_mul] at h_; exact h_
          have hji9y : (wrap64 (1 * 2 ^ min a0.toNat 64)) = ji9 := (i64_w _).symm.trans hji9_
          have hji9x : a0 ≤ 64 → (wrap64 (1 * 2 ^ a0.toNat)) = ji9 := fun h_ => (i64_w _).symm.trans (hji9z h_)
          have H' := Aside0.mk H
          clear H
          go_enter Try.func17, Try.ntmps17
          go_wp2_with (first | ((with_reducible refine gate_callee (f := 44) rfl ?_); refine goesL_ (some 9) rfl rfl Try.func44 (by kernel_rfl) rfl #[.int .i64 a0, .int .i64 a1] rfl (by (try simp only [List.map_toArray, List.map_cons, List.map_nil]); first | done | rfl | (simp only [List.length_drop, List.length_take]; rfl)) ?_; (with_reducible refine (spec_SetOk.calls a0 a1 true _ A3.out).mono ?_); rintro e w' ⟨rfl, ⟨nd, rfl⟩⟩; refine ⟨_, rfl, ?_⟩) | ((with_reducible refine gate_callee (f := 45) rfl ?_); refine goesL_ (some 15) rfl rfl Try.func45 (by kernel_rfl) rfl #[.int .i64 a0] rfl (by (try simp only [List.map_toArray, List.map_cons, List.map_nil]); first | done | rfl | (simp only [List.length_drop, List.length_take]; rfl)) ?_; (with_reducible refine (spec_l1All.calls a0 t165 _ A6.out).mono ?_); rintro e w' ⟨rfl, ⟨nd, rfl⟩⟩; refine ⟨_, rfl, ?_⟩))
          go_loopg [5, 6] k (fun kq v5 v6 w' => ∃ (x5_1 : ByteArray) (x6_1 : Int), v5 = .string x5_1 ∧ v6 = .int .i64 x6_1 ∧ Aside0 (spec_SentenceOf.l0 kq a0 a1 x5_1 x6_1 = some r) ∧ Aside0 (kq ≤ k) ∧ Aside0 (Below w.heap.size w w'))
          case atStart => exact ⟨((⟨#[]⟩ : ByteArray)), (wrap64 ((ji9) - 1)), (by first | rfl | (simp; done) | (simp [*]; done)), (by first | rfl | (simp; done) | (simp only [← hji9] <;> (first | rfl | simp)) | (simp [*]; done)), H', ⟨Nat.le_refl _⟩, ⟨by repeat (first | (with_reducible first | exact HB.out | apply below_alloc | apply pw_below_drewN | apply below_drew1) | exact HB.out)⟩⟩
          case round =>
            clear H'
            try clear c1
            try clear p2
            try clear c4
            try clear c5
            try clear c5b0
            try clear c5b1
            try clear p6
            try clear c7
            try clear c7b0
            try clear c7b1
            try clear c8
            try clear c8b0
            try clear c8b1
            obtain ⟨x5_1, x6_1, rfl, rfl, HA, HK1, HB⟩ := hrel
            cases gk with
            | zero => exact absurd HA.out (by simp [spec_SentenceOf.l0])
            | succ k1 =>
              have H := HA.out
              clear HA
              simp only [spec_SentenceOf.l0] at H
              by_cases c10 : x6_1 ≥ 0
              · rw [if_pos c10] at H
                have c10b0 : decide (0 ≤ x6_1) = true := decide_eq_true c10
                clear c10
                replace H := Option.bind_eq_some_iff.mp H
                obtain ⟨t166, A110, H⟩ := H
                replace H : (if t166 = 0 then (spec_SentenceOf.l0 k1 a0 a1 x5_1 (wrap64 (x6_1 - 1))) else (if x5_1.toList = ([] : List UInt8) then ((spec_l1World.f k1 a0 x6_1).bind fun t167 => (spec_SentenceOf.l0 k1 a0 a1 t167 (wrap64 (x6_1 - 1)))) else ((spec_l1World.f k1 a0 x6_1).bind fun t168 => (if 1 + t168.size ≤ 9223372036854775807 then (if ((⟨#[40]⟩ : ByteArray) ++ t168).size + 1 ≤ 9223372036854775807 then (if (((⟨#[40]⟩ : ByteArray) ++ t168) ++ (⟨#[124]⟩ : ByteArray)).size + x5_1.size ≤ 9223372036854775807 then (if ((((⟨#[40]⟩ : ByteArray) ++ t168) ++ (⟨#[124]⟩ : ByteArray)) ++ x5_1).size + 1 ≤ 9223372036854775807 then (spec_SentenceOf.l0 k1 a0 a1 (((((⟨#[40]⟩ : ByteArray) ++ t168) ++ (⟨#[124]⟩ : ByteArray)) ++ x5_1) ++ (⟨#[41]⟩ : ByteArray)) (wrap64 (x6_1 - 1))) else (none)) else (none)) else (none)) else (none))))) = some r := H
                have A11 := Aside0.mk A110
                clear A110
                by_cases c12 : t166 = 0
                · rw [if_pos c12] at H
                  have c12b0 : (t166 == 0) = true := beq_iff_eq.mpr c12
                  have c12b1 : (t166 != 0) = false := bne_eq_false_iff_eq.mpr c12
                  clear c12
                  have H' := Aside0.mk H
                  clear H
                  go_wp2_with (first | ((with_reducible refine gate_callee (f := 35) rfl ?_); refine goesL_ (some 26) rfl rfl Try.func35 (by kernel_rfl) rfl #[.int .i64 a1, .int .i64 x6_1] rfl (by (try simp only [List.map_toArray, List.map_cons, List.map_nil]); first | done | rfl | (simp only [List.length_drop, List.length_take]; rfl)) ?_; (with_reducible refine (spec_l1Bit.calls a1 x6_1 t166 _ A11.out).mono ?_); rintro e w' ⟨rfl, ⟨nd, rfl⟩⟩; refine ⟨_, rfl, ?_⟩))
                  go_roundg k1
                  case measure => have := HK1.out; omega
                  case rel => exact ⟨(x5_1), (wrap64 (x6_1 - 1)), (by first | rfl | (simp; done) | (simp [*]; done)), (by first | rfl | (simp; done) | (simp [*]; done)), H', ⟨by have := HK1.out; omega⟩, ⟨by repeat (first | (with_reducible first | exact HB.out | apply below_alloc | apply pw_below_drewN | apply below_drew1) | exact HB.out)⟩⟩
                · rw [if_neg c12] at H
                  have c12b0 : (t166 == 0) = false := beq_eq_false_iff_ne.mpr c12
                  have c12b1 : (t166 != 0) = true := bne_iff_ne.mpr c12
                  by_cases c13 : x5_1.toList = ([] : List UInt8)
                  · rw [if_pos c13] at H
                    have c13b0 : (x5_1.toList == ([] : List UInt8)) = true := beq_iff_eq.mpr c13
                    have c13b1 : (x5_1.toList != ([] : List UInt8)) = false := bne_eq_false_iff_eq.mpr c13
                    clear c13
                    replace H := Option.bind_eq_some_iff.mp H
                    obtain ⟨t167, A140, H⟩ := H
                    replace H : (spec_SentenceOf.l0 k1 a0 a1 t167 (wrap64 (x6_1 - 1))) = some r := H
                    have A14 := Aside0.mk A140
                    clear A140
                    have H' := Aside0.mk H
                    clear H
                    go_wp2_with (first | ((with_reducible refine gate_callee (f := 35) rfl ?_); refine goesL_ (some 26) rfl rfl Try.func35 (by kernel_rfl) rfl #[.int .i64 a1, .int .i64 x6_1] rfl (by (try simp only [List.map_toArray, List.map_cons, List.map_nil]); first | done | rfl | (simp only [List.length_drop, List.length_take]; rfl)) ?_; (with_reducible refine (spec_l1Bit.calls a1 x6_1 t166 _ A11.out).mono ?_); rintro e w' ⟨rfl, ⟨nd, rfl⟩⟩; refine ⟨_, rfl, ?_⟩) | ((with_reducible refine gate_callee (f := 46) rfl ?_); refine goesL_ (some 32) rfl rfl Try.func46 (by kernel_rfl) rfl #[.int .i64 a0, .int .i64 x6_1] rfl (by (try simp only [List.map_toArray, List.map_cons, List.map_nil]); first | done | rfl | (simp only [List.length_drop, List.length_take]; rfl)) ?_; (with_reducible refine (spec_l1World.calls k1 a0 x6_1 t167 _ A14.out).mono ?_); rintro e w15 ⟨rfl, hb⟩; refine ⟨_, rfl, ?_⟩; have n0_ := Aside0.mk (below_step (by repeat (first | (with_reducible first | exact HB.out | apply below_alloc | apply pw_below_drewN | apply below_drew1) | exact HB.out)) hb); clear HB; have HB := n0_; clear n0_; (try clear hb); (try clear hb2); (try clear hk); (try clear hi)))
                    go_roundg k1
                    case measure => have := HK1.out; omega
                    case rel => exact ⟨(t167), (wrap64 (x6_1 - 1)), (by first | rfl | (simp; done) | (simp [*]; done)), (by first | rfl | (simp; done) | (simp [*]; done)), H', ⟨by have := HK1.out; omega⟩, ⟨by repeat (first | (with_reducible first | exact HB.out | apply below_alloc | apply pw_below_drewN | apply below_drew1) | exact HB.out)⟩⟩
                  · rw [if_neg c13] at H
                    have c13b0 : (x5_1.toList == ([] : List UInt8)) = false := beq_eq_false_iff_ne.mpr c13
                    have c13b1 : (x5_1.toList != ([] : List UInt8)) = true := bne_iff_ne.mpr c13
                    replace H := Option.bind_eq_some_iff.mp H
                    obtain ⟨t168, A160, H⟩ := H
                    replace H : (if 1 + t168.size ≤ 9223372036854775807 then (if ((⟨#[40]⟩ : ByteArray) ++ t168).size + 1 ≤ 9223372036854775807 then (if (((⟨#[40]⟩ : ByteArray) ++ t168) ++ (⟨#[124]⟩ : ByteArray)).size + x5_1.size ≤ 9223372036854775807 then (if ((((⟨#[40]⟩ : ByteArray) ++ t168) ++ (⟨#[124]⟩ : ByteArray)) ++ x5_1).size + 1 ≤ 9223372036854775807 then (spec_SentenceOf.l0 k1 a0 a1 (((((⟨#[40]⟩ : ByteArray) ++ t168) ++ (⟨#[124]⟩ : ByteArray)) ++ x5_1) ++ (⟨#[41]⟩ : ByteArray)) (wrap64 (x6_1 - 1))) else (none)) else (none)) else (none)) else (none)) = some r := H
                    have A16 := Aside0.mk A160
                    clear A160
                    by_cases c17 : 1 + t168.size ≤ 9223372036854775807
                    · rw [if_pos c17] at H
                      have c17b0 := eq_true c17
                      have c17b1 : decide (1 + t168.size ≤ 9223372036854775807) = true := decide_eq_true c17
                      try have c17b2 : (9223372036854775807 < 1 + t168.size) = False := eq_false (Nat.not_lt.2 c17)
                      by_cases c18 : ((⟨#[40]⟩ : ByteArray) ++ t168).size + 1 ≤ 9223372036854775807
                      · rw [if_pos c18] at H
                        have c18b0 := eq_true c18
                        have c18b1 : decide (((⟨#[40]⟩ : ByteArray) ++ t168).size + 1 ≤ 9223372036854775807) = true := decide_eq_true c18
                        try have c18b2 : (9223372036854775807 < ((⟨#[40]⟩ : ByteArray) ++ t168).size + 1) = False := eq_false (Nat.not_lt.2 c18)
                        try (have c18b3 := c18b2; simp only [ByteArray.size_append, bsz1, bsz0] at c18b3)
                        by_cases c19 : (((⟨#[40]⟩ : ByteArray) ++ t168) ++ (⟨#[124]⟩ : ByteArray)).size + x5_1.size ≤ 9223372036854775807
                        · rw [if_pos c19] at H
                          have c19b0 := eq_true c19
                          have c19b1 : decide ((((⟨#[40]⟩ : ByteArray) ++ t168) ++ (⟨#[124]⟩ : ByteArray)).size + x5_1.size ≤ 9223372036854775807) = true := decide_eq_true c19
                          try have c19b2 : (9223372036854775807 < (((⟨#[40]⟩ : ByteArray) ++ t168) ++ (⟨#[124]⟩ : ByteArray)).size + x5_1.size) = False := eq_false (Nat.not_lt.2 c19)
                          try (have c19b3 := c19b2; simp only [ByteArray.size_append, bsz1, bsz0] at c19b3)
                          by_cases c20 : ((((⟨#[40]⟩ : ByteArray) ++ t168) ++ (⟨#[124]⟩ : ByteArray)) ++ x5_1).size + 1 ≤ 9223372036854775807
                          · rw [if_pos c20] at H
                            have c20b0 := eq_true c20
                            have c20b1 : decide (((((⟨#[40]⟩ : ByteArray) ++ t168) ++ (⟨#[124]⟩ : ByteArray)) ++ x5_1).size + 1 ≤ 9223372036854775807) = true := decide_eq_true c20
                            try have c20b2 : (9223372036854775807 < ((((⟨#[40]⟩ : ByteArray) ++ t168) ++ (⟨#[124]⟩ : ByteArray)) ++ x5_1).size + 1) = False := eq_false (Nat.not_lt.2 c20)
                            try (have c20b3 := c20b2; simp only [ByteArray.size_append, bsz1, bsz0] at c20b3)
                            have H' := Aside0.mk H
                            clear H
                            go_wp2_with (first | ((with_reducible refine gate_callee (f := 35) rfl ?_); refine goesL_ (some 26) rfl rfl Try.func35 (by kernel_rfl) rfl #[.int .i64 a1, .int .i64 x6_1] rfl (by (try simp only [List.map_toArray, List.map_cons, List.map_nil]); first | done | rfl | (simp only [List.length_drop, List.length_take]; rfl)) ?_; (with_reducible refine (spec_l1Bit.calls a1 x6_1 t166 _ A11.out).mono ?_); rintro e w' ⟨rfl, ⟨nd, rfl⟩⟩; refine ⟨_, rfl, ?_⟩) | ((with_reducible refine gate_callee (f := 46) rfl ?_); refine goesL_ (some 35) rfl rfl Try.func46 (by kernel_rfl) rfl #[.int .i64 a0, .int .i64 x6_1] rfl (by (try simp only [List.map_toArray, List.map_cons, List.map_nil]); first | done | rfl | (simp only [List.length_drop, List.length_take]; rfl)) ?_; (with_reducible refine (spec_l1World.calls k1 a0 x6_1 t168 _ A16.out).mono ?_); rintro e w21 ⟨rfl, hb⟩; refine ⟨_, rfl, ?_⟩; have n0_ := Aside0.mk (below_step (by repeat (first | (with_reducible first | exact HB.out | apply below_alloc | apply pw_below_drewN | apply below_drew1) | exact HB.out)) hb); clear HB; have HB := n0_; clear n0_; (try clear hb); (try clear hb2); (try clear hk); (try clear hi)))
                            go_roundg k1
                            case measure => have := HK1.out; omega
                            case rel => exact ⟨(((((⟨#[40]⟩ : ByteArray) ++ t168) ++ (⟨#[124]⟩ : ByteArray)) ++ x5_1) ++ (⟨#[41]⟩ : ByteArray)), (wrap64 (x6_1 - 1)), (by first | rfl | (simp; done) | (simp [*]; done)), (by first | rfl | (simp; done) | (simp [*]; done)), H', ⟨by have := HK1.out; omega⟩, ⟨by repeat (first | (with_reducible first | exact HB.out | apply below_alloc | apply pw_below_drewN | apply below_drew1) | exact HB.out)⟩⟩
                          · rw [if_neg c20] at H
                            exact absurd H (by simp)
                        · rw [if_neg c19] at H
                          exact absurd H (by simp)
                      · rw [if_neg c18] at H
                        exact absurd H (by simp)
                    · rw [if_neg c17] at H
                      exact absurd H (by simp)
              · rw [if_neg c10] at H
                have c10b0 : decide (0 ≤ x6_1) = false := decide_eq_false c10
                clear c10
                obtain rfl := Option.some.inj H
                go_wp2
                go_ret
                exact ⟨by first | rfl | (simp [errW_none, errW_some] <;> rfl) | (simp only [← hji9]; first | rfl | (simp [errW_none, errW_some] <;> rfl)) | (simp [*, errW_none, errW_some] <;> rfl), by repeat (first | (with_reducible first | exact HB.out | apply below_alloc | apply pw_below_drewN | apply below_drew1) | exact HB.out)⟩
        · rw [if_neg c8] at H
          exact absurd H (by simp)
  · replace c4 := Bool.eq_false_iff.mpr c4
    subst c4
    have H1 : (some (⟨#[]⟩ : ByteArray)) = some r := by rw [if_neg (show ¬ (false = true) by decide)] at H; exact H
    clear H
    have H := H1
    clear H1
    obtain rfl := Option.some.inj H
    go_enter Try.func17, Try.ntmps17
    go_wp2_with (first | ((with_reducible refine gate_callee (f := 44) rfl ?_); refine goesL_ (some 9) rfl rfl Try.func44 (by kernel_rfl) rfl #[.int .i64 a0, .int .i64 a1] rfl (by (try simp only [List.map_toArray, List.map_cons, List.map_nil]); first | done | rfl | (simp only [List.length_drop, List.length_take]; rfl)) ?_; (with_reducible refine (spec_SetOk.calls a0 a1 false _ A3.out).mono ?_); rintro e w' ⟨rfl, ⟨nd, rfl⟩⟩; refine ⟨_, rfl, ?_⟩))
    go_ret
    exact ⟨by first | rfl | (simp [errW_none, errW_some] <;> rfl) | (simp [*, errW_none, errW_some] <;> rfl), by repeat (first | (with_reducible first | exact HB.out | apply below_alloc | apply pw_below_drewN | apply below_drew1) | exact HB.out)⟩

end Go.Proofs.Ytcmhilebiojfaaa.R
