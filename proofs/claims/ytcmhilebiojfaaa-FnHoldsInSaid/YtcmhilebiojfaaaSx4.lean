/- Each Go function named below returns what the Lean function of its name says, for all arguments at which that is some value; these lines were written by a program of this session, out of the translation. -/
import Derived.Test.YtcmhilebiojfaaaSx0
import Derived.Test.YtcmhilebiojfaaaSx3
namespace Go.Proofs.Ytcmhilebiojfaaa.S
open Go.RowKit Go.Proofs.Ytcmhilebiojfaaa.B Go.Proofs.Ytcmhilebiojfaaa.Hand Go.Proofs.YtcmhilebiojfaaaW.PrintWords Go.Proofs.YtcmhilebiojfaaaW.PrintLast Go.Proofs.YtcmhilebiojfaaaW.PrintMore
attribute [local go_sem] max2_int min2_int max_two min_two max_three min_three max_four min_four   -- for this text's walks alone
set_option linter.unusedVariables false
set_option linter.unusedSimpArgs false

/-! ### spec_l20Sentence: function 50 -/
mutual
def spec_l20Sentence.j0 : Nat → Int → Int → Bool → List Int → Int → Option (ByteArray × Int)
  | 0, _, _, _, _, _ => none
  | k + 1, x1, x2, x13, x1000, x1001 => if x13 = true then ((some (([(⟨#[97]⟩ : ByteArray), (⟨#[98]⟩ : ByteArray), (⟨#[99]⟩ : ByteArray), (⟨#[97]⟩ : ByteArray), (⟨#[48]⟩ : ByteArray), (⟨#[49]⟩ : ByteArray)] : List ByteArray) : List ByteArray)).bind fun y152 => ((spec_l20Rd_pick.f k x1000 x1001 8).bind fun bt155 => ((spec_l20Rd_pick.f k x1000 bt155.2 (wrap64 ((mx (mn x1 3) 1) + (wrap64 ((wrap64 (Int.tdiv bt155.1 7)) * 3))))).bind fun bt157 => (if 0 ≤ bt157.1 then (if bt157.1 < (y152.length : Int) then (some (rdOf ByteArray.empty y152 bt157.1, bt157.2)) else (none)) else (none))))) else ((spec_l20Rd_pick.f k x1000 x1001 4).bind fun bt160 => (if bt160.1 = 0 then ((spec_l20Sentence.f k x1000 bt160.2 x1 (wrap64 (x2 - 1))).bind fun bt162 => (if 1 + bt162.1.size ≤ 9223372036854775807 then (some ((⟨#[33]⟩ : ByteArray) ++ bt162.1, bt162.2)) else (none))) else (if bt160.1 = 1 then ((spec_l20Sentence.f k x1000 bt160.2 x1 (wrap64 (x2 - 1))).bind fun bt164 => (if 1 + bt164.1.size ≤ 9223372036854775807 then (if ((⟨#[40]⟩ : ByteArray) ++ bt164.1).size + 1 ≤ 9223372036854775807 then ((spec_l20Sentence.f k x1000 bt164.2 x1 (wrap64 (x2 - 1))).bind fun bt166 => (if (((⟨#[40]⟩ : ByteArray) ++ bt164.1) ++ (⟨#[38]⟩ : ByteArray)).size + bt166.1.size ≤ 9223372036854775807 then (if ((((⟨#[40]⟩ : ByteArray) ++ bt164.1) ++ (⟨#[38]⟩ : ByteArray)) ++ bt166.1).size + 1 ≤ 9223372036854775807 then (some (((((⟨#[40]⟩ : ByteArray) ++ bt164.1) ++ (⟨#[38]⟩ : ByteArray)) ++ bt166.1) ++ (⟨#[41]⟩ : ByteArray), bt166.2)) else (none)) else (none))) else (none)) else (none))) else (if bt160.1 = 2 then ((spec_l20Sentence.f k x1000 bt160.2 x1 (wrap64 (x2 - 1))).bind fun bt168 => (if 1 + bt168.1.size ≤ 9223372036854775807 then (if ((⟨#[40]⟩ : ByteArray) ++ bt168.1).size + 1 ≤ 9223372036854775807 then ((spec_l20Sentence.f k x1000 bt168.2 x1 (wrap64 (x2 - 1))).bind fun bt170 => (if (((⟨#[40]⟩ : ByteArray) ++ bt168.1) ++ (⟨#[124]⟩ : ByteArray)).size + bt170.1.size ≤ 9223372036854775807 then (if ((((⟨#[40]⟩ : ByteArray) ++ bt168.1) ++ (⟨#[124]⟩ : ByteArray)) ++ bt170.1).size + 1 ≤ 9223372036854775807 then (some (((((⟨#[40]⟩ : ByteArray) ++ bt168.1) ++ (⟨#[124]⟩ : ByteArray)) ++ bt170.1) ++ (⟨#[41]⟩ : ByteArray), bt170.2)) else (none)) else (none))) else (none)) else (none))) else ((spec_l20Sentence.f k x1000 bt160.2 x1 (wrap64 (x2 - 1))).bind fun bt172 => (if 1 + bt172.1.size ≤ 9223372036854775807 then (if ((⟨#[40]⟩ : ByteArray) ++ bt172.1).size + 1 ≤ 9223372036854775807 then ((spec_l20Sentence.f k x1000 bt172.2 x1 (wrap64 (x2 - 1))).bind fun bt174 => (if (((⟨#[40]⟩ : ByteArray) ++ bt172.1) ++ (⟨#[62]⟩ : ByteArray)).size + bt174.1.size ≤ 9223372036854775807 then (if ((((⟨#[40]⟩ : ByteArray) ++ bt172.1) ++ (⟨#[62]⟩ : ByteArray)) ++ bt174.1).size + 1 ≤ 9223372036854775807 then (some (((((⟨#[40]⟩ : ByteArray) ++ bt172.1) ++ (⟨#[62]⟩ : ByteArray)) ++ bt174.1) ++ (⟨#[41]⟩ : ByteArray), bt174.2)) else (none)) else (none))) else (none)) else (none)))))))
def spec_l20Sentence.f : Nat → List Int → Int → Int → Int → Option (ByteArray × Int)
  | 0, _, _, _, _ => none
  | k + 1, s0_0, s0_1, a1, a2 => if a2 = 0 then (spec_l20Sentence.j0 k a1 a2 true s0_0 s0_1) else ((spec_l20Rd_pick.f k s0_0 s0_1 3).bind fun bt150 => (spec_l20Sentence.j0 k a1 a2 (bt150.1 == 0) s0_0 bt150.2))
end
theorem spec_l20Sentence.mono_l : ∀ k, (∀ y0 y1 y2 y3, LeO (spec_l20Sentence.f k y0 y1 y2 y3) (spec_l20Sentence.f (k + 1) y0 y1 y2 y3)) ∧ (∀ y0 y1 y2 y3 y4, LeO (spec_l20Sentence.j0 k y0 y1 y2 y3 y4) (spec_l20Sentence.j0 (k + 1) y0 y1 y2 y3 y4))
  | 0 => ⟨fun _ _ _ _ r h => by simp [spec_l20Sentence.f] at h, fun _ _ _ _ _ r h => by simp [spec_l20Sentence.j0] at h⟩
  | k + 1 => by
    obtain ⟨ih0, ih1⟩ := spec_l20Sentence.mono_l k
    refine ⟨?_, ?_⟩
    · intro y0 y1 y2 y3
      unfold spec_l20Sentence.f
      repeat' first
      | (with_reducible exact ih0 _ _ _ _)
      | (with_reducible exact ih1 _ _ _ _ _)
      | (with_reducible exact spec_l20Rd_pick.mono _ _ _ _)
      | (with_reducible exact LeO.refl _)
      | (with_reducible exact LeO.none _)
      | (with_reducible refine LeO.ite ?_ ?_)
      | (with_reducible refine LeO.bind ?_ (fun _ => ?_))
      | exact ih0 _ _ _ _
      | exact ih1 _ _ _ _ _
      | exact spec_l20Rd_pick.mono _ _ _ _
      | exact LeO.none _
      | refine LeO.ite ?_ ?_
      | refine LeO.bind ?_ (fun _ => ?_)
    · intro y0 y1 y2 y3 y4
      unfold spec_l20Sentence.j0
      repeat' first
      | (with_reducible exact ih0 _ _ _ _)
      | (with_reducible exact ih1 _ _ _ _ _)
      | (with_reducible exact spec_l20Rd_pick.mono _ _ _ _)
      | (with_reducible exact LeO.refl _)
      | (with_reducible exact LeO.none _)
      | (with_reducible refine LeO.ite ?_ ?_)
      | (with_reducible refine LeO.bind ?_ (fun _ => ?_))
      | exact ih0 _ _ _ _
      | exact ih1 _ _ _ _ _
      | exact spec_l20Rd_pick.mono _ _ _ _
      | exact LeO.none _
      | refine LeO.ite ?_ ?_
      | refine LeO.bind ?_ (fun _ => ?_)
theorem spec_l20Sentence.mono : ∀ a0 a1 a2 a3 k, LeO (spec_l20Sentence.f k a0 a1 a2 a3) (spec_l20Sentence.f (k + 1) a0 a1 a2 a3) := by
  intro a0 a1 a2 a3 k
  obtain ⟨ih0, ih1⟩ := spec_l20Sentence.mono_l k
  exact ih0 a0 a1 a2 a3
set_option maxHeartbeats 8000000 in
set_option maxRecDepth 100000 in
theorem spec_l20Sentence.calls (k : Nat) : ∀ (g : Nat) (s0_0 : List Int) (s0_1 : Int) (a1 : Int) (a2 : Int) (r1 : ByteArray) (r2 : Int) (w0 w : World) (hI : IsS67 w0 w g s0_0 s0_1) (hB : Below w0.heap.size w0 w) (h : spec_l20Sentence.f k s0_0 s0_1 a1 a2 = some (r1, r2)),
    Calls Try.prog 50 #[.pointer (some ⟨g, 0, none⟩), .int .i64 a1, .int .i64 a2] w fun e w' => e = .returned (.string r1) ∧ IsS67 w0 w' g s0_0 r2 ∧ Below w0.heap.size w0 w' ∧ KeepBut w w' g none := by
  induction k using Nat.strongRecOn with
  | _ k ih =>
  intro g s0_0 s0_1 a1 a2 r1 r2 w0 w hI hB h
  cases k with
  | zero => exact absurd h (by simp [spec_l20Sentence.f])
  | succ k =>
  simp only [spec_l20Sentence.f] at h
  have HI0 := Aside0.mk hI
  have HK := Aside0.mk (KeepBut.refl w g none)
  have HL := Aside0.mk hB.size
  clear hI
  have HW0 := Aside0.mk hB.size
  have HB := Aside0.mk hB
  clear hB
  have H : (if a2 = 0 then (spec_l20Sentence.j0 k a1 a2 true s0_0 s0_1) else ((spec_l20Rd_pick.f k s0_0 s0_1 3).bind fun bt150 => (spec_l20Sentence.j0 k a1 a2 (bt150.1 == 0) s0_0 bt150.2))) = some (r1, r2) := h
  clear h
  have HC4 := Aside0.mk H
  clear H
  go_enter Try.func50, Try.ntmps50
  go_upto_region 1 with (fail)
  go_cut [13] (fun v13 wc => ∃ (kq : Nat) (x13_3 : Bool) (x1001_3 : Int), v13 = .bool x13_3 ∧ Aside0 (spec_l20Sentence.j0 kq a1 a2 x13_3 s0_0 x1001_3 = some (r1, r2)) ∧ Aside0 (kq ≤ k) ∧ Aside0 (IsS67 w0 wc g s0_0 x1001_3) ∧ Aside0 (KeepBut w wc g none) ∧ Aside0 (Below w0.heap.size w0 wc))
  case first =>
    have H := HC4.out
    clear HC4
    by_cases c5 : a2 = 0
    · rw [if_pos c5] at H
      have c5b0 : (a2 == 0) = true := beq_iff_eq.mpr c5
      have c5b1 : (a2 != 0) = false := bne_eq_false_iff_eq.mpr c5
      clear c5
      (first | rw [c5b0] | (simp only [i64_w, i32_w]; rw [c5b0]) | skip)
      have H' := Aside0.mk H
      clear H
      go_wp2
      go_meet
      case rel => exact ⟨_, (true), (s0_1), (by first | rfl | (simp; done) | (simp [*]; done)), H', ⟨by first | omega | exact Nat.le_refl _⟩, ⟨by repeat (first | (with_reducible first | exact HI0.out | apply IsS67.alloc | apply IsS67.drewN | apply IsS67.drew | apply IsS67.set_1) | exact HI0.out)⟩, ⟨by repeat (first | (with_reducible first | exact HK.out | apply KeepBut.set_ | apply keep_drewN | apply keep_drew | apply keep_alloc) | exact HK.out)⟩, ⟨by repeat (first | (with_reducible first | exact HB.out | apply below_alloc | apply pw_below_drewN | apply below_drew1 | refine below_set ?_ (IsS67.ge HI0.out)) | exact HB.out)⟩⟩
    · rw [if_neg c5] at H
      have c5b0 : (a2 == 0) = false := beq_eq_false_iff_ne.mpr c5
      have c5b1 : (a2 != 0) = true := bne_iff_ne.mpr c5
      (first | rw [c5b0] | (simp only [i64_w, i32_w]; rw [c5b0]) | skip)
      replace H := Option.bind_eq_some_iff.mp H
      obtain ⟨⟨t150, t151⟩, A60, H⟩ := H
      replace H : (spec_l20Sentence.j0 k a1 a2 (t150 == 0) s0_0 t151) = some (r1, r2) := H
      have A6 := Aside0.mk A60
      clear A60
      have H' := Aside0.mk H
      clear H
      go_wp2_with (first | (go_at_call 51; (with_reducible refine (spec_l20Rd_pick.calls k g s0_0 s0_1 3 t150 t151 w0 _ ?side1 ?side2 A6.out).mono ?_); (case side1 => repeat (first | (with_reducible first | exact HI0.out | apply IsS67.alloc | apply IsS67.drewN | apply IsS67.drew | apply IsS67.set_1) | exact HI0.out)); (case side2 => repeat (first | (with_reducible first | exact HB.out | apply below_alloc | apply pw_below_drewN | apply below_drew1 | refine below_set ?_ (IsS67.ge HI0.out)) | exact HB.out)); rintro e w7 ⟨rfl, hi, hb, hk⟩; have n0_ := Aside0.mk (KeepBut.trans (by repeat (first | (with_reducible first | exact HK.out | apply KeepBut.set_ | apply keep_drewN | apply keep_drew | apply keep_alloc) | exact HK.out)) hk (.inl rfl)); have n1_ := Aside0.mk (hb); have n2_ := Aside0.mk (hi); clear HK; clear HB; clear HI0; have HK := n0_; have HB := n1_; have HI0 := n2_; clear n0_ n1_ n2_; (try clear hb); (try clear hb2); (try clear hk); (try clear hi)))
      go_meet
      case rel => exact ⟨_, ((t150 == 0)), (t151), (by first | rfl | (simp; done) | (simp [*]; done)), H', ⟨by first | omega | exact Nat.le_refl _⟩, ⟨by repeat (first | (with_reducible first | exact HI0.out | apply IsS67.alloc | apply IsS67.drewN | apply IsS67.drew | apply IsS67.set_1) | exact HI0.out)⟩, ⟨by repeat (first | (with_reducible first | exact HK.out | apply KeepBut.set_ | apply keep_drewN | apply keep_drew | apply keep_alloc) | exact HK.out)⟩, ⟨by repeat (first | (with_reducible first | exact HB.out | apply below_alloc | apply pw_below_drewN | apply below_drew1 | refine below_set ?_ (IsS67.ge HI0.out)) | exact HB.out)⟩⟩
  case rest =>
    clear HC4
    try clear p2
    try clear c5
    try clear c5b0
    try clear c5b1
    obtain ⟨kq, x13_3, x1001_3, rfl, HA, HJ3, HI0, HK, HB⟩ := hcut
    cases kq with
    | zero => exact absurd HA.out (by simp [spec_l20Sentence.j0])
    | succ kj3 =>
      have H := HA.out
      clear HA
      simp only [spec_l20Sentence.j0] at H
      by_cases c8 : x13_3 = true
      · subst c8
        have H1 : ((some (([(⟨#[97]⟩ : ByteArray), (⟨#[98]⟩ : ByteArray), (⟨#[99]⟩ : ByteArray), (⟨#[97]⟩ : ByteArray), (⟨#[48]⟩ : ByteArray), (⟨#[49]⟩ : ByteArray)] : List ByteArray) : List ByteArray)).bind fun y152 => ((spec_l20Rd_pick.f kj3 s0_0 x1001_3 8).bind fun bt155 => ((spec_l20Rd_pick.f kj3 s0_0 bt155.2 (wrap64 ((mx (mn a1 3) 1) + (wrap64 ((wrap64 (Int.tdiv bt155.1 7)) * 3))))).bind fun bt157 => (if 0 ≤ bt157.1 then (if bt157.1 < (y152.length : Int) then (some (rdOf ByteArray.empty y152 bt157.1, bt157.2)) else (none)) else (none))))) = some (r1, r2) := by rw [if_pos rfl] at H; exact H
        clear H
        have H := H1
        clear H1
        obtain ⟨y152, hy152⟩ : ∃ y_ : List ByteArray, y_ = (([(⟨#[97]⟩ : ByteArray), (⟨#[98]⟩ : ByteArray), (⟨#[99]⟩ : ByteArray), (⟨#[97]⟩ : ByteArray), (⟨#[48]⟩ : ByteArray), (⟨#[49]⟩ : ByteArray)] : List ByteArray)) := ⟨_, rfl⟩
        replace H : ((spec_l20Rd_pick.f kj3 s0_0 x1001_3 8).bind fun bt155 => ((spec_l20Rd_pick.f kj3 s0_0 bt155.2 (wrap64 ((mx (mn a1 3) 1) + (wrap64 ((wrap64 (Int.tdiv bt155.1 7)) * 3))))).bind fun bt157 => (if 0 ≤ bt157.1 then (if bt157.1 < (y152.length : Int) then (some (rdOf ByteArray.empty y152 bt157.1, bt157.2)) else (none)) else (none)))) = some (r1, r2) := by first | (rw [hy152]; with_reducible exact H) | (have H2_ := (Option.bind_some _ _).symm.trans H; rw [hy152]; with_reducible exact H2_) | (have H2_ := (Option.bind_some _ _).symm.trans H; with_reducible exact H2_) | with_reducible exact H | (rw [hy152]; exact H) | exact H
        have Ny152 := Aside0.mk hy152
        clear hy152
        obtain ⟨ji9, hji9⟩ : ∃ j_ : Int, (mn a1 3) = j_ := ⟨_, rfl⟩
        replace H : ((spec_l20Rd_pick.f kj3 s0_0 x1001_3 8).bind fun bt155 => ((spec_l20Rd_pick.f kj3 s0_0 bt155.2 (wrap64 ((mx (ji9) 1) + (wrap64 ((wrap64 (Int.tdiv bt155.1 7)) * 3))))).bind fun bt157 => (if 0 ≤ bt157.1 then (if bt157.1 < (y152.length : Int) then (some (rdOf ByteArray.empty y152 bt157.1, bt157.2)) else (none)) else (none)))) = some (r1, r2) := by first | (rw [hji9] at H; exact H) | (simp only [hji9] at H ⊢; exact H)
        have hji9_ : (if 3 < a1 then 3 else a1) = ji9 := hji9
        obtain ⟨ji10, hji10⟩ : ∃ j_ : Int, (mx (ji9) 1) = j_ := ⟨_, rfl⟩
        replace H : ((spec_l20Rd_pick.f kj3 s0_0 x1001_3 8).bind fun bt155 => ((spec_l20Rd_pick.f kj3 s0_0 bt155.2 (wrap64 ((ji10) + (wrap64 ((wrap64 (Int.tdiv bt155.1 7)) * 3))))).bind fun bt157 => (if 0 ≤ bt157.1 then (if bt157.1 < (y152.length : Int) then (some (rdOf ByteArray.empty y152 bt157.1, bt157.2)) else (none)) else (none)))) = some (r1, r2) := by first | (rw [hji10] at H; exact H) | (simp only [hji10] at H ⊢; exact H)
        have hji10_ : (if (ji9) < 1 then 1 else (ji9)) = ji10 := hji10
        replace H := Option.bind_eq_some_iff.mp H
        obtain ⟨⟨t155, t156⟩, A110, H⟩ := H
        replace H : ((spec_l20Rd_pick.f kj3 s0_0 t156 (wrap64 ((ji10) + (wrap64 ((wrap64 (Int.tdiv t155 7)) * 3))))).bind fun bt157 => (if 0 ≤ bt157.1 then (if bt157.1 < (y152.length : Int) then (some (rdOf ByteArray.empty y152 bt157.1, bt157.2)) else (none)) else (none))) = some (r1, r2) := H
        have A11 := Aside0.mk A110
        clear A110
        replace H := Option.bind_eq_some_iff.mp H
        obtain ⟨⟨t157, t158⟩, A120, H⟩ := H
        replace H : (if 0 ≤ t157 then (if t157 < (y152.length : Int) then (some (rdOf ByteArray.empty y152 t157, t158)) else (none)) else (none)) = some (r1, r2) := H
        have A12 := Aside0.mk A120
        clear A120
        by_cases c13 : 0 ≤ t157
        · rw [if_pos c13] at H
          have c13b0 : decide (0 ≤ t157) = true := decide_eq_true c13
          clear c13
          by_cases c14 : t157 < (y152.length : Int)
          · rw [if_pos c14] at H
            have c14b0 : decide (t157 < (y152.length : Int)) = true := decide_eq_true c14
            clear c14
            simp only [Option.some.injEq, Prod.mk.injEq] at H
            obtain ⟨rfl, rfl⟩ := H
            go_wp2_with (first | ((with_reducible refine gate_dst (N := 14) rfl ?_); refine Kd.R_lit Kd.string _ 9 ?hg (N := 14) ?hd (xs := ([(⟨#[97]⟩ : ByteArray), (⟨#[98]⟩ : ByteArray), (⟨#[99]⟩ : ByteArray), (⟨#[97]⟩ : ByteArray), (⟨#[48]⟩ : ByteArray), (⟨#[49]⟩ : ByteArray)] : List ByteArray)) (inner := [.string (⟨#[97]⟩ : ByteArray), .string (⟨#[98]⟩ : ByteArray), .string (⟨#[99]⟩ : ByteArray), .string (⟨#[97]⟩ : ByteArray), .string (⟨#[48]⟩ : ByteArray), .string (⟨#[49]⟩ : ByteArray)]) (ok := fun _ => True) (okp := fun _ => True) ?hr ?hp (fun _ hk => hk) trivial (Below.refl _ _) (Nat.le_refl _) (by simp) ?_; (case hd => rfl); (case hg => rfl); (case hr => first | (go_simp; done) | (go_simp; rfl)); (case hp => exact (Reps.one (show Kd.M Kd.string _ _ _ (⟨#[97]⟩ : ByteArray) [.string (⟨#[97]⟩ : ByteArray)] from rfl) (Reps.one (show Kd.M Kd.string _ _ _ (⟨#[98]⟩ : ByteArray) [.string (⟨#[98]⟩ : ByteArray)] from rfl) (Reps.one (show Kd.M Kd.string _ _ _ (⟨#[99]⟩ : ByteArray) [.string (⟨#[99]⟩ : ByteArray)] from rfl) (Reps.one (show Kd.M Kd.string _ _ _ (⟨#[97]⟩ : ByteArray) [.string (⟨#[97]⟩ : ByteArray)] from rfl) (Reps.one (show Kd.M Kd.string _ _ _ (⟨#[48]⟩ : ByteArray) [.string (⟨#[48]⟩ : ByteArray)] from rfl) (Reps.one (show Kd.M Kd.string _ _ _ (⟨#[49]⟩ : ByteArray) [.string (⟨#[49]⟩ : ByteArray)] from rfl) (Reps.none _ _)))))))); intro v153 w15 ho16 hb hg_ hnew_; clear hg_ hnew_; (first | rw [← Ny152.out] at ho16 | (simp only [Int.reduceToNat] at ho16; rw [← Ny152.out] at ho16)); have n0_ := Aside0.mk (Kd.R_lower ho16 (keep_size (w := w) (g := g) (row := none) (by repeat (first | (with_reducible first | exact HK.out | apply KeepBut.set_ | apply keep_drewN | apply keep_drew | apply keep_alloc) | exact HK.out)))); have n1_ := Aside0.mk (IsS67.below (by repeat (first | (with_reducible first | exact HI0.out | apply IsS67.alloc | apply IsS67.drewN | apply IsS67.drew | apply IsS67.set_1) | exact HI0.out)) hb); have n2_ := Aside0.mk (KeepBut.trans (by repeat (first | (with_reducible first | exact HK.out | apply KeepBut.set_ | apply keep_drewN | apply keep_drew | apply keep_alloc) | exact HK.out)) (KeepBut.of_below hb g none) (.inl rfl)); have n3_ := Aside0.mk (below_step (by repeat (first | (with_reducible first | exact HB.out | apply below_alloc | apply pw_below_drewN | apply below_drew1 | refine below_set ?_ (IsS67.ge HI0.out)) | exact HB.out)) hb); clear HI0; clear HK; clear HB; have HO154 := n0_; have HI0 := n1_; have HK := n2_; have HB := n3_; clear n0_ n1_ n2_ n3_; clear hb ho16) | ((with_reducible refine gate_callee (f := 51) rfl ?_); refine goesL_ (some 20) rfl rfl Try.func51 (by kernel_rfl) rfl #[.pointer (some ⟨g, 0, none⟩), .int .i64 8] rfl (by (try simp only [List.map_toArray, List.map_cons, List.map_nil]); first | done | rfl | (simp only [List.length_drop, List.length_take]; rfl)) ?_; (with_reducible refine (spec_l20Rd_pick.calls kj3 g s0_0 x1001_3 8 t155 t156 w0 _ ?side1 ?side2 A11.out).mono ?_); (case side1 => repeat (first | (with_reducible first | exact HI0.out | apply IsS67.alloc | apply IsS67.drewN | apply IsS67.drew | apply IsS67.set_1) | exact HI0.out)); (case side2 => repeat (first | (with_reducible first | exact HB.out | apply below_alloc | apply pw_below_drewN | apply below_drew1 | refine below_set ?_ (IsS67.ge HI0.out)) | exact HB.out)); rintro e w17 ⟨rfl, hi, hb, hk⟩; refine ⟨_, rfl, ?_⟩; have n0_ := Aside0.mk (Kd.R_mono (Kd.R_keep (IsS67.apart (show IsS67 w0 _ g s0_0 x1001_3 from by repeat (first | (with_reducible first | exact HI0.out | apply IsS67.alloc | apply IsS67.drewN | apply IsS67.drew | apply IsS67.set_1) | exact HI0.out)) (by (with_reducible repeat (first | apply Kd.R_alloc | apply Kd.R_drewN | apply Kd.R_drew)); exact HO154.out) (by decide)) hk (fun _ h => h.2)) (fun _ h => h.1)); have n1_ := Aside0.mk (KeepBut.trans (by repeat (first | (with_reducible first | exact HK.out | apply KeepBut.set_ | apply keep_drewN | apply keep_drew | apply keep_alloc) | exact HK.out)) hk (.inl rfl)); have n2_ := Aside0.mk (hb); have n3_ := Aside0.mk (hi); clear HO154; clear HK; clear HB; clear HI0; have HO154 := n0_; have HK := n1_; have HB := n2_; have HI0 := n3_; clear n0_ n1_ n2_ n3_; (try clear hb); (try clear hb2); (try clear hk); (try clear hi)) | ((with_reducible refine gate_callee (f := 51) rfl ?_); refine goesL_ (some 24) rfl rfl Try.func51 (by kernel_rfl) rfl #[.pointer (some ⟨g, 0, none⟩), .int .i64 (wrap64 ((ji10) + (wrap64 ((wrap64 (Int.tdiv t155 7)) * 3))))] rfl (by (try simp only [List.map_toArray, List.map_cons, List.map_nil]); first | done | (simp only [hji10]; rfl) | rfl | (simp only [List.length_drop, List.length_take]; rfl)) ?_; (with_reducible refine (spec_l20Rd_pick.calls kj3 g s0_0 t156 (wrap64 ((ji10) + (wrap64 ((wrap64 (Int.tdiv t155 7)) * 3)))) t157 t158 w0 _ ?side1 ?side2 A12.out).mono ?_); (case side1 => repeat (first | (with_reducible first | exact HI0.out | apply IsS67.alloc | apply IsS67.drewN | apply IsS67.drew | apply IsS67.set_1) | exact HI0.out)); (case side2 => repeat (first | (with_reducible first | exact HB.out | apply below_alloc | apply pw_below_drewN | apply below_drew1 | refine below_set ?_ (IsS67.ge HI0.out)) | exact HB.out)); rintro e w18 ⟨rfl, hi, hb, hk⟩; refine ⟨_, rfl, ?_⟩; have n0_ := Aside0.mk (Kd.R_mono (Kd.R_keep (IsS67.apart (show IsS67 w0 _ g s0_0 t156 from by repeat (first | (with_reducible first | exact HI0.out | apply IsS67.alloc | apply IsS67.drewN | apply IsS67.drew | apply IsS67.set_1) | exact HI0.out)) (by (with_reducible repeat (first | apply Kd.R_alloc | apply Kd.R_drewN | apply Kd.R_drew)); exact HO154.out) (by decide)) hk (fun _ h => h.2)) (fun _ h => h.1)); have n1_ := Aside0.mk (KeepBut.trans (by repeat (first | (with_reducible first | exact HK.out | apply KeepBut.set_ | apply keep_drewN | apply keep_drew | apply keep_alloc) | exact HK.out)) hk (.inl rfl)); have n2_ := Aside0.mk (hb); have n3_ := Aside0.mk (hi); clear HO154; clear HK; clear HB; clear HI0; have HO154 := n0_; have HK := n1_; have HB := n2_; have HI0 := n3_; clear n0_ n1_ n2_ n3_; (try clear hb); (try clear hb2); (try clear hk); (try clear hi); obtain ⟨Ao19, co19, eo19⟩ := Kd.R_slice HO154.out; subst eo19; have p159 : 0 ≤ (t157 : Int) := of_decide_eq_true (by first | (with_reducible assumption) | assumption); have q159 : t157 < (y152.length : Int) := of_decide_eq_true (by first | (with_reducible assumption) | assumption); obtain ⟨ad159, e159, hx159_0⟩ := Kd.at_string (Kd.R_reads' HO154.out).2.2 t157 p159 q159; cases e159; replace p159 := eq_true p159; replace q159 := eq_true q159))
            go_ret
            exact ⟨by first | rfl | (simp [errW_none, errW_some] <;> rfl) | (simp only [← hji9, ← hji10]; first | rfl | (simp [errW_none, errW_some] <;> rfl)) | (simp [*, errW_none, errW_some] <;> rfl), by repeat (first | (with_reducible first | exact HI0.out | apply IsS67.alloc | apply IsS67.drewN | apply IsS67.drew | apply IsS67.set_1) | exact HI0.out), by repeat (first | (with_reducible first | exact HB.out | apply below_alloc | apply pw_below_drewN | apply below_drew1 | refine below_set ?_ (IsS67.ge HI0.out)) | exact HB.out), by repeat (first | (with_reducible first | exact HK.out | apply KeepBut.set_ | apply keep_drewN | apply keep_drew | apply keep_alloc) | exact HK.out)⟩
          · rw [if_neg c14] at H
            exact absurd H (by simp)
        · rw [if_neg c13] at H
          exact absurd H (by simp)
      · replace c8 := Bool.eq_false_iff.mpr c8
        subst c8
        have H1 : ((spec_l20Rd_pick.f kj3 s0_0 x1001_3 4).bind fun bt160 => (if bt160.1 = 0 then ((spec_l20Sentence.f kj3 s0_0 bt160.2 a1 (wrap64 (a2 - 1))).bind fun bt162 => (if 1 + bt162.1.size ≤ 9223372036854775807 then (some ((⟨#[33]⟩ : ByteArray) ++ bt162.1, bt162.2)) else (none))) else (if bt160.1 = 1 then ((spec_l20Sentence.f kj3 s0_0 bt160.2 a1 (wrap64 (a2 - 1))).bind fun bt164 => (if 1 + bt164.1.size ≤ 9223372036854775807 then (if ((⟨#[40]⟩ : ByteArray) ++ bt164.1).size + 1 ≤ 9223372036854775807 then ((spec_l20Sentence.f kj3 s0_0 bt164.2 a1 (wrap64 (a2 - 1))).bind fun bt166 => (if (((⟨#[40]⟩ : ByteArray) ++ bt164.1) ++ (⟨#[38]⟩ : ByteArray)).size + bt166.1.size ≤ 9223372036854775807 then (if ((((⟨#[40]⟩ : ByteArray) ++ bt164.1) ++ (⟨#[38]⟩ : ByteArray)) ++ bt166.1).size + 1 ≤ 9223372036854775807 then (some (((((⟨#[40]⟩ : ByteArray) ++ bt164.1) ++ (⟨#[38]⟩ : ByteArray)) ++ bt166.1) ++ (⟨#[41]⟩ : ByteArray), bt166.2)) else (none)) else (none))) else (none)) else (none))) else (if bt160.1 = 2 then ((spec_l20Sentence.f kj3 s0_0 bt160.2 a1 (wrap64 (a2 - 1))).bind fun bt168 => (if 1 + bt168.1.size ≤ 9223372036854775807 then (if ((⟨#[40]⟩ : ByteArray) ++ bt168.1).size + 1 ≤ 9223372036854775807 then ((spec_l20Sentence.f kj3 s0_0 bt168.2 a1 (wrap64 (a2 - 1))).bind fun bt170 => (if (((⟨#[40]⟩ : ByteArray) ++ bt168.1) ++ (⟨#[124]⟩ : ByteArray)).size + bt170.1.size ≤ 9223372036854775807 then (if ((((⟨#[40]⟩ : ByteArray) ++ bt168.1) ++ (⟨#[124]⟩ : ByteArray)) ++ bt170.1).size + 1 ≤ 9223372036854775807 then (some (((((⟨#[40]⟩ : ByteArray) ++ bt168.1) ++ (⟨#[124]⟩ : ByteArray)) ++ bt170.1) ++ (⟨#[41]⟩ : ByteArray), bt170.2)) else (none)) else (none))) else (none)) else (none))) else ((spec_l20Sentence.f kj3 s0_0 bt160.2 a1 (wrap64 (a2 - 1))).bind fun bt172 => (if 1 + bt172.1.size ≤ 9223372036854775807 then (if ((⟨#[40]⟩ : ByteArray) ++ bt172.1).size + 1 ≤ 9223372036854775807 then ((spec_l20Sentence.f kj3 s0_0 bt172.2 a1 (wrap64 (a2 - 1))).bind fun bt174 => (if (((⟨#[40]⟩ : ByteArray) ++ bt172.1) ++ (⟨#[62]⟩ : ByteArray)).size + bt174.1.size ≤ 9223372036854775807 then (if ((((⟨#[40]⟩ : ByteArray) ++ bt172.1) ++ (⟨#[62]⟩ : ByteArray)) ++ bt174.1).size + 1 ≤ 9223372036854775807 then (some (((((⟨#[40]⟩ : ByteArray) ++ bt172.1) ++ (⟨#[62]⟩ : ByteArray)) ++ bt174.1) ++ (⟨#[41]⟩ : ByteArray), bt174.2)) else (none)) else (none))) else (none)) else (none))))))) = some (r1, r2) := by rw [if_neg (show ¬ (false = true) by decide)] at H; exact H
        clear H
        have H := H1
        clear H1
        replace H := Option.bind_eq_some_iff.mp H
        obtain ⟨⟨t160, t161⟩, A200, H⟩ := H
        replace H : (if t160 = 0 then ((spec_l20Sentence.f kj3 s0_0 t161 a1 (wrap64 (a2 - 1))).bind fun bt162 => (if 1 + bt162.1.size ≤ 9223372036854775807 then (some ((⟨#[33]⟩ : ByteArray) ++ bt162.1, bt162.2)) else (none))) else (if t160 = 1 then ((spec_l20Sentence.f kj3 s0_0 t161 a1 (wrap64 (a2 - 1))).bind fun bt164 => (if 1 + bt164.1.size ≤ 9223372036854775807 then (if ((⟨#[40]⟩ : ByteArray) ++ bt164.1).size + 1 ≤ 9223372036854775807 then ((spec_l20Sentence.f kj3 s0_0 bt164.2 a1 (wrap64 (a2 - 1))).bind fun bt166 => (if (((⟨#[40]⟩ : ByteArray) ++ bt164.1) ++ (⟨#[38]⟩ : ByteArray)).size + bt166.1.size ≤ 9223372036854775807 then (if ((((⟨#[40]⟩ : ByteArray) ++ bt164.1) ++ (⟨#[38]⟩ : ByteArray)) ++ bt166.1).size + 1 ≤ 9223372036854775807 then (some (((((⟨#[40]⟩ : ByteArray) ++ bt164.1) ++ (⟨#[38]⟩ : ByteArray)) ++ bt166.1) ++ (⟨#[41]⟩ : ByteArray), bt166.2)) else (none)) else (none))) else (none)) else (none))) else (if t160 = 2 then ((spec_l20Sentence.f kj3 s0_0 t161 a1 (wrap64 (a2 - 1))).bind fun bt168 => (if 1 + bt168.1.size ≤ 9223372036854775807 then (if ((⟨#[40]⟩ : ByteArray) ++ bt168.1).size + 1 ≤ 9223372036854775807 then ((spec_l20Sentence.f kj3 s0_0 bt168.2 a1 (wrap64 (a2 - 1))).bind fun bt170 => (if (((⟨#[40]⟩ : ByteArray) ++ bt168.1) ++ (⟨#[124]⟩ : ByteArray)).size + bt170.1.size ≤ 9223372036854775807 then (if ((((⟨#[40]⟩ : ByteArray) ++ bt168.1) ++ (⟨#[124]⟩ : ByteArray)) ++ bt170.1).size + 1 ≤ 9223372036854775807 then (some (((((⟨#[40]⟩ : ByteArray) ++ bt168.1) ++ (⟨#[124]⟩ : ByteArray)) ++ bt170.1) ++ (⟨#[41]⟩ : ByteArray), bt170.2)) else (none)) else (none))) else (none)) else (none))) else ((spec_l20Sentence.f kj3 s0_0 t161 a1 (wrap64 (a2 - 1))).bind fun bt172 => (if 1 + bt172.1.size ≤ 9223372036854775807 then (if ((⟨#[40]⟩ : ByteArray) ++ bt172.1).size + 1 ≤ 9223372036854775807 then ((spec_l20Sentence.f kj3 s0_0 bt172.2 a1 (wrap64 (a2 - 1))).bind fun bt174 => (if (((⟨#[40]⟩ : ByteArray) ++ bt172.1) ++ (⟨#[62]⟩ : ByteArray)).size + bt174.1.size ≤ 9223372036854775807 then (if ((((⟨#[40]⟩ : ByteArray) ++ bt172.1) ++ (⟨#[62]⟩ : ByteArray)) ++ bt174.1).size + 1 ≤ 9223372036854775807 then (some (((((⟨#[40]⟩ : ByteArray) ++ bt172.1) ++ (⟨#[62]⟩ : ByteArray)) ++ bt174.1) ++ (⟨#[41]⟩ : ByteArray), bt174.2)) else (none)) else (none))) else (none)) else (none)))))) = some (r1, r2) := H
        have A20 := Aside0.mk A200
        clear A200
        by_cases c21 : t160 = 0
        · rw [if_pos c21] at H
          have c21b0 : (t160 == 0) = true := beq_iff_eq.mpr c21
          have c21b1 : (t160 != 0) = false := bne_eq_false_iff_eq.mpr c21
          clear c21
          replace H := Option.bind_eq_some_iff.mp H
          obtain ⟨⟨t162, t163⟩, A220, H⟩ := H
          replace H : (if 1 + t162.size ≤ 9223372036854775807 then (some ((⟨#[33]⟩ : ByteArray) ++ t162, t163)) else (none)) = some (r1, r2) := H
          have A22 := Aside0.mk A220
          clear A220
          by_cases c23 : 1 + t162.size ≤ 9223372036854775807
          · rw [if_pos c23] at H
            have c23b0 := eq_true c23
            have c23b1 : decide (1 + t162.size ≤ 9223372036854775807) = true := decide_eq_true c23
            try have c23b2 : (9223372036854775807 < 1 + t162.size) = False := eq_false (Nat.not_lt.2 c23)
            simp only [Option.some.injEq, Prod.mk.injEq] at H
            obtain ⟨rfl, rfl⟩ := H
            go_wp2_with (first | ((with_reducible refine gate_callee (f := 51) rfl ?_); refine goesL_ (some 28) rfl rfl Try.func51 (by kernel_rfl) rfl #[.pointer (some ⟨g, 0, none⟩), .int .i64 4] rfl (by (try simp only [List.map_toArray, List.map_cons, List.map_nil]); first | done | rfl | (simp only [List.length_drop, List.length_take]; rfl)) ?_; (with_reducible refine (spec_l20Rd_pick.calls kj3 g s0_0 x1001_3 4 t160 t161 w0 _ ?side1 ?side2 A20.out).mono ?_); (case side1 => repeat (first | (with_reducible first | exact HI0.out | apply IsS67.alloc | apply IsS67.drewN | apply IsS67.drew | apply IsS67.set_1) | exact HI0.out)); (case side2 => repeat (first | (with_reducible first | exact HB.out | apply below_alloc | apply pw_below_drewN | apply below_drew1 | refine below_set ?_ (IsS67.ge HI0.out)) | exact HB.out)); rintro e w24 ⟨rfl, hi, hb, hk⟩; refine ⟨_, rfl, ?_⟩; have n0_ := Aside0.mk (KeepBut.trans (by repeat (first | (with_reducible first | exact HK.out | apply KeepBut.set_ | apply keep_drewN | apply keep_drew | apply keep_alloc) | exact HK.out)) hk (.inl rfl)); have n1_ := Aside0.mk (hb); have n2_ := Aside0.mk (hi); clear HK; clear HB; clear HI0; have HK := n0_; have HB := n1_; have HI0 := n2_; clear n0_ n1_ n2_; (try clear hb); (try clear hb2); (try clear hk); (try clear hi)) | ((with_reducible refine gate_callee (f := 50) rfl ?_); refine goesL_ (some 35) rfl rfl Try.func50 (by kernel_rfl) rfl #[.pointer (some ⟨g, 0, none⟩), .int .i64 a1, .int .i64 (wrap64 (a2 - 1))] rfl (by (try simp only [List.map_toArray, List.map_cons, List.map_nil]); first | done | rfl | (simp only [List.length_drop, List.length_take]; rfl)) ?_; (with_reducible refine (ih kj3 (by have := HJ3.out; omega) g s0_0 t161 a1 (wrap64 (a2 - 1)) t162 t163 w0 _ ?side1 ?side2 A22.out).mono ?_); (case side1 => repeat (first | (with_reducible first | exact HI0.out | apply IsS67.alloc | apply IsS67.drewN | apply IsS67.drew | apply IsS67.set_1) | exact HI0.out)); (case side2 => repeat (first | (with_reducible first | exact HB.out | apply below_alloc | apply pw_below_drewN | apply below_drew1 | refine below_set ?_ (IsS67.ge HI0.out)) | exact HB.out)); rintro e w25 ⟨rfl, hi, hb, hk⟩; refine ⟨_, rfl, ?_⟩; have n0_ := Aside0.mk (KeepBut.trans (by repeat (first | (with_reducible first | exact HK.out | apply KeepBut.set_ | apply keep_drewN | apply keep_drew | apply keep_alloc) | exact HK.out)) hk (.inl rfl)); have n1_ := Aside0.mk (hb); have n2_ := Aside0.mk (hi); clear HK; clear HB; clear HI0; have HK := n0_; have HB := n1_; have HI0 := n2_; clear n0_ n1_ n2_; (try clear hb); (try clear hb2); (try clear hk); (try clear hi)))
            go_ret
            exact ⟨by first | rfl | (simp [errW_none, errW_some] <;> rfl) | (simp [*, errW_none, errW_some] <;> rfl), by repeat (first | (with_reducible first | exact HI0.out | apply IsS67.alloc | apply IsS67.drewN | apply IsS67.drew | apply IsS67.set_1) | exact HI0.out), by repeat (first | (with_reducible first | exact HB.out | apply below_alloc | apply pw_below_drewN | apply below_drew1 | refine below_set ?_ (IsS67.ge HI0.out)) | exact HB.out), by repeat (first | (with_reducible first | exact HK.out | apply KeepBut.set_ | apply keep_drewN | apply keep_drew | apply keep_alloc) | exact HK.out)⟩
          · rw [if_neg c23] at H
            exact absurd H (by simp)
        · rw [if_neg c21] at H
          have c21b0 : (t160 == 0) = false := beq_eq_false_iff_ne.mpr c21
          have c21b1 : (t160 != 0) = true := bne_iff_ne.mpr c21
          by_cases c26 : t160 = 1
          · rw [if_pos c26] at H
            have c26b0 : (t160 == 1) = true := beq_iff_eq.mpr c26
            have c26b1 : (t160 != 1) = false := bne_eq_false_iff_eq.mpr c26
            clear c26
            replace H := Option.bind_eq_some_iff.mp H
            obtain ⟨⟨t164, t165⟩, A270, H⟩ := H
            replace H : (if 1 + t164.size ≤ 9223372036854775807 then (if ((⟨#[40]⟩ : ByteArray) ++ t164).size + 1 ≤ 9223372036854775807 then ((spec_l20Sentence.f kj3 s0_0 t165 a1 (wrap64 (a2 - 1))).bind fun bt166 => (if (((⟨#[40]⟩ : ByteArray) ++ t164) ++ (⟨#[38]⟩ : ByteArray)).size + bt166.1.size ≤ 9223372036854775807 then (if ((((⟨#[40]⟩ : ByteArray) ++ t164) ++ (⟨#[38]⟩ : ByteArray)) ++ bt166.1).size + 1 ≤ 9223372036854775807 then (some (((((⟨#[40]⟩ : ByteArray) ++ t164) ++ (⟨#[38]⟩ : ByteArray)) ++ bt166.1) ++ (⟨#[41]⟩ : ByteArray), bt166.2)) else (none)) else (none))) else (none)) else (none)) = some (r1, r2) := H
            have A27 := Aside0.mk A270
            clear A270
            by_cases c28 : 1 + t164.size ≤ 9223372036854775807
            · rw [if_pos c28] at H
              have c28b0 := eq_true c28
              have c28b1 : decide (1 + t164.size ≤ 9223372036854775807) = true := decide_eq_true c28
              try have c28b2 : (9223372036854775807 < 1 + t164.size) = False := eq_false (Nat.not_lt.2 c28)
              by_cases c29 : ((⟨#[40]⟩ : ByteArray) ++ t164).size + 1 ≤ 9223372036854775807
              · rw [if_pos c29] at H
                have c29b0 := eq_true c29
                have c29b1 : decide (((⟨#[40]⟩ : ByteArray) ++ t164).size + 1 ≤ 9223372036854775807) = true := decide_eq_true c29
                try have c29b2 : (9223372036854775807 < ((⟨#[40]⟩ : ByteArray) ++ t164).size + 1) = False := eq_false (Nat.not_lt.2 c29)
                try (have c29b3 := c29b2; simp only [ByteArray.size_append, bsz1, bsz0] at c29b3)
                replace H := Option.bind_eq_some_iff.mp H
                obtain ⟨⟨t166, t167⟩, A300, H⟩ := H
                replace H : (if (((⟨#[40]⟩ : ByteArray) ++ t164) ++ (⟨#[38]⟩ : ByteArray)).size + t166.size ≤ 9223372036854775807 then (if ((((⟨#[40]⟩ : ByteArray) ++ t164) ++ (⟨#[38]⟩ : ByteArray)) ++ t166).size + 1 ≤ 9223372036854775807 then (some (((((⟨#[40]⟩ : ByteArray) ++ t164) ++ (⟨#[38]⟩ : ByteArray)) ++ t166) ++ (⟨#[41]⟩ : ByteArray), t167)) else (none)) else (none)) = some (r1, r2) := H
                have A30 := Aside0.mk A300
                clear A300
                by_cases c31 : (((⟨#[40]⟩ : ByteArray) ++ t164) ++ (⟨#[38]⟩ : ByteArray)).size + t166.size ≤ 9223372036854775807
                · rw [if_pos c31] at H
                  have c31b0 := eq_true c31
                  have c31b1 : decide ((((⟨#[40]⟩ : ByteArray) ++ t164) ++ (⟨#[38]⟩ : ByteArray)).size + t166.size ≤ 9223372036854775807) = true := decide_eq_true c31
                  try have c31b2 : (9223372036854775807 < (((⟨#[40]⟩ : ByteArray) ++ t164) ++ (⟨#[38]⟩ : ByteArray)).size + t166.size) = False := eq_false (Nat.not_lt.2 c31)
                  try (have c31b3 := c31b2; simp only [ByteArray.size_append, bsz1, bsz0] at c31b3)
                  by_cases c32 : ((((⟨#[40]⟩ : ByteArray) ++ t164) ++ (⟨#[38]⟩ : ByteArray)) ++ t166).size + 1 ≤ 9223372036854775807
                  · rw [if_pos c32] at H
                    have c32b0 := eq_true c32
                    have c32b1 : decide (((((⟨#[40]⟩ : ByteArray) ++ t164) ++ (⟨#[38]⟩ : ByteArray)) ++ t166).size + 1 ≤ 9223372036854775807) = true := decide_eq_true c32
                    try have c32b2 : (9223372036854775807 < ((((⟨#[40]⟩ : ByteArray) ++ t164) ++ (⟨#[38]⟩ : ByteArray)) ++ t166).size + 1) = False := eq_false (Nat.not_lt.2 c32)
                    try (have c32b3 := c32b2; simp only [ByteArray.size_append, bsz1, bsz0] at c32b3)
                    simp only [Option.some.injEq, Prod.mk.injEq] at H
                    obtain ⟨rfl, rfl⟩ := H
                    go_wp2_with (first | ((with_reducible refine gate_callee (f := 51) rfl ?_); refine goesL_ (some 28) rfl rfl Try.func51 (by kernel_rfl) rfl #[.pointer (some ⟨g, 0, none⟩), .int .i64 4] rfl (by (try simp only [List.map_toArray, List.map_cons, List.map_nil]); first | done | rfl | (simp only [List.length_drop, List.length_take]; rfl)) ?_; (with_reducible refine (spec_l20Rd_pick.calls kj3 g s0_0 x1001_3 4 t160 t161 w0 _ ?side1 ?side2 A20.out).mono ?_); (case side1 => repeat (first | (with_reducible first | exact HI0.out | apply IsS67.alloc | apply IsS67.drewN | apply IsS67.drew | apply IsS67.set_1) | exact HI0.out)); (case side2 => repeat (first | (with_reducible first | exact HB.out | apply below_alloc | apply pw_below_drewN | apply below_drew1 | refine below_set ?_ (IsS67.ge HI0.out)) | exact HB.out)); rintro e w33 ⟨rfl, hi, hb, hk⟩; refine ⟨_, rfl, ?_⟩; have n0_ := Aside0.mk (KeepBut.trans (by repeat (first | (with_reducible first | exact HK.out | apply KeepBut.set_ | apply keep_drewN | apply keep_drew | apply keep_alloc) | exact HK.out)) hk (.inl rfl)); have n1_ := Aside0.mk (hb); have n2_ := Aside0.mk (hi); clear HK; clear HB; clear HI0; have HK := n0_; have HB := n1_; have HI0 := n2_; clear n0_ n1_ n2_; (try clear hb); (try clear hb2); (try clear hk); (try clear hi)) | ((with_reducible refine gate_callee (f := 50) rfl ?_); refine goesL_ (some 43) rfl rfl Try.func50 (by kernel_rfl) rfl #[.pointer (some ⟨g, 0, none⟩), .int .i64 a1, .int .i64 (wrap64 (a2 - 1))] rfl (by (try simp only [List.map_toArray, List.map_cons, List.map_nil]); first | done | rfl | (simp only [List.length_drop, List.length_take]; rfl)) ?_; (with_reducible refine (ih kj3 (by have := HJ3.out; omega) g s0_0 t161 a1 (wrap64 (a2 - 1)) t164 t165 w0 _ ?side1 ?side2 A27.out).mono ?_); (case side1 => repeat (first | (with_reducible first | exact HI0.out | apply IsS67.alloc | apply IsS67.drewN | apply IsS67.drew | apply IsS67.set_1) | exact HI0.out)); (case side2 => repeat (first | (with_reducible first | exact HB.out | apply below_alloc | apply pw_below_drewN | apply below_drew1 | refine below_set ?_ (IsS67.ge HI0.out)) | exact HB.out)); rintro e w34 ⟨rfl, hi, hb, hk⟩; refine ⟨_, rfl, ?_⟩; have n0_ := Aside0.mk (KeepBut.trans (by repeat (first | (with_reducible first | exact HK.out | apply KeepBut.set_ | apply keep_drewN | apply keep_drew | apply keep_alloc) | exact HK.out)) hk (.inl rfl)); have n1_ := Aside0.mk (hb); have n2_ := Aside0.mk (hi); clear HK; clear HB; clear HI0; have HK := n0_; have HB := n1_; have HI0 := n2_; clear n0_ n1_ n2_; (try clear hb); (try clear hb2); (try clear hk); (try clear hi)) | ((with_reducible refine gate_callee (f := 50) rfl ?_); refine goesL_ (some 50) rfl rfl Try.func50 (by kernel_rfl) rfl #[.pointer (some ⟨g, 0, none⟩), .int .i64 a1, .int .i64 (wrap64 (a2 - 1))] rfl (by (try simp only [List.map_toArray, List.map_cons, List.map_nil]); first | done | rfl | (simp only [List.length_drop, List.length_take]; rfl)) ?_; (with_reducible refine (ih kj3 (by have := HJ3.out; omega) g s0_0 t165 a1 (wrap64 (a2 - 1)) t166 t167 w0 _ ?side1 ?side2 A30.out).mono ?_); (case side1 => repeat (first | (with_reducible first | exact HI0.out | apply IsS67.alloc | apply IsS67.drewN | apply IsS67.drew | apply IsS67.set_1) | exact HI0.out)); (case side2 => repeat (first | (with_reducible first | exact HB.out | apply below_alloc | apply pw_below_drewN | apply below_drew1 | refine below_set ?_ (IsS67.ge HI0.out)) | exact HB.out)); rintro e w35 ⟨rfl, hi, hb, hk⟩; refine ⟨_, rfl, ?_⟩; have n0_ := Aside0.mk (KeepBut.trans (by repeat (first | (with_reducible first | exact HK.out | apply KeepBut.set_ | apply keep_drewN | apply keep_drew | apply keep_alloc) | exact HK.out)) hk (.inl rfl)); have n1_ := Aside0.mk (hb); have n2_ := Aside0.mk (hi); clear HK; clear HB; clear HI0; have HK := n0_; have HB := n1_; have HI0 := n2_; clear n0_ n1_ n2_; (try clear hb); (try clear hb2); (try clear hk); (try clear hi)))
                    go_ret
                    exact ⟨by first | rfl | (simp [errW_none, errW_some] <;> rfl) | (simp [*, errW_none, errW_some] <;> rfl), by repeat (first | (with_reducible first | exact HI0.out | apply IsS67.alloc | apply IsS67.drewN | apply IsS67.drew | apply IsS67.set_1) | exact HI0.out), by repeat (first | (with_reducible first | exact HB.out | apply below_alloc | apply pw_below_drewN | apply below_drew1 | refine below_set ?_ (IsS67.ge HI0.out)) | exact HB.out), by repeat (first | (with_reducible first | exact HK.out | apply KeepBut.set_ | apply keep_drewN | apply keep_drew | apply keep_alloc) | exact HK.out)⟩
                  · rw [if_neg c32] at H
                    exact absurd H (by simp)
                · rw [if_neg c31] at H
                  exact absurd H (by simp)
              · rw [if_neg c29] at H
                exact absurd H (by simp)
            · rw [if_neg c28] at H
              exact absurd H (by simp)
          · rw [if_neg c26] at H
            have c26b0 : (t160 == 1) = false := beq_eq_false_iff_ne.mpr c26
            have c26b1 : (t160 != 1) = true := bne_iff_ne.mpr c26
            by_cases c36 : t160 = 2
            · rw [if_pos c36] at H
              have c36b0 : (t160 == 2) = true := beq_iff_eq.mpr c36
              have c36b1 : (t160 != 2) = false := bne_eq_false_iff_eq.mpr c36
              clear c36
              replace H := Option.bind_eq_some_iff.mp H
              obtain ⟨⟨t168, t169⟩, A370, H⟩ := H
              replace H : (if 1 + t168.size ≤ 9223372036854775807 then (if ((⟨#[40]⟩ : ByteArray) ++ t168).size + 1 ≤ 9223372036854775807 then ((spec_l20Sentence.f kj3 s0_0 t169 a1 (wrap64 (a2 - 1))).bind fun bt170 => (if (((⟨#[40]⟩ : ByteArray) ++ t168) ++ (⟨#[124]⟩ : ByteArray)).size + bt170.1.size ≤ 9223372036854775807 then (if ((((⟨#[40]⟩ : ByteArray) ++ t168) ++ (⟨#[124]⟩ : ByteArray)) ++ bt170.1).size + 1 ≤ 9223372036854775807 then (some (((((⟨#[40]⟩ : ByteArray) ++ t168) ++ (⟨#[124]⟩ : ByteArray)) ++ bt170.1) ++ (⟨#[41]⟩ : ByteArray), bt170.2)) else (none)) else (none))) else (none)) else (none)) = some (r1, r2) := H
              have A37 := Aside0.mk A370
              clear A370
              by_cases c38 : 1 + t168.size ≤ 9223372036854775807
              · rw [if_pos c38] at H
                have c38b0 := eq_true c38
                have c38b1 : decide (1 + t168.size ≤ 9223372036854775807) = true := decide_eq_true c38
                try have c38b2 : (9223372036854775807 < 1 + t168.size) = False := eq_false (Nat.not_lt.2 c38)
                by_cases c39 : ((⟨#[40]⟩ : ByteArray) ++ t168).size + 1 ≤ 9223372036854775807
                · rw [if_pos c39] at H
                  have c39b0 := eq_true c39
                  have c39b1 : decide (((⟨#[40]⟩ : ByteArray) ++ t168).size + 1 ≤ 9223372036854775807) = true := decide_eq_true c39
                  try have c39b2 : (9223372036854775807 < ((⟨#[40]⟩ : ByteArray) ++ t168).size + 1) = False := eq_false (Nat.not_lt.2 c39)
                  try (have c39b3 := c39b2; simp only [ByteArray.size_append, bsz1, bsz0] at c39b3)
                  replace H := Option.bind_eq_some_iff.mp H
                  obtain ⟨⟨t170, t171⟩, A400, H⟩ := H
                  replace H : (if (((⟨#[40]⟩ : ByteArray) ++ t168) ++ (⟨#[124]⟩ : ByteArray)).size + t170.size ≤ 9223372036854775807 then (if ((((⟨#[40]⟩ : ByteArray) ++ t168) ++ (⟨#[124]⟩ : ByteArray)) ++ t170).size + 1 ≤ 9223372036854775807 then (some (((((⟨#[40]⟩ : ByteArray) ++ t168) ++ (⟨#[124]⟩ : ByteArray)) ++ t170) ++ (⟨#[41]⟩ : ByteArray), t171)) else (none)) else (none)) = some (r1, r2) := H
                  have A40 := Aside0.mk A400
                  clear A400
                  by_cases c41 : (((⟨#[40]⟩ : ByteArray) ++ t168) ++ (⟨#[124]⟩ : ByteArray)).size + t170.size ≤ 9223372036854775807
                  · rw [if_pos c41] at H
                    have c41b0 := eq_true c41
                    have c41b1 : decide ((((⟨#[40]⟩ : ByteArray) ++ t168) ++ (⟨#[124]⟩ : ByteArray)).size + t170.size ≤ 9223372036854775807) = true := decide_eq_true c41
                    try have c41b2 : (9223372036854775807 < (((⟨#[40]⟩ : ByteArray) ++ t168) ++ (⟨#[124]⟩ : ByteArray)).size + t170.size) = False := eq_false (Nat.not_lt.2 c41)
                    try (have c41b3 := c41b2; simp only [ByteArray.size_append, bsz1, bsz0] at c41b3)
                    by_cases c42 : ((((⟨#[40]⟩ : ByteArray) ++ t168) ++ (⟨#[124]⟩ : ByteArray)) ++ t170).size + 1 ≤ 9223372036854775807
                    · rw [if_pos c42] at H
                      have c42b0 := eq_true c42
                      have c42b1 : decide (((((⟨#[40]⟩ : ByteArray) ++ t168) ++ (⟨#[124]⟩ : ByteArray)) ++ t170).size + 1 ≤ 9223372036854775807) = true := decide_eq_true c42
                      try have c42b2 : (9223372036854775807 < ((((⟨#[40]⟩ : ByteArray) ++ t168) ++ (⟨#[124]⟩ : ByteArray)) ++ t170).size + 1) = False := eq_false (Nat.not_lt.2 c42)
                      try (have c42b3 := c42b2; simp only [ByteArray.size_append, bsz1, bsz0] at c42b3)
                      simp only [Option.some.injEq, Prod.mk.injEq] at H
                      obtain ⟨rfl, rfl⟩ := H
                      go_wp2_with (first | ((with_reducible refine gate_callee (f := 51) rfl ?_); refine goesL_ (some 28) rfl rfl Try.func51 (by kernel_rfl) rfl #[.pointer (some ⟨g, 0, none⟩), .int .i64 4] rfl (by (try simp only [List.map_toArray, List.map_cons, List.map_nil]); first | done | rfl | (simp only [List.length_drop, List.length_take]; rfl)) ?_; (with_reducible refine (spec_l20Rd_pick.calls kj3 g s0_0 x1001_3 4 t160 t161 w0 _ ?side1 ?side2 A20.out).mono ?_); (case side1 => repeat (first | (with_reducible first | exact HI0.out | apply IsS67.alloc | apply IsS67.drewN | apply IsS67.drew | apply IsS67.set_1) | exact HI0.out)); (case side2 => repeat (first | (with_reducible first | exact HB.out | apply below_alloc | apply pw_below_drewN | apply below_drew1 | refine below_set ?_ (IsS67.ge HI0.out)) | exact HB.out)); rintro e w43 ⟨rfl, hi, hb, hk⟩; refine ⟨_, rfl, ?_⟩; have n0_ := Aside0.mk (KeepBut.trans (by repeat (first | (with_reducible first | exact HK.out | apply KeepBut.set_ | apply keep_drewN | apply keep_drew | apply keep_alloc) | exact HK.out)) hk (.inl rfl)); have n1_ := Aside0.mk (hb); have n2_ := Aside0.mk (hi); clear HK; clear HB; clear HI0; have HK := n0_; have HB := n1_; have HI0 := n2_; clear n0_ n1_ n2_; (try clear hb); (try clear hb2); (try clear hk); (try clear hi)) | ((with_reducible refine gate_callee (f := 50) rfl ?_); refine goesL_ (some 59) rfl rfl Try.func50 (by kernel_rfl) rfl #[.pointer (some ⟨g, 0, none⟩), .int .i64 a1, .int .i64 (wrap64 (a2 - 1))] rfl (by (try simp only [List.map_toArray, List.map_cons, List.map_nil]); first | done | rfl | (simp only [List.length_drop, List.length_take]; rfl)) ?_; (with_reducible refine (ih kj3 (by have := HJ3.out; omega) g s0_0 t161 a1 (wrap64 (a2 - 1)) t168 t169 w0 _ ?side1 ?side2 A37.out).mono ?_); (case side1 => repeat (first | (with_reducible first | exact HI0.out | apply IsS67.alloc | apply IsS67.drewN | apply IsS67.drew | apply IsS67.set_1) | exact HI0.out)); (case side2 => repeat (first | (with_reducible first | exact HB.out | apply below_alloc | apply pw_below_drewN | apply below_drew1 | refine below_set ?_ (IsS67.ge HI0.out)) | exact HB.out)); rintro e w44 ⟨rfl, hi, hb, hk⟩; refine ⟨_, rfl, ?_⟩; have n0_ := Aside0.mk (KeepBut.trans (by repeat (first | (with_reducible first | exact HK.out | apply KeepBut.set_ | apply keep_drewN | apply keep_drew | apply keep_alloc) | exact HK.out)) hk (.inl rfl)); have n1_ := Aside0.mk (hb); have n2_ := Aside0.mk (hi); clear HK; clear HB; clear HI0; have HK := n0_; have HB := n1_; have HI0 := n2_; clear n0_ n1_ n2_; (try clear hb); (try clear hb2); (try clear hk); (try clear hi)) | ((with_reducible refine gate_callee (f := 50) rfl ?_); refine goesL_ (some 66) rfl rfl Try.func50 (by kernel_rfl) rfl #[.pointer (some ⟨g, 0, none⟩), .int .i64 a1, .int .i64 (wrap64 (a2 - 1))] rfl (by (try simp only [List.map_toArray, List.map_cons, List.map_nil]); first | done | rfl | (simp only [List.length_drop, List.length_take]; rfl)) ?_; (with_reducible refine (ih kj3 (by have := HJ3.out; omega) g s0_0 t169 a1 (wrap64 (a2 - 1)) t170 t171 w0 _ ?side1 ?side2 A40.out).mono ?_); (case side1 => repeat (first | (with_reducible first | exact HI0.out | apply IsS67.alloc | apply IsS67.drewN | apply IsS67.drew | apply IsS67.set_1) | exact HI0.out)); (case side2 => repeat (first | (with_reducible first | exact HB.out | apply below_alloc | apply pw_below_drewN | apply below_drew1 | refine below_set ?_ (IsS67.ge HI0.out)) | exact HB.out)); rintro e w45 ⟨rfl, hi, hb, hk⟩; refine ⟨_, rfl, ?_⟩; have n0_ := Aside0.mk (KeepBut.trans (by repeat (first | (with_reducible first | exact HK.out | apply KeepBut.set_ | apply keep_drewN | apply keep_drew | apply keep_alloc) | exact HK.out)) hk (.inl rfl)); have n1_ := Aside0.mk (hb); have n2_ := Aside0.mk (hi); clear HK; clear HB; clear HI0; have HK := n0_; have HB := n1_; have HI0 := n2_; clear n0_ n1_ n2_; (try clear hb); (try clear hb2); (try clear hk); (try clear hi)))
                      go_ret
                      exact ⟨by first | rfl | (simp [errW_none, errW_some] <;> rfl) | (simp [*, errW_none, errW_some] <;> rfl), by repeat (first | (with_reducible first | exact HI0.out | apply IsS67.alloc | apply IsS67.drewN | apply IsS67.drew | apply IsS67.set_1) | exact HI0.out), by repeat (first | (with_reducible first | exact HB.out | apply below_alloc | apply pw_below_drewN | apply below_drew1 | refine below_set ?_ (IsS67.ge HI0.out)) | exact HB.out), by repeat (first | (with_reducible first | exact HK.out | apply KeepBut.set_ | apply keep_drewN | apply keep_drew | apply keep_alloc) | exact HK.out)⟩
                    · rw [if_neg c42] at H
                      exact absurd H (by simp)
                  · rw [if_neg c41] at H
                    exact absurd H (by simp)
                · rw [if_neg c39] at H
                  exact absurd H (by simp)
              · rw [if_neg c38] at H
                exact absurd H (by simp)
            · rw [if_neg c36] at H
              have c36b0 : (t160 == 2) = false := beq_eq_false_iff_ne.mpr c36
              have c36b1 : (t160 != 2) = true := bne_iff_ne.mpr c36
              replace H := Option.bind_eq_some_iff.mp H
              obtain ⟨⟨t172, t173⟩, A460, H⟩ := H
              replace H : (if 1 + t172.size ≤ 9223372036854775807 then (if ((⟨#[40]⟩ : ByteArray) ++ t172).size + 1 ≤ 9223372036854775807 then ((spec_l20Sentence.f kj3 s0_0 t173 a1 (wrap64 (a2 - 1))).bind fun bt174 => (if (((⟨#[40]⟩ : ByteArray) ++ t172) ++ (⟨#[62]⟩ : ByteArray)).size + bt174.1.size ≤ 9223372036854775807 then (if ((((⟨#[40]⟩ : ByteArray) ++ t172) ++ (⟨#[62]⟩ : ByteArray)) ++ bt174.1).size + 1 ≤ 9223372036854775807 then (some (((((⟨#[40]⟩ : ByteArray) ++ t172) ++ (⟨#[62]⟩ : ByteArray)) ++ bt174.1) ++ (⟨#[41]⟩ : ByteArray), bt174.2)) else (none)) else (none))) else (none)) else (none)) = some (r1, r2) := H
              have A46 := Aside0.mk A460
              clear A460
              by_cases c47 : 1 + t172.size ≤ 9223372036854775807
              · rw [if_pos c47] at H
                have c47b0 := eq_true c47
                have c47b1 : decide (1 + t172.size ≤ 9223372036854775807) = true := decide_eq_true c47
                try have c47b2 : (9223372036854775807 < 1 + t172.size) = False := eq_false (Nat.not_lt.2 c47)
                by_cases c48 : ((⟨#[40]⟩ : ByteArray) ++ t172).size + 1 ≤ 9223372036854775807
                · rw [if_pos c48] at H
                  have c48b0 := eq_true c48
                  have c48b1 : decide (((⟨#[40]⟩ : ByteArray) ++ t172).size + 1 ≤ 9223372036854775807) = true := decide_eq_true c48
                  try have c48b2 : (9223372036854775807 < ((⟨#[40]⟩ : ByteArray) ++ t172).size + 1) = False := eq_false (Nat.not_lt.2 c48)
                  try (have c48b3 := c48b2; simp only [ByteArray.size_append, bsz1, bsz0] at c48b3)
                  replace H := Option.bind_eq_some_iff.mp H
                  obtain ⟨⟨t174, t175⟩, A490, H⟩ := H
                  replace H : (if (((⟨#[40]⟩ : ByteArray) ++ t172) ++ (⟨#[62]⟩ : ByteArray)).size + t174.size ≤ 9223372036854775807 then (if ((((⟨#[40]⟩ : ByteArray) ++ t172) ++ (⟨#[62]⟩ : ByteArray)) ++ t174).size + 1 ≤ 9223372036854775807 then (some (((((⟨#[40]⟩ : ByteArray) ++ t172) ++ (⟨#[62]⟩ : ByteArray)) ++ t174) ++ (⟨#[41]⟩ : ByteArray), t175)) else (none)) else (none)) = some (r1, r2) := H
                  have A49 := Aside0.mk A490
                  clear A490
                  by_cases c50 : (((⟨#[40]⟩ : ByteArray) ++ t172) ++ (⟨#[62]⟩ : ByteArray)).size + t174.size ≤ 9223372036854775807
                  · rw [if_pos c50] at H
                    have c50b0 := eq_true c50
                    have c50b1 : decide ((((⟨#[40]⟩ : ByteArray) ++ t172) ++ (⟨#[62]⟩ : ByteArray)).size + t174.size ≤ 9223372036854775807) = true := decide_eq_true c50
                    try have c50b2 : (9223372036854775807 < (((⟨#[40]⟩ : ByteArray) ++ t172) ++ (⟨#[62]⟩ : ByteArray)).size + t174.size) = False := eq_false (Nat.not_lt.2 c50)
                    try (have c50b3 := c50b2; simp only [ByteArray.size_append, bsz1, bsz0] at c50b3)
                    by_cases c51 : ((((⟨#[40]⟩ : ByteArray) ++ t172) ++ (⟨#[62]⟩ : ByteArray)) ++ t174).size + 1 ≤ 9223372036854775807
                    · rw [if_pos c51] at H
                      have c51b0 := eq_true c51
                      have c51b1 : decide (((((⟨#[40]⟩ : ByteArray) ++ t172) ++ (⟨#[62]⟩ : ByteArray)) ++ t174).size + 1 ≤ 9223372036854775807) = true := decide_eq_true c51
                      try have c51b2 : (9223372036854775807 < ((((⟨#[40]⟩ : ByteArray) ++ t172) ++ (⟨#[62]⟩ : ByteArray)) ++ t174).size + 1) = False := eq_false (Nat.not_lt.2 c51)
                      try (have c51b3 := c51b2; simp only [ByteArray.size_append, bsz1, bsz0] at c51b3)
                      simp only [Option.some.injEq, Prod.mk.injEq] at H
                      obtain ⟨rfl, rfl⟩ := H
                      go_wp2_with (first | ((with_reducible refine gate_callee (f := 51) rfl ?_); refine goesL_ (some 28) rfl rfl Try.func51 (by kernel_rfl) rfl #[.pointer (some ⟨g, 0, none⟩), .int .i64 4] rfl (by (try simp only [List.map_toArray, List.map_cons, List.map_nil]); first | done | rfl | (simp only [List.length_drop, List.length_take]; rfl)) ?_; (with_reducible refine (spec_l20Rd_pick.calls kj3 g s0_0 x1001_3 4 t160 t161 w0 _ ?side1 ?side2 A20.out).mono ?_); (case side1 => repeat (first | (with_reducible first | exact HI0.out | apply IsS67.alloc | apply IsS67.drewN | apply IsS67.drew | apply IsS67.set_1) | exact HI0.out)); (case side2 => repeat (first | (with_reducible first | exact HB.out | apply below_alloc | apply pw_below_drewN | apply below_drew1 | refine below_set ?_ (IsS67.ge HI0.out)) | exact HB.out)); rintro e w52 ⟨rfl, hi, hb, hk⟩; refine ⟨_, rfl, ?_⟩; have n0_ := Aside0.mk (KeepBut.trans (by repeat (first | (with_reducible first | exact HK.out | apply KeepBut.set_ | apply keep_drewN | apply keep_drew | apply keep_alloc) | exact HK.out)) hk (.inl rfl)); have n1_ := Aside0.mk (hb); have n2_ := Aside0.mk (hi); clear HK; clear HB; clear HI0; have HK := n0_; have HB := n1_; have HI0 := n2_; clear n0_ n1_ n2_; (try clear hb); (try clear hb2); (try clear hk); (try clear hi)) | ((with_reducible refine gate_callee (f := 50) rfl ?_); refine goesL_ (some 73) rfl rfl Try.func50 (by kernel_rfl) rfl #[.pointer (some ⟨g, 0, none⟩), .int .i64 a1, .int .i64 (wrap64 (a2 - 1))] rfl (by (try simp only [List.map_toArray, List.map_cons, List.map_nil]); first | done | rfl | (simp only [List.length_drop, List.length_take]; rfl)) ?_; (with_reducible refine (ih kj3 (by have := HJ3.out; omega) g s0_0 t161 a1 (wrap64 (a2 - 1)) t172 t173 w0 _ ?side1 ?side2 A46.out).mono ?_); (case side1 => repeat (first | (with_reducible first | exact HI0.out | apply IsS67.alloc | apply IsS67.drewN | apply IsS67.drew | apply IsS67.set_1) | exact HI0.out)); (case side2 => repeat (first | (with_reducible first | exact HB.out | apply below_alloc | apply pw_below_drewN | apply below_drew1 | refine below_set ?_ (IsS67.ge HI0.out)) | exact HB.out)); rintro e w53 ⟨rfl, hi, hb, hk⟩; refine ⟨_, rfl, ?_⟩; have n0_ := Aside0.mk (KeepBut.trans (by repeat (first | (with_reducible first | exact HK.out | apply KeepBut.set_ | apply keep_drewN | apply keep_drew | apply keep_alloc) | exact HK.out)) hk (.inl rfl)); have n1_ := Aside0.mk (hb); have n2_ := Aside0.mk (hi); clear HK; clear HB; clear HI0; have HK := n0_; have HB := n1_; have HI0 := n2_; clear n0_ n1_ n2_; (try clear hb); (try clear hb2); (try clear hk); (try clear hi)) | ((with_reducible refine gate_callee (f := 50) rfl ?_); refine goesL_ (some 80) rfl rfl Try.func50 (by kernel_rfl) rfl #[.pointer (some ⟨g, 0, none⟩), .int .i64 a1, .int .i64 (wrap64 (a2 - 1))] rfl (by (try simp only [List.map_toArray, List.map_cons, List.map_nil]); first | done | rfl | (simp only [List.length_drop, List.length_take]; rfl)) ?_; (with_reducible refine (ih kj3 (by have := HJ3.out; omega) g s0_0 t173 a1 (wrap64 (a2 - 1)) t174 t175 w0 _ ?side1 ?side2 A49.out).mono ?_); (case side1 => repeat (first | (with_reducible first | exact HI0.out | apply IsS67.alloc | apply IsS67.drewN | apply IsS67.drew | apply IsS67.set_1) | exact HI0.out)); (case side2 => repeat (first | (with_reducible first | exact HB.out | apply below_alloc | apply pw_below_drewN | apply below_drew1 | refine below_set ?_ (IsS67.ge HI0.out)) | exact HB.out)); rintro e w54 ⟨rfl, hi, hb, hk⟩; refine ⟨_, rfl, ?_⟩; have n0_ := Aside0.mk (KeepBut.trans (by repeat (first | (with_reducible first | exact HK.out | apply KeepBut.set_ | apply keep_drewN | apply keep_drew | apply keep_alloc) | exact HK.out)) hk (.inl rfl)); have n1_ := Aside0.mk (hb); have n2_ := Aside0.mk (hi); clear HK; clear HB; clear HI0; have HK := n0_; have HB := n1_; have HI0 := n2_; clear n0_ n1_ n2_; (try clear hb); (try clear hb2); (try clear hk); (try clear hi)))
                      go_ret
                      exact ⟨by first | rfl | (simp [errW_none, errW_some] <;> rfl) | (simp [*, errW_none, errW_some] <;> rfl), by repeat (first | (with_reducible first | exact HI0.out | apply IsS67.alloc | apply IsS67.drewN | apply IsS67.drew | apply IsS67.set_1) | exact HI0.out), by repeat (first | (with_reducible first | exact HB.out | apply below_alloc | apply pw_below_drewN | apply below_drew1 | refine below_set ?_ (IsS67.ge HI0.out)) | exact HB.out), by repeat (first | (with_reducible first | exact HK.out | apply KeepBut.set_ | apply keep_drewN | apply keep_drew | apply keep_alloc) | exact HK.out)⟩
                    · rw [if_neg c51] at H
                      exact absurd H (by simp)
                  · rw [if_neg c50] at H
                    exact absurd H (by simp)
                · rw [if_neg c48] at H
                  exact absurd H (by simp)
              · rw [if_neg c47] at H
                exact absurd H (by simp)

/-! ### spec_DrawHoldsIn: function 25 -/
def spec_DrawHoldsIn.f (k : Nat) (l0 : List Int) : Option (Int × ByteArray) := (spec_l20Open.f l0).bind fun bt176 => ((spec_l20Things.f k bt176.1 bt176.2 14).bind fun bt179 => ((spec_l20Sentence.f k bt176.1 bt179.2 bt179.1 3).bind fun bt181 => ((spec_l20Rd_odd.f k bt176.1 bt181.2 4).bind fun bt183 => (if bt183.1 = true then ((spec_l20Rd_pick.f k bt176.1 bt183.2 (bt181.1.size : Int)).bind fun bt185 => (if 0 ≤ bt185.1 then (if bt185.1 ≤ (bt181.1.size : Int) then ((some (([(⟨#[]⟩ : ByteArray), (⟨#[99]⟩ : ByteArray), (⟨#[40]⟩ : ByteArray), (⟨#[38]⟩ : ByteArray), (⟨#[33]⟩ : ByteArray)] : List ByteArray) : List ByteArray)).bind fun y187 => ((spec_l20Rd_pick.f k bt176.1 bt185.2 5).bind fun bt190 => (if 0 ≤ bt190.1 then (if bt190.1 < (y187.length : Int) then (if (bt181.1.extract 0 (bt185.1 : Int).toNat).size + (rdOf ByteArray.empty y187 bt190.1).size ≤ 9223372036854775807 then (if 0 ≤ (wrap64 (bt185.1 + 1)) then (if (wrap64 (bt185.1 + 1)) ≤ (bt181.1.size : Int) then (if ((bt181.1.extract 0 (bt185.1 : Int).toNat) ++ (rdOf ByteArray.empty y187 bt190.1)).size + (bt181.1.extract ((wrap64 (bt185.1 + 1)) : Int).toNat bt181.1.size).size ≤ 9223372036854775807 then (some (bt179.1, ((bt181.1.extract 0 (bt185.1 : Int).toNat) ++ (rdOf ByteArray.empty y187 bt190.1)) ++ (bt181.1.extract ((wrap64 (bt185.1 + 1)) : Int).toNat bt181.1.size))) else (none)) else (none)) else (none)) else (none)) else (none)) else (none)))) else (none)) else (none))) else (some (bt179.1, bt181.1))))))
theorem spec_DrawHoldsIn.mono : ∀ a0 k, LeO (spec_DrawHoldsIn.f k a0) (spec_DrawHoldsIn.f (k + 1) a0) := by
  intro a0 k
  unfold spec_DrawHoldsIn.f
  repeat' first
      | (with_reducible exact spec_l20Rd_odd.mono _ _ _ _)
      | (with_reducible exact spec_l20Rd_pick.mono _ _ _ _)
      | (with_reducible exact spec_l20Sentence.mono _ _ _ _ _)
      | (with_reducible exact spec_l20Things.mono _ _ _ _)
      | (with_reducible exact LeO.refl _)
      | (with_reducible exact LeO.none _)
      | (with_reducible refine LeO.ite ?_ ?_)
      | (with_reducible refine LeO.bind ?_ (fun _ => ?_))
      | exact spec_l20Rd_odd.mono _ _ _ _
      | exact spec_l20Rd_pick.mono _ _ _ _
      | exact spec_l20Sentence.mono _ _ _ _ _
      | exact spec_l20Things.mono _ _ _ _
      | exact LeO.none _
      | refine LeO.ite ?_ ?_
      | refine LeO.bind ?_ (fun _ => ?_)
def spec_DrawHoldsIn.T6 : Bool × List (List Nat × List Nat) := (true, [([], []), ([], []), ([], []), ([1, 2], [1, 2]), ([], []), ([], []), ([5], [5]), ([4, 6], [4, 6]), ([7], [7]), ([3, 8], [3, 8]), ([], []), ([], []), ([11], [11]), ([10, 12], [10, 12]), ([9, 13], [9, 13]), ([0, 6, 0], [0]), ([14, 15, 0, 1, 2, 3, 4, 5, 6, 7, 8, 9, 10, 11, 12, 13, 14, 15], [14])])
def spec_DrawHoldsIn.B6 : List Nat := [0, 0, 0, 6, 0, 0, 32, 112, 240, 510, 0, 0, 2048, 7168, 16382, 97, 65535]
theorem spec_DrawHoldsIn.tab6 : rtab .any (opsOf Try.f25 6) = spec_DrawHoldsIn.T6 := by kernel_rfl
theorem spec_DrawHoldsIn.bits6 : waitsOk spec_DrawHoldsIn.T6.2 spec_DrawHoldsIn.B6 = true := by kernel_rfl
set_option maxHeartbeats 8000000 in
set_option maxRecDepth 100000 in
theorem spec_DrawHoldsIn.calls (k : Nat) (A0 : Option Addr) (c0 : Nat) (l0 : List Int) (r1 : Int) (r2 : ByteArray) (w : World) (hr0 : Kd.C (Kd.int .u8) w A0 l0.length l0) (hc0 : l0.length ≤ c0) (h : spec_DrawHoldsIn.f k l0 = some (r1, r2)) :
    Calls Try.prog 25 #[.slice A0 l0.length c0] w fun e w' => e = .returned (.tuple #[.int .i64 r1, .string r2]) ∧ Below w.heap.size w w' := by
  have HR0 := Aside0.mk hr0
  have HC0 := Aside0.mk hc0
  clear hr0 hc0
  have HB := Aside0.mk (Below.refl w.heap.size w)
  have H : ((spec_l20Open.f l0).bind fun bt176 => ((spec_l20Things.f k bt176.1 bt176.2 14).bind fun bt179 => ((spec_l20Sentence.f k bt176.1 bt179.2 bt179.1 3).bind fun bt181 => ((spec_l20Rd_odd.f k bt176.1 bt181.2 4).bind fun bt183 => (if bt183.1 = true then ((spec_l20Rd_pick.f k bt176.1 bt183.2 (bt181.1.size : Int)).bind fun bt185 => (if 0 ≤ bt185.1 then (if bt185.1 ≤ (bt181.1.size : Int) then ((some (([(⟨#[]⟩ : ByteArray), (⟨#[99]⟩ : ByteArray), (⟨#[40]⟩ : ByteArray), (⟨#[38]⟩ : ByteArray), (⟨#[33]⟩ : ByteArray)] : List ByteArray) : List ByteArray)).bind fun y187 => ((spec_l20Rd_pick.f k bt176.1 bt185.2 5).bind fun bt190 => (if 0 ≤ bt190.1 then (if bt190.1 < (y187.length : Int) then (if (bt181.1.extract 0 (bt185.1 : Int).toNat).size + (rdOf ByteArray.empty y187 bt190.1).size ≤ 9223372036854775807 then (if 0 ≤ (wrap64 (bt185.1 + 1)) then (if (wrap64 (bt185.1 + 1)) ≤ (bt181.1.size : Int) then (if ((bt181.1.extract 0 (bt185.1 : Int).toNat) ++ (rdOf ByteArray.empty y187 bt190.1)).size + (bt181.1.extract ((wrap64 (bt185.1 + 1)) : Int).toNat bt181.1.size).size ≤ 9223372036854775807 then (some (bt179.1, ((bt181.1.extract 0 (bt185.1 : Int).toNat) ++ (rdOf ByteArray.empty y187 bt190.1)) ++ (bt181.1.extract ((wrap64 (bt185.1 + 1)) : Int).toNat bt181.1.size))) else (none)) else (none)) else (none)) else (none)) else (none)) else (none)))) else (none)) else (none))) else (some (bt179.1, bt181.1))))))) = some (r1, r2) := h
  clear h
  replace H := Option.bind_eq_some_iff.mp H
  obtain ⟨⟨t176, t177⟩, A20, H⟩ := H
  replace H : ((spec_l20Things.f k t176 t177 14).bind fun bt179 => ((spec_l20Sentence.f k t176 bt179.2 bt179.1 3).bind fun bt181 => ((spec_l20Rd_odd.f k t176 bt181.2 4).bind fun bt183 => (if bt183.1 = true then ((spec_l20Rd_pick.f k t176 bt183.2 (bt181.1.size : Int)).bind fun bt185 => (if 0 ≤ bt185.1 then (if bt185.1 ≤ (bt181.1.size : Int) then ((some (([(⟨#[]⟩ : ByteArray), (⟨#[99]⟩ : ByteArray), (⟨#[40]⟩ : ByteArray), (⟨#[38]⟩ : ByteArray), (⟨#[33]⟩ : ByteArray)] : List ByteArray) : List ByteArray)).bind fun y187 => ((spec_l20Rd_pick.f k t176 bt185.2 5).bind fun bt190 => (if 0 ≤ bt190.1 then (if bt190.1 < (y187.length : Int) then (if (bt181.1.extract 0 (bt185.1 : Int).toNat).size + (rdOf ByteArray.empty y187 bt190.1).size ≤ 9223372036854775807 then (if 0 ≤ (wrap64 (bt185.1 + 1)) then (if (wrap64 (bt185.1 + 1)) ≤ (bt181.1.size : Int) then (if ((bt181.1.extract 0 (bt185.1 : Int).toNat) ++ (rdOf ByteArray.empty y187 bt190.1)).size + (bt181.1.extract ((wrap64 (bt185.1 + 1)) : Int).toNat bt181.1.size).size ≤ 9223372036854775807 then (some (bt179.1, ((bt181.1.extract 0 (bt185.1 : Int).toNat) ++ (rdOf ByteArray.empty y187 bt190.1)) ++ (bt181.1.extract ((wrap64 (bt185.1 + 1)) : Int).toNat bt181.1.size))) else (none)) else (none)) else (none)) else (none)) else (none)) else (none)))) else (none)) else (none))) else (some (bt179.1, bt181.1)))))) = some (r1, r2) := H
  have A2 := Aside0.mk A20
  clear A20
  replace H := Option.bind_eq_some_iff.mp H
  obtain ⟨⟨t179, t180⟩, A30, H⟩ := H
  replace H : ((spec_l20Sentence.f k t176 t180 t179 3).bind fun bt181 => ((spec_l20Rd_odd.f k t176 bt181.2 4).bind fun bt183 => (if bt183.1 = true then ((spec_l20Rd_pick.f k t176 bt183.2 (bt181.1.size : Int)).bind fun bt185 => (if 0 ≤ bt185.1 then (if bt185.1 ≤ (bt181.1.size : Int) then ((some (([(⟨#[]⟩ : ByteArray), (⟨#[99]⟩ : ByteArray), (⟨#[40]⟩ : ByteArray), (⟨#[38]⟩ : ByteArray), (⟨#[33]⟩ : ByteArray)] : List ByteArray) : List ByteArray)).bind fun y187 => ((spec_l20Rd_pick.f k t176 bt185.2 5).bind fun bt190 => (if 0 ≤ bt190.1 then (if bt190.1 < (y187.length : Int) then (if (bt181.1.extract 0 (bt185.1 : Int).toNat).size + (rdOf ByteArray.empty y187 bt190.1).size ≤ 9223372036854775807 then (if 0 ≤ (wrap64 (bt185.1 + 1)) then (if (wrap64 (bt185.1 + 1)) ≤ (bt181.1.size : Int) then (if ((bt181.1.extract 0 (bt185.1 : Int).toNat) ++ (rdOf ByteArray.empty y187 bt190.1)).size + (bt181.1.extract ((wrap64 (bt185.1 + 1)) : Int).toNat bt181.1.size).size ≤ 9223372036854775807 then (some (t179, ((bt181.1.extract 0 (bt185.1 : Int).toNat) ++ (rdOf ByteArray.empty y187 bt190.1)) ++ (bt181.1.extract ((wrap64 (bt185.1 + 1)) : Int).toNat bt181.1.size))) else (none)) else (none)) else (none)) else (none)) else (none)) else (none)))) else (none)) else (none))) else (some (t179, bt181.1))))) = some (r1, r2) := H
  have A3 := Aside0.mk A30
  clear A30
  replace H := Option.bind_eq_some_iff.mp H
  obtain ⟨⟨t181, t182⟩, A40, H⟩ := H
  replace H : ((spec_l20Rd_odd.f k t176 t182 4).bind fun bt183 => (if bt183.1 = true then ((spec_l20Rd_pick.f k t176 bt183.2 (t181.size : Int)).bind fun bt185 => (if 0 ≤ bt185.1 then (if bt185.1 ≤ (t181.size : Int) then ((some (([(⟨#[]⟩ : ByteArray), (⟨#[99]⟩ : ByteArray), (⟨#[40]⟩ : ByteArray), (⟨#[38]⟩ : ByteArray), (⟨#[33]⟩ : ByteArray)] : List ByteArray) : List ByteArray)).bind fun y187 => ((spec_l20Rd_pick.f k t176 bt185.2 5).bind fun bt190 => (if 0 ≤ bt190.1 then (if bt190.1 < (y187.length : Int) then (if (t181.extract 0 (bt185.1 : Int).toNat).size + (rdOf ByteArray.empty y187 bt190.1).size ≤ 9223372036854775807 then (if 0 ≤ (wrap64 (bt185.1 + 1)) then (if (wrap64 (bt185.1 + 1)) ≤ (t181.size : Int) then (if ((t181.extract 0 (bt185.1 : Int).toNat) ++ (rdOf ByteArray.empty y187 bt190.1)).size + (t181.extract ((wrap64 (bt185.1 + 1)) : Int).toNat t181.size).size ≤ 9223372036854775807 then (some (t179, ((t181.extract 0 (bt185.1 : Int).toNat) ++ (rdOf ByteArray.empty y187 bt190.1)) ++ (t181.extract ((wrap64 (bt185.1 + 1)) : Int).toNat t181.size))) else (none)) else (none)) else (none)) else (none)) else (none)) else (none)))) else (none)) else (none))) else (some (t179, t181)))) = some (r1, r2) := H
  have A4 := Aside0.mk A40
  clear A40
  replace H := Option.bind_eq_some_iff.mp H
  obtain ⟨⟨t183, t184⟩, A50, H⟩ := H
  replace H : (if t183 = true then ((spec_l20Rd_pick.f k t176 t184 (t181.size : Int)).bind fun bt185 => (if 0 ≤ bt185.1 then (if bt185.1 ≤ (t181.size : Int) then ((some (([(⟨#[]⟩ : ByteArray), (⟨#[99]⟩ : ByteArray), (⟨#[40]⟩ : ByteArray), (⟨#[38]⟩ : ByteArray), (⟨#[33]⟩ : ByteArray)] : List ByteArray) : List ByteArray)).bind fun y187 => ((spec_l20Rd_pick.f k t176 bt185.2 5).bind fun bt190 => (if 0 ≤ bt190.1 then (if bt190.1 < (y187.length : Int) then (if (t181.extract 0 (bt185.1 : Int).toNat).size + (rdOf ByteArray.empty y187 bt190.1).size ≤ 9223372036854775807 then (if 0 ≤ (wrap64 (bt185.1 + 1)) then (if (wrap64 (bt185.1 + 1)) ≤ (t181.size : Int) then (if ((t181.extract 0 (bt185.1 : Int).toNat) ++ (rdOf ByteArray.empty y187 bt190.1)).size + (t181.extract ((wrap64 (bt185.1 + 1)) : Int).toNat t181.size).size ≤ 9223372036854775807 then (some (t179, ((t181.extract 0 (bt185.1 : Int).toNat) ++ (rdOf ByteArray.empty y187 bt190.1)) ++ (t181.extract ((wrap64 (bt185.1 + 1)) : Int).toNat t181.size))) else (none)) else (none)) else (none)) else (none)) else (none)) else (none)))) else (none)) else (none))) else (some (t179, t181))) = some (r1, r2) := H
  have A5 := Aside0.mk A50
  clear A50
  by_cases c6 : t183 = true
  · subst c6
    have H1 : ((spec_l20Rd_pick.f k t176 t184 (t181.size : Int)).bind fun bt185 => (if 0 ≤ bt185.1 then (if bt185.1 ≤ (t181.size : Int) then ((some (([(⟨#[]⟩ : ByteArray), (⟨#[99]⟩ : ByteArray), (⟨#[40]⟩ : ByteArray), (⟨#[38]⟩ : ByteArray), (⟨#[33]⟩ : ByteArray)] : List ByteArray) : List ByteArray)).bind fun y187 => ((spec_l20Rd_pick.f k t176 bt185.2 5).bind fun bt190 => (if 0 ≤ bt190.1 then (if bt190.1 < (y187.length : Int) then (if (t181.extract 0 (bt185.1 : Int).toNat).size + (rdOf ByteArray.empty y187 bt190.1).size ≤ 9223372036854775807 then (if 0 ≤ (wrap64 (bt185.1 + 1)) then (if (wrap64 (bt185.1 + 1)) ≤ (t181.size : Int) then (if ((t181.extract 0 (bt185.1 : Int).toNat) ++ (rdOf ByteArray.empty y187 bt190.1)).size + (t181.extract ((wrap64 (bt185.1 + 1)) : Int).toNat t181.size).size ≤ 9223372036854775807 then (some (t179, ((t181.extract 0 (bt185.1 : Int).toNat) ++ (rdOf ByteArray.empty y187 bt190.1)) ++ (t181.extract ((wrap64 (bt185.1 + 1)) : Int).toNat t181.size))) else (none)) else (none)) else (none)) else (none)) else (none)) else (none)))) else (none)) else (none))) = some (r1, r2) := by rw [if_pos rfl] at H; exact H
    clear H
    have H := H1
    clear H1
    replace H := Option.bind_eq_some_iff.mp H
    obtain ⟨⟨t185, t186⟩, A70, H⟩ := H
    replace H : (if 0 ≤ t185 then (if t185 ≤ (t181.size : Int) then ((some (([(⟨#[]⟩ : ByteArray), (⟨#[99]⟩ : ByteArray), (⟨#[40]⟩ : ByteArray), (⟨#[38]⟩ : ByteArray), (⟨#[33]⟩ : ByteArray)] : List ByteArray) : List ByteArray)).bind fun y187 => ((spec_l20Rd_pick.f k t176 t186 5).bind fun bt190 => (if 0 ≤ bt190.1 then (if bt190.1 < (y187.length : Int) then (if (t181.extract 0 (t185 : Int).toNat).size + (rdOf ByteArray.empty y187 bt190.1).size ≤ 9223372036854775807 then (if 0 ≤ (wrap64 (t185 + 1)) then (if (wrap64 (t185 + 1)) ≤ (t181.size : Int) then (if ((t181.extract 0 (t185 : Int).toNat) ++ (rdOf ByteArray.empty y187 bt190.1)).size + (t181.extract ((wrap64 (t185 + 1)) : Int).toNat t181.size).size ≤ 9223372036854775807 then (some (t179, ((t181.extract 0 (t185 : Int).toNat) ++ (rdOf ByteArray.empty y187 bt190.1)) ++ (t181.extract ((wrap64 (t185 + 1)) : Int).toNat t181.size))) else (none)) else (none)) else (none)) else (none)) else (none)) else (none)))) else (none)) else (none)) = some (r1, r2) := H
    have A7 := Aside0.mk A70
    clear A70
    by_cases c8 : 0 ≤ t185
    · rw [if_pos c8] at H
      have c8b0 := eq_true c8
      have c8b1 : decide (0 ≤ t185) = true := decide_eq_true c8
      clear c8
      by_cases c9 : t185 ≤ (t181.size : Int)
      · rw [if_pos c9] at H
        have c9b0 := eq_true c9
        have c9b1 : decide (t185 ≤ (t181.size : Int)) = true := decide_eq_true c9
        clear c9
        obtain ⟨y187, hy187⟩ : ∃ y_ : List ByteArray, y_ = (([(⟨#[]⟩ : ByteArray), (⟨#[99]⟩ : ByteArray), (⟨#[40]⟩ : ByteArray), (⟨#[38]⟩ : ByteArray), (⟨#[33]⟩ : ByteArray)] : List ByteArray)) := ⟨_, rfl⟩
        replace H : ((spec_l20Rd_pick.f k t176 t186 5).bind fun bt190 => (if 0 ≤ bt190.1 then (if bt190.1 < (y187.length : Int) then (if (t181.extract 0 (t185 : Int).toNat).size + (rdOf ByteArray.empty y187 bt190.1).size ≤ 9223372036854775807 then (if 0 ≤ (wrap64 (t185 + 1)) then (if (wrap64 (t185 + 1)) ≤ (t181.size : Int) then (if ((t181.extract 0 (t185 : Int).toNat) ++ (rdOf ByteArray.empty y187 bt190.1)).size + (t181.extract ((wrap64 (t185 + 1)) : Int).toNat t181.size).size ≤ 9223372036854775807 then (some (t179, ((t181.extract 0 (t185 : Int).toNat) ++ (rdOf ByteArray.empty y187 bt190.1)) ++ (t181.extract ((wrap64 (t185 + 1)) : Int).toNat t181.size))) else (none)) else (none)) else (none)) else (none)) else (none)) else (none))) = some (r1, r2) := by first | (rw [hy187]; with_reducible exact H) | (have H2_ := (Option.bind_some _ _).symm.trans H; rw [hy187]; with_reducible exact H2_) | (have H2_ := (Option.bind_some _ _).symm.trans H; with_reducible exact H2_) | with_reducible exact H | (rw [hy187]; exact H) | exact H
        have Ny187 := Aside0.mk hy187
        clear hy187
        replace H := Option.bind_eq_some_iff.mp H
        obtain ⟨⟨t190, t191⟩, A100, H⟩ := H
        replace H : (if 0 ≤ t190 then (if t190 < (y187.length : Int) then (if (t181.extract 0 (t185 : Int).toNat).size + (rdOf ByteArray.empty y187 t190).size ≤ 9223372036854775807 then (if 0 ≤ (wrap64 (t185 + 1)) then (if (wrap64 (t185 + 1)) ≤ (t181.size : Int) then (if ((t181.extract 0 (t185 : Int).toNat) ++ (rdOf ByteArray.empty y187 t190)).size + (t181.extract ((wrap64 (t185 + 1)) : Int).toNat t181.size).size ≤ 9223372036854775807 then (some (t179, ((t181.extract 0 (t185 : Int).toNat) ++ (rdOf ByteArray.empty y187 t190)) ++ (t181.extract ((wrap64 (t185 + 1)) : Int).toNat t181.size))) else (none)) else (none)) else (none)) else (none)) else (none)) else (none)) = some (r1, r2) := H
        have A10 := Aside0.mk A100
        clear A100
        by_cases c11 : 0 ≤ t190
        · rw [if_pos c11] at H
          have c11b0 : decide (0 ≤ t190) = true := decide_eq_true c11
          clear c11
          by_cases c12 : t190 < (y187.length : Int)
          · rw [if_pos c12] at H
            have c12b0 : decide (t190 < (y187.length : Int)) = true := decide_eq_true c12
            clear c12
            by_cases c13 : (t181.extract 0 (t185 : Int).toNat).size + (rdOf ByteArray.empty y187 t190).size ≤ 9223372036854775807
            · rw [if_pos c13] at H
              have c13b0 := eq_true c13
              have c13b1 : decide ((t181.extract 0 (t185 : Int).toNat).size + (rdOf ByteArray.empty y187 t190).size ≤ 9223372036854775807) = true := decide_eq_true c13
              try have c13b2 : (9223372036854775807 < (t181.extract 0 (t185 : Int).toNat).size + (rdOf ByteArray.empty y187 t190).size) = False := eq_false (Nat.not_lt.2 c13)
              try (have c13b3 := c13b2; simp only [ByteArray.size_append, bsz1, bsz0] at c13b3)
              obtain ⟨ji14, hji14⟩ : ∃ j_ : Int, (wrap64 (t185 + 1)) = j_ := ⟨_, rfl⟩
              replace H : (if 0 ≤ (ji14) then (if (ji14) ≤ (t181.size : Int) then (if ((t181.extract 0 (t185 : Int).toNat) ++ (rdOf ByteArray.empty y187 t190)).size + (t181.extract ((ji14) : Int).toNat t181.size).size ≤ 9223372036854775807 then (some (t179, ((t181.extract 0 (t185 : Int).toNat) ++ (rdOf ByteArray.empty y187 t190)) ++ (t181.extract ((ji14) : Int).toNat t181.size))) else (none)) else (none)) else (none)) = some (r1, r2) := by first | (rw [hji14] at H; exact H) | (simp only [hji14] at H ⊢; exact H)
              (try rw [hji14] at A2)
              (try rw [hji14] at A3)
              (try rw [hji14] at A4)
              (try rw [hji14] at A5)
              (try rw [hji14] at A7)
              (try rw [hji14] at A10)
              have hji14w : (IntKind.i64.wrap (t185 + 1)) = ji14 := (i64_w _).trans hji14
              by_cases c15 : 0 ≤ (ji14)
              · rw [if_pos c15] at H
                have c15b0 := eq_true c15
                have c15b1 : decide (0 ≤ (ji14)) = true := decide_eq_true c15
                clear c15
                by_cases c16 : (ji14) ≤ (t181.size : Int)
                · rw [if_pos c16] at H
                  have c16b0 := eq_true c16
                  have c16b1 : decide ((ji14) ≤ (t181.size : Int)) = true := decide_eq_true c16
                  clear c16
                  by_cases c17 : ((t181.extract 0 (t185 : Int).toNat) ++ (rdOf ByteArray.empty y187 t190)).size + (t181.extract ((ji14) : Int).toNat t181.size).size ≤ 9223372036854775807
                  · rw [if_pos c17] at H
                    have c17b0 := eq_true c17
                    have c17b1 : decide (((t181.extract 0 (t185 : Int).toNat) ++ (rdOf ByteArray.empty y187 t190)).size + (t181.extract ((ji14) : Int).toNat t181.size).size ≤ 9223372036854775807) = true := decide_eq_true c17
                    try have c17b2 : (9223372036854775807 < ((t181.extract 0 (t185 : Int).toNat) ++ (rdOf ByteArray.empty y187 t190)).size + (t181.extract ((ji14) : Int).toNat t181.size).size) = False := eq_false (Nat.not_lt.2 c17)
                    try (have c17b3 := c17b2; simp only [ByteArray.size_append, bsz1, bsz0] at c17b3)
                    simp only [Option.some.injEq, Prod.mk.injEq] at H
                    obtain ⟨rfl, rfl⟩ := H
                    go_enter Try.func25, Try.ntmps25
                    try go_wp2_with (first | ((with_reducible refine gate_callee (f := 39) rfl ?_); refine goesL_ (some 9) rfl rfl Try.func39 (by kernel_rfl) rfl #[.slice A0 l0.length c0] rfl (by (try simp only [List.map_toArray, List.map_cons, List.map_nil]); first | done | rfl | (simp only [List.length_drop, List.length_take]; rfl)) ?_; (with_reducible refine (spec_l20Open.calls _ _ l0 t176 t177 w _ ?side1 ?side2 ?side3 A2.out).mono ?_); (case side1 => repeat (first | (with_reducible first | exact HB.out | apply below_alloc | apply pw_below_drewN | apply below_drew1) | exact HB.out)); (case side2 => exact HR0.out); (case side3 => exact HC0.out); rintro e w18 ⟨g178, rfl, hi, hb, hb2⟩; refine ⟨_, rfl, ?_⟩; have n0_ := Aside0.mk (hb); have n1_ := Aside0.mk (hi); clear HB; have HB := n0_; have HI178 := n1_; clear n0_ n1_; (try clear hb); (try clear hb2); (try clear hk); (try clear hi)) | ((with_reducible refine gate_callee (f := 40) rfl ?_); refine goesL_ (some 11) rfl rfl Try.func40 (by kernel_rfl) rfl #[.pointer (some ⟨g178, 0, none⟩), .int .i64 14] rfl (by (try simp only [List.map_toArray, List.map_cons, List.map_nil]); first | done | rfl | (simp only [List.length_drop, List.length_take]; rfl)) ?_; (with_reducible refine (spec_l20Things.calls k g178 t176 t177 14 t179 t180 w _ ?side1 ?side2 A3.out).mono ?_); (case side1 => repeat (first | (with_reducible first | exact HI178.out | apply IsS67.alloc | apply IsS67.drewN | apply IsS67.drew | apply IsS67.set_1) | exact HI178.out)); (case side2 => repeat (first | (with_reducible first | exact HB.out | apply below_alloc | apply pw_below_drewN | apply below_drew1 | refine below_set ?_ (IsS67.ge HI178.out)) | exact HB.out)); rintro e w19 ⟨rfl, hi, hb, hk⟩; refine ⟨_, rfl, ?_⟩; have n0_ := Aside0.mk (hb); have n1_ := Aside0.mk (hi); clear HB; clear HI178; have HB := n0_; have HI178 := n1_; clear n0_ n1_; (try clear hb); (try clear hb2); (try clear hk); (try clear hi)) | ((with_reducible refine gate_callee (f := 50) rfl ?_); refine goesL_ (some 14) rfl rfl Try.func50 (by kernel_rfl) rfl #[.pointer (some ⟨g178, 0, none⟩), .int .i64 t179, .int .i64 3] rfl (by (try simp only [List.map_toArray, List.map_cons, List.map_nil]); first | done | rfl | (simp only [List.length_drop, List.length_take]; rfl)) ?_; (with_reducible refine (spec_l20Sentence.calls k g178 t176 t180 t179 3 t181 t182 w _ ?side1 ?side2 A4.out).mono ?_); (case side1 => repeat (first | (with_reducible first | exact HI178.out | apply IsS67.alloc | apply IsS67.drewN | apply IsS67.drew | apply IsS67.set_1) | exact HI178.out)); (case side2 => repeat (first | (with_reducible first | exact HB.out | apply below_alloc | apply pw_below_drewN | apply below_drew1 | refine below_set ?_ (IsS67.ge HI178.out)) | exact HB.out)); rintro e w20 ⟨rfl, hi, hb, hk⟩; refine ⟨_, rfl, ?_⟩; have n0_ := Aside0.mk (hb); have n1_ := Aside0.mk (hi); clear HB; clear HI178; have HB := n0_; have HI178 := n1_; clear n0_ n1_; (try clear hb); (try clear hb2); (try clear hk); (try clear hi)) | ((with_reducible refine gate_callee (f := 55) rfl ?_); refine goesL_ (some 16) rfl rfl Try.func55 (by kernel_rfl) rfl #[.pointer (some ⟨g178, 0, none⟩), .int .i64 4] rfl (by (try simp only [List.map_toArray, List.map_cons, List.map_nil]); first | done | rfl | (simp only [List.length_drop, List.length_take]; rfl)) ?_; (with_reducible refine (spec_l20Rd_odd.calls k g178 t176 t182 4 true t184 w _ ?side1 ?side2 A5.out).mono ?_); (case side1 => repeat (first | (with_reducible first | exact HI178.out | apply IsS67.alloc | apply IsS67.drewN | apply IsS67.drew | apply IsS67.set_1) | exact HI178.out)); (case side2 => repeat (first | (with_reducible first | exact HB.out | apply below_alloc | apply pw_below_drewN | apply below_drew1 | refine below_set ?_ (IsS67.ge HI178.out)) | exact HB.out)); rintro e w21 ⟨rfl, hi, hb, hk⟩; refine ⟨_, rfl, ?_⟩; have n0_ := Aside0.mk (hb); have n1_ := Aside0.mk (hi); clear HB; clear HI178; have HB := n0_; have HI178 := n1_; clear n0_ n1_; (try clear hb); (try clear hb2); (try clear hk); (try clear hi)) | ((with_reducible refine gate_callee (f := 51) rfl ?_); refine goesL_ (some 20) rfl rfl Try.func51 (by kernel_rfl) rfl #[.pointer (some ⟨g178, 0, none⟩), .int .i64 (t181.size : Int)] rfl (by (try simp only [List.map_toArray, List.map_cons, List.map_nil]); first | done | rfl | (simp only [List.length_drop, List.length_take]; rfl)) ?_; (with_reducible refine (spec_l20Rd_pick.calls k g178 t176 t184 (t181.size : Int) t185 t186 w _ ?side1 ?side2 A7.out).mono ?_); (case side1 => repeat (first | (with_reducible first | exact HI178.out | apply IsS67.alloc | apply IsS67.drewN | apply IsS67.drew | apply IsS67.set_1) | exact HI178.out)); (case side2 => repeat (first | (with_reducible first | exact HB.out | apply below_alloc | apply pw_below_drewN | apply below_drew1 | refine below_set ?_ (IsS67.ge HI178.out)) | exact HB.out)); rintro e w22 ⟨rfl, hi, hb, hk⟩; refine ⟨_, rfl, ?_⟩; have n0_ := Aside0.mk (hb); have n1_ := Aside0.mk (hi); clear HB; clear HI178; have HB := n0_; have HI178 := n1_; clear n0_ n1_; (try clear hb); (try clear hb2); (try clear hk); (try clear hi)))
                    have pi192 : (0 ≤ (t190 : Int)) = True := eq_true (of_decide_eq_true (by first | (with_reducible assumption) | assumption))
                    have qi192 : (t190 < (y187.length : Int)) = True := eq_true (of_decide_eq_true (by first | (with_reducible assumption) | assumption))
                    have n0_ := Aside0.mk (IsS67.drew HI178.out)
                    have n1_ := Aside0.mk (below_drew1 HB.out)
                    clear HI178
                    clear HB
                    have HI178 := n0_
                    have HB := n1_
                    clear n0_ n1_
                    refine start_ (n := 17) (S := fun w' => True) (ds := []) #[false, false, false, false, false, false, false, false, false, false, false, false, false, false, false, false, false] (by kernel_rfl) rfl rfl trivial (fun hHeld => ?_); refine with_tabW spec_DrawHoldsIn.tab6 spec_DrawHoldsIn.bits6 (fun HT_ HW_ => ?_)
                    generalize w22.drew = w23 at HI178 HB hHeld ⊢
                    refine pure_ (i := 0) (N := some 21) (v := ?_) (a' := ?_) #[true, false, false, false, false, false, false, false, false, false, false, false, false, false, false, false, false] rfl rfl (any_of HT_.out (by kernel_rfl)) (fun _ _ _ h => h) (Or.inl ⟨by rfl, ?_⟩) ?_ ?_
                    rotate_left
                    · intro w'
                      go_simp
                      with_reducible rfl
                    rotate_left
                    · simp only [Act.put, List.setIfInBounds_toArray, List.set_cons_zero, List.set_cons_succ, i64_w, i32_w]
                      rfl
                    refine pure_ (i := 1) (N := some 22) (v := ?_) (a' := ?_) #[true, true, false, false, false, false, false, false, false, false, false, false, false, false, false, false, false] rfl rfl (any_of HT_.out (by kernel_rfl)) (fun _ _ _ h => h) (Or.inl ⟨by rfl, ?_⟩) ?_ ?_
                    rotate_left
                    · intro w'
                      go_simp
                      with_reducible rfl
                    rotate_left
                    · simp only [Act.put, List.setIfInBounds_toArray, List.set_cons_zero, List.set_cons_succ, i64_w, i32_w]
                      rfl
                    refine pure_ (i := 2) (N := some 23) (v := ?_) (a' := ?_) #[true, true, true, false, false, false, false, false, false, false, false, false, false, false, false, false, false] rfl rfl (any_of HT_.out (by kernel_rfl)) (fun _ _ _ h => h) (Or.inl ⟨by rfl, ?_⟩) ?_ ?_
                    rotate_left
                    · intro w'
                      go_simp
                      with_reducible rfl
                    rotate_left
                    · simp only [Act.put, List.setIfInBounds_toArray, List.set_cons_zero, List.set_cons_succ, i64_w, i32_w]
                      rfl
                    refine pure_ (i := 5) (N := some 26) (v := ?_) (a' := ?_) #[true, true, true, false, false, true, false, false, false, false, false, false, false, false, false, false, false] rfl rfl (any_of HT_.out (by kernel_rfl)) (fun _ _ _ h => h) (Or.inl ⟨by rfl, ?_⟩) ?_ ?_
                    rotate_left
                    · intro w'
                      go_simp
                      with_reducible rfl
                    rotate_left
                    · simp only [Act.put, List.setIfInBounds_toArray, List.set_cons_zero, List.set_cons_succ, i64_w, i32_w]
                      rfl
                    refine pure_ (i := 10) (N := some 31) (v := ?_) (a' := ?_) #[true, true, true, false, false, true, false, false, false, false, true, false, false, false, false, false, false] rfl rfl (any_of HT_.out (by kernel_rfl)) (fun _ _ _ h => h) (Or.inl ⟨by rfl, ?_⟩) ?_ ?_
                    rotate_left
                    · intro w'
                      go_simp
                      with_reducible rfl
                    rotate_left
                    · simp only [Act.put, List.setIfInBounds_toArray, List.set_cons_zero, List.set_cons_succ, i64_w, i32_w]
                      rfl
                    refine pure_ (i := 11) (N := some 32) (v := ?_) (a' := ?_) #[true, true, true, false, false, true, false, false, false, false, true, true, false, false, false, false, false] rfl rfl (any_of HT_.out (by kernel_rfl)) (fun _ _ _ h => h) (Or.inl ⟨by rfl, ?_⟩) ?_ ?_
                    rotate_left
                    · intro w'
                      go_simp
                      with_reducible rfl
                    rotate_left
                    · simp only [Act.put, List.setIfInBounds_toArray, List.set_cons_zero, List.set_cons_succ, i64_w, i32_w]
                      rfl
                    refine inv_at [3, 4, 6, 7, 8, 9, 12, 13, 14, 15, 16] (fun a0_ b a w' => ∃ (v188 : Value) (adz_v188 : Addr) (m7_ : Value), a = putSel a0_ b [(3, 24, .string (t181.extract 0 (t185 : Int).toNat)), (4, 25, v188), (6, 27, .int .i64 t190), (7, 28, m7_), (8, 29, .string (rdOf ByteArray.empty y187 t190)), (9, 30, .string ((t181.extract 0 (t185 : Int).toNat) ++ (rdOf ByteArray.empty y187 t190))), (12, 33, .int .i64 ji14), (13, 34, .string (t181.extract ((ji14) : Int).toNat t181.size)), (14, 35, .string (((t181.extract 0 (t185 : Int).toNat) ++ (rdOf ByteArray.empty y187 t190)) ++ (t181.extract ((ji14) : Int).toNat t181.size))), (15, 2, .int .i64 t179), (16, 3, .string (((t181.extract 0 (t185 : Int).toNat) ++ (rdOf ByteArray.empty y187 t190)) ++ (t181.extract ((ji14) : Int).toNat t181.size)))] ∧ (b 6 = false → IsS67 w w' g178 t176 t186) ∧ (Below w.heap.size w w') ∧ (b 4 = true → Kd.R Kd.string 9 w' w.heap.size (fun _ => True) v188 y187) ∧ (b 4 = true → ∃ c_, (v188 : Value) = .slice (some adz_v188) y187.length c_) ∧ (b 6 = true → IsS67 w w' g178 t176 t191) ∧ (b 7 = true → (m7_ : Value) = .pointer (some (adz_v188.add (t190).toNat)))) HT_.out HW_.out (by kernel_rfl) (by kernel_rfl) ?_ ?_ ?_
                    · exact ⟨.bool false, ⟨0, 0, none⟩, .bool false, by simp only [putSel, Bool.false_eq_true, if_false], fun _ => HI178.out, HB.out, fun h_ => absurd h_ (by decide), fun h_ => absurd h_ (by decide), fun h_ => absurd h_ (by decide), fun h_ => absurd h_ (by decide)⟩
                    · skip
                      clear HB HI178
                      refine steps_cons ?_ ?_
                      · rintro b a w' ⟨v188, adz_v188, m7_, ha, Q_HI178, Q_HB, Q_HO189, Q_HA_HO189, Q_HI178_e6, Q_X7_⟩ hb_ hon hoff
                        refine ⟨_, rfl, fun K hK => ?_⟩
                        have e22 : a.tmps[22]? = some (.string t181) := by rw [ha]; exact (putSel_off rfl).trans rfl
                        have e23 : a.tmps[23]? = some (.int .i64 t185) := by rw [ha]; exact (putSel_off rfl).trans rfl
                        replace ha := Aside0.mk ha
                        have HB := Aside0.mk Q_HB
                        refine value_ (w1 := w') (v := .string (t181.extract 0 (t185 : Int).toNat)) (by rfl) rfl ?_ ?_
                        · go_simp
                          (try simp only [i64_w])
                          try rfl
                        refine hK.out _ _ ⟨v188, adz_v188, m7_, (by rw [ha.out]; exact putSel_upk 0 hb_ rfl rfl rfl), Q_HI178, Q_HB, Q_HO189, Q_HA_HO189, Q_HI178_e6, Q_X7_⟩
                      refine steps_cons ?_ ?_
                      · rintro b a w' ⟨v188, adz_v188, m7_, ha, Q_HI178, Q_HB, Q_HO189, Q_HA_HO189, Q_HI178_e6, Q_X7_⟩ hb_ hon hoff
                        refine ⟨_, rfl, fun K hK => ?_⟩
                        replace ha := Aside0.mk ha
                        have HB := Aside0.mk Q_HB
                        refine Kd.R_lit_step Kd.string _ 9 ?hg (N := 25) ?hd (xs := ([(⟨#[]⟩ : ByteArray), (⟨#[99]⟩ : ByteArray), (⟨#[40]⟩ : ByteArray), (⟨#[38]⟩ : ByteArray), (⟨#[33]⟩ : ByteArray)] : List ByteArray)) (inner := [.string (⟨#[]⟩ : ByteArray), .string (⟨#[99]⟩ : ByteArray), .string (⟨#[40]⟩ : ByteArray), .string (⟨#[38]⟩ : ByteArray), .string (⟨#[33]⟩ : ByteArray)]) (ok := fun _ => True) (okp := fun _ => True) ?hr ?hp (fun _ hk => hk) trivial (Below.refl _ _) (Nat.le_refl _) (by simp) ?_; (case hd => rfl); (case hg => rfl); (case hr => first | (go_simp; done) | (go_simp; rfl)); (case hp => exact (Reps.one (show Kd.M Kd.string _ _ _ (⟨#[]⟩ : ByteArray) [.string (⟨#[]⟩ : ByteArray)] from rfl) (Reps.one (show Kd.M Kd.string _ _ _ (⟨#[99]⟩ : ByteArray) [.string (⟨#[99]⟩ : ByteArray)] from rfl) (Reps.one (show Kd.M Kd.string _ _ _ (⟨#[40]⟩ : ByteArray) [.string (⟨#[40]⟩ : ByteArray)] from rfl) (Reps.one (show Kd.M Kd.string _ _ _ (⟨#[38]⟩ : ByteArray) [.string (⟨#[38]⟩ : ByteArray)] from rfl) (Reps.one (show Kd.M Kd.string _ _ _ (⟨#[33]⟩ : ByteArray) [.string (⟨#[33]⟩ : ByteArray)] from rfl) (Reps.none _ _)))))))
                        intro v188 w24 ho25 hb hg_ hnew_
                        clear hg_ hnew_
                        (first | rw [← Ny187.out] at ho25 | (simp only [Int.reduceToNat] at ho25; rw [← Ny187.out] at ho25))
                        have n0_ := Aside0.mk (Kd.R_lower ho25 (below_size (by repeat (first | (with_reducible first | exact HB.out | apply below_alloc | apply pw_below_drewN | apply below_drew1) | exact HB.out))))
                        have n2_ := Aside0.mk (below_step (by repeat (first | (with_reducible first | exact HB.out | apply below_alloc | apply pw_below_drewN | apply below_drew1) | exact HB.out)) hb)
                        have z_HI178 := fun (h0_ : b 6 = false) => (show IsS67 w w24 g178 t176 t186 from by first | exact (IsS67.below (by repeat (first | (with_reducible first | exact (Q_HI178 h0_) | apply IsS67.alloc | apply IsS67.drewN | apply IsS67.drew | apply IsS67.set_1) | exact (Q_HI178 h0_))) hb))
                        have z_HI178_e6 := fun (h0_ : b 6 = true) => (show IsS67 w w24 g178 t176 t191 from by first | exact (IsS67.below (by repeat (first | (with_reducible first | exact (Q_HI178_e6 h0_) | apply IsS67.alloc | apply IsS67.drewN | apply IsS67.drew | apply IsS67.set_1) | exact (Q_HI178_e6 h0_))) hb))
                        clear HB
                        have HO189 := n0_
                        have HB := n2_
                        clear n0_ n2_
                        clear hb ho25
                        obtain ⟨Ao26, co26, eo26⟩ := Kd.R_slice HO189.out
                        subst eo26
                        obtain ⟨ado26, fo26, _⟩ := Kd.at_string (Kd.R_reads' HO189.out).2.2 0 (by decide) (by rw [Ny187.out]; simp)
                        cases fo26
                        refine hK.out _ _ ⟨.slice (some ado26) y187.length co26, ado26, m7_, (by rw [ha.out]; exact putSel_upk 1 hb_ rfl rfl rfl), z_HI178, (by repeat (first | (with_reducible first | exact HB.out | apply below_alloc | apply pw_below_drewN | apply below_drew1) | exact HB.out)), fun _ => (by (with_reducible repeat (first | apply Kd.R_alloc | apply Kd.R_drewN | apply Kd.R_drew)); exact HO189.out), fun _ => ⟨_, rfl⟩, z_HI178_e6, fun h0_ => absurd ((hoff 7 (by kernel_rfl)).symm.trans h0_) (by decide)⟩
                      refine steps_cons ?_ ?_
                      · rintro b a w' ⟨v188, adz_v188, m7_, ha, Q_HI178, Q_HB, Q_HO189, Q_HA_HO189, Q_HI178_e6, Q_X7_⟩ hb_ hon hoff
                        refine ⟨_, rfl, fun K hK => ?_⟩
                        have e26 : a.tmps[26]? = some (.pointer (some ⟨g178, 0, none⟩)) := by rw [ha]; exact (putSel_off rfl).trans rfl
                        replace ha := Aside0.mk ha
                        have HI178 := Aside0.mk (Q_HI178 hb_)
                        have HB := Aside0.mk Q_HB
                        refine goes_ Try.func51 (by kernel_rfl) rfl #[.pointer (some ⟨g178, 0, none⟩), .int .i64 5] (by rfl) rfl rfl (by first | (simp only [List.map_toArray, List.map_cons, List.map_nil, Act.eval, Array.getD_eq_getD_getElem?, Option.getD_some, e26]; done) | (simp only [List.map_toArray, List.map_cons, List.map_nil, Act.eval, Array.getD_eq_getD_getElem?, Option.getD_some, e26]; rfl)) ?_
                        with_reducible refine (spec_l20Rd_pick.calls k g178 t176 t186 5 t190 t191 w _ ?side1 ?side2 A10.out).mono ?_
                        (case side1 => repeat (first | (with_reducible first | exact HI178.out | apply IsS67.alloc | apply IsS67.drewN | apply IsS67.drew | apply IsS67.set_1) | exact HI178.out))
                        (case side2 => repeat (first | (with_reducible first | exact HB.out | apply below_alloc | apply pw_below_drewN | apply below_drew1 | refine below_set ?_ (IsS67.ge HI178.out)) | exact HB.out))
                        rintro e w24 ⟨rfl, hi, hb, hk⟩
                        refine ⟨_, rfl, ?_⟩
                        have n0_ := Aside0.mk (hb)
                        have n1_ := Aside0.mk (hi)
                        have z_HO189 := fun (h0_ : b 4 = true) => (show Kd.R Kd.string 9 w24 w.heap.size (fun _ => True) v188 y187 from by first | exact (Kd.R_mono (Kd.R_keep (IsS67.apart (show IsS67 w _ g178 t176 t186 from by repeat (first | (with_reducible first | exact HI178.out | apply IsS67.alloc | apply IsS67.drewN | apply IsS67.drew | apply IsS67.set_1) | exact HI178.out)) (by (with_reducible repeat (first | apply Kd.R_alloc | apply Kd.R_drewN | apply Kd.R_drew)); exact (Q_HO189 h0_)) (by decide)) hk (fun _ h => h.2)) (fun _ h => h.1)) | exact Kd.R_mono (Kd.R_mono (Kd.R_keep (IsS67.apart (show IsS67 w _ g178 t176 t186 from by repeat (first | (with_reducible first | exact HI178.out | apply IsS67.alloc | apply IsS67.drewN | apply IsS67.drew | apply IsS67.set_1) | exact HI178.out)) (by (with_reducible repeat (first | apply Kd.R_alloc | apply Kd.R_drewN | apply Kd.R_drew)); exact (Q_HO189 h0_)) (by decide)) hk (fun _ h => h.2)) (fun _ h => h.1)) (fun _ h_ => by first | trivial | exact h_ | exact h_.1))
                        clear HB
                        clear HI178
                        have HB := n0_
                        have HI178 := n1_
                        clear n0_ n1_
                        (try clear hb)
                        (try clear hb2)
                        (try clear hk)
                        (try clear hi)
                        refine hK.out _ _ ⟨v188, adz_v188, m7_, (by rw [ha.out]; exact putSel_upk 2 hb_ rfl rfl rfl), fun h0_ => absurd ((up_self b 6).symm.trans h0_) (by decide), (by repeat (first | (with_reducible first | exact HB.out | apply below_alloc | apply pw_below_drewN | apply below_drew1 | refine below_set ?_ (IsS67.ge HI178.out)) | exact HB.out)), z_HO189, Q_HA_HO189, fun _ => (by repeat (first | (with_reducible first | exact HI178.out | apply IsS67.alloc | apply IsS67.drewN | apply IsS67.drew | apply IsS67.set_1) | exact HI178.out)), fun h0_ => absurd ((hoff 7 (by kernel_rfl)).symm.trans h0_) (by decide)⟩
                      refine steps_cons ?_ ?_
                      · rintro b a w' ⟨v188, adz_v188, m7_, ha, Q_HI178, Q_HB, Q_HO189, Q_HA_HO189, Q_HI178_e6, Q_X7_⟩ hb_ hon hoff
                        refine ⟨_, rfl, fun K hK => ?_⟩
                        have e25 : a.tmps[25]? = some (v188) := by rw [ha]; exact putSel_on (e := (4, 25, v188)) 1 rfl rfl (hon 4 (by kernel_rfl)) rfl
                        have e27 : a.tmps[27]? = some (.int .i64 t190) := by rw [ha]; exact putSel_on (e := (6, 27, .int .i64 t190)) 2 rfl rfl (hon 6 (by kernel_rfl)) rfl
                        replace ha := Aside0.mk ha
                        have HB := Aside0.mk Q_HB
                        have HO189 := Aside0.mk (Q_HO189 (hon 4 (by kernel_rfl)))
                        have HA_HO189 := Aside0.mk (Q_HA_HO189 (hon 4 (by kernel_rfl)))
                        have HI178 := Aside0.mk (Q_HI178_e6 (hon 6 (by kernel_rfl)))
                        obtain ⟨c_, hv_⟩ := HA_HO189.out
                        rw [hv_] at e25
                        refine value_ (w1 := w') (v := .pointer (some (adz_v188.add (t190).toNat))) (by rfl) rfl ?_ ?_
                        · go_simp
                          (try simp only [i64_w])
                          try rfl
                        refine hK.out _ _ ⟨v188, adz_v188, (.pointer (some (adz_v188.add (t190).toNat))), (by rw [ha.out]; exact putSel_upk 3 hb_ rfl rfl rfl), fun h0_ => absurd ((hon 6 (by kernel_rfl)).symm.trans h0_) (by decide), Q_HB, Q_HO189, Q_HA_HO189, Q_HI178_e6, fun _ => rfl⟩
                      refine steps_cons ?_ ?_
                      · rintro b a w' ⟨v188, adz_v188, m7_, ha, Q_HI178, Q_HB, Q_HO189, Q_HA_HO189, Q_HI178_e6, Q_X7_⟩ hb_ hon hoff
                        refine ⟨_, rfl, fun K hK => ?_⟩
                        have e28 : a.tmps[28]? = some (m7_) := by rw [ha]; exact putSel_on (e := (7, 28, m7_)) 3 rfl rfl (hon 7 (by kernel_rfl)) rfl
                        rw [Q_X7_ (hon 7 (by kernel_rfl))] at e28
                        replace ha := Aside0.mk ha
                        have HB := Aside0.mk Q_HB
                        have HO189 := Aside0.mk (Q_HO189 (hon 4 (by kernel_rfl)))
                        have HA_HO189 := Aside0.mk (Q_HA_HO189 (hon 4 (by kernel_rfl)))
                        have HI178 := Aside0.mk (Q_HI178_e6 (hon 6 (by kernel_rfl)))
                        obtain ⟨c_, hv_⟩ := HA_HO189.out
                        have hF_ := HO189.out
                        rw [hv_] at hF_
                        obtain ⟨ad_, ea_, hx_⟩ := Kd.at_string (Kd.R_reads' hF_).2.2 t190 (of_eq_true pi192) (of_eq_true qi192)
                        cases ea_
                        refine value_ (w1 := w') (v := .string (rdOf ByteArray.empty y187 t190)) (by rfl) rfl ?_ ?_
                        · go_simp
                          (try simp only [i64_w])
                          try rfl
                        refine hK.out _ _ ⟨v188, adz_v188, m7_, (by rw [ha.out]; exact putSel_upk 4 hb_ rfl rfl rfl), fun h0_ => absurd ((hon 6 (by kernel_rfl)).symm.trans h0_) (by decide), Q_HB, Q_HO189, Q_HA_HO189, Q_HI178_e6, Q_X7_⟩
                      refine steps_cons ?_ ?_
                      · rintro b a w' ⟨v188, adz_v188, m7_, ha, Q_HI178, Q_HB, Q_HO189, Q_HA_HO189, Q_HI178_e6, Q_X7_⟩ hb_ hon hoff
                        refine ⟨_, rfl, fun K hK => ?_⟩
                        have e24 : a.tmps[24]? = some (.string (t181.extract 0 (t185 : Int).toNat)) := by rw [ha]; exact putSel_on (e := (3, 24, .string (t181.extract 0 (t185 : Int).toNat))) 0 rfl rfl (hon 3 (by kernel_rfl)) rfl
                        have e29 : a.tmps[29]? = some (.string (rdOf ByteArray.empty y187 t190)) := by rw [ha]; exact putSel_on (e := (8, 29, .string (rdOf ByteArray.empty y187 t190))) 4 rfl rfl (hon 8 (by kernel_rfl)) rfl
                        replace ha := Aside0.mk ha
                        have HB := Aside0.mk Q_HB
                        have HO189 := Aside0.mk (Q_HO189 (hon 4 (by kernel_rfl)))
                        have HA_HO189 := Aside0.mk (Q_HA_HO189 (hon 4 (by kernel_rfl)))
                        have HI178 := Aside0.mk (Q_HI178_e6 (hon 6 (by kernel_rfl)))
                        refine value_ (w1 := w') (v := .string ((t181.extract 0 (t185 : Int).toNat) ++ (rdOf ByteArray.empty y187 t190))) (by rfl) rfl ?_ ?_
                        · go_simp
                          (try simp only [i64_w])
                          try rfl
                          all_goals first | (have hcut_ := c13; simp only [ByteArray.size_append, ByteArray.size_extract] at hcut_; have hend0_ := of_eq_true c9b0; have hend1_ := of_eq_true c16b0; omega) | (have hcut_ := c17; simp only [ByteArray.size_append, ByteArray.size_extract] at hcut_; have hend0_ := of_eq_true c9b0; have hend1_ := of_eq_true c16b0; omega)
                        refine hK.out _ _ ⟨v188, adz_v188, m7_, (by rw [ha.out]; exact putSel_upk 5 hb_ rfl rfl rfl), fun h0_ => absurd ((hon 6 (by kernel_rfl)).symm.trans h0_) (by decide), Q_HB, Q_HO189, Q_HA_HO189, Q_HI178_e6, Q_X7_⟩
                      refine steps_cons ?_ ?_
                      · rintro b a w' ⟨v188, adz_v188, m7_, ha, Q_HI178, Q_HB, Q_HO189, Q_HA_HO189, Q_HI178_e6, Q_X7_⟩ hb_ hon hoff
                        refine ⟨_, rfl, fun K hK => ?_⟩
                        have e32 : a.tmps[32]? = some (.int .i64 t185) := by rw [ha]; exact (putSel_off rfl).trans rfl
                        replace ha := Aside0.mk ha
                        have HB := Aside0.mk Q_HB
                        refine value_ (w1 := w') (v := .int .i64 ji14) (by rfl) rfl ?_ ?_
                        · go_simp
                          (try simp only [i64_w])
                          try rfl
                        refine hK.out _ _ ⟨v188, adz_v188, m7_, (by rw [ha.out]; exact putSel_upk 6 hb_ rfl rfl rfl), Q_HI178, Q_HB, Q_HO189, Q_HA_HO189, Q_HI178_e6, Q_X7_⟩
                      refine steps_cons ?_ ?_
                      · rintro b a w' ⟨v188, adz_v188, m7_, ha, Q_HI178, Q_HB, Q_HO189, Q_HA_HO189, Q_HI178_e6, Q_X7_⟩ hb_ hon hoff
                        refine ⟨_, rfl, fun K hK => ?_⟩
                        have e31 : a.tmps[31]? = some (.string t181) := by rw [ha]; exact (putSel_off rfl).trans rfl
                        have e33 : a.tmps[33]? = some (.int .i64 ji14) := by rw [ha]; exact putSel_on (e := (12, 33, .int .i64 ji14)) 6 rfl rfl (hon 12 (by kernel_rfl)) rfl
                        replace ha := Aside0.mk ha
                        have HB := Aside0.mk Q_HB
                        refine value_ (w1 := w') (v := .string (t181.extract ((ji14) : Int).toNat t181.size)) (by rfl) rfl ?_ ?_
                        · go_simp
                          (try simp only [i64_w])
                          try rfl
                        refine hK.out _ _ ⟨v188, adz_v188, m7_, (by rw [ha.out]; exact putSel_upk 7 hb_ rfl rfl rfl), Q_HI178, Q_HB, Q_HO189, Q_HA_HO189, Q_HI178_e6, Q_X7_⟩
                      refine steps_cons ?_ ?_
                      · rintro b a w' ⟨v188, adz_v188, m7_, ha, Q_HI178, Q_HB, Q_HO189, Q_HA_HO189, Q_HI178_e6, Q_X7_⟩ hb_ hon hoff
                        refine ⟨_, rfl, fun K hK => ?_⟩
                        have e30 : a.tmps[30]? = some (.string ((t181.extract 0 (t185 : Int).toNat) ++ (rdOf ByteArray.empty y187 t190))) := by rw [ha]; exact putSel_on (e := (9, 30, .string ((t181.extract 0 (t185 : Int).toNat) ++ (rdOf ByteArray.empty y187 t190)))) 5 rfl rfl (hon 9 (by kernel_rfl)) rfl
                        have e34 : a.tmps[34]? = some (.string (t181.extract ((ji14) : Int).toNat t181.size)) := by rw [ha]; exact putSel_on (e := (13, 34, .string (t181.extract ((ji14) : Int).toNat t181.size))) 7 rfl rfl (hon 13 (by kernel_rfl)) rfl
                        replace ha := Aside0.mk ha
                        have HB := Aside0.mk Q_HB
                        have HO189 := Aside0.mk (Q_HO189 (hon 4 (by kernel_rfl)))
                        have HA_HO189 := Aside0.mk (Q_HA_HO189 (hon 4 (by kernel_rfl)))
                        have HI178 := Aside0.mk (Q_HI178_e6 (hon 6 (by kernel_rfl)))
                        refine value_ (w1 := w') (v := .string (((t181.extract 0 (t185 : Int).toNat) ++ (rdOf ByteArray.empty y187 t190)) ++ (t181.extract ((ji14) : Int).toNat t181.size))) (by rfl) rfl ?_ ?_
                        · go_simp
                          (try simp only [i64_w])
                          try rfl
                          all_goals first | (have hcut_ := c13; simp only [ByteArray.size_append, ByteArray.size_extract] at hcut_; have hend0_ := of_eq_true c9b0; have hend1_ := of_eq_true c16b0; omega) | (have hcut_ := c17; simp only [ByteArray.size_append, ByteArray.size_extract] at hcut_; have hend0_ := of_eq_true c9b0; have hend1_ := of_eq_true c16b0; omega)
                        refine hK.out _ _ ⟨v188, adz_v188, m7_, (by rw [ha.out]; exact putSel_upk 8 hb_ rfl rfl rfl), fun h0_ => absurd ((hon 6 (by kernel_rfl)).symm.trans h0_) (by decide), Q_HB, Q_HO189, Q_HA_HO189, Q_HI178_e6, Q_X7_⟩
                      refine steps_cons ?_ ?_
                      · rintro b a w' ⟨v188, adz_v188, m7_, ha, Q_HI178, Q_HB, Q_HO189, Q_HA_HO189, Q_HI178_e6, Q_X7_⟩ hb_ hon hoff
                        refine ⟨_, rfl, fun K hK => ?_⟩
                        have e21 : a.tmps[21]? = some (.int .i64 t179) := by rw [ha]; exact (putSel_off rfl).trans rfl
                        replace ha := Aside0.mk ha
                        have HB := Aside0.mk Q_HB
                        have HI178 := Aside0.mk (Q_HI178_e6 (hon 6 (by kernel_rfl)))
                        refine value_ (w1 := w') (v := .int .i64 t179) (by rfl) rfl ?_ ?_
                        · go_simp
                          (try simp only [i64_w])
                          try rfl
                        refine hK.out _ _ ⟨v188, adz_v188, m7_, (by rw [ha.out]; exact putSel_upk 9 hb_ rfl rfl rfl), fun h0_ => absurd ((hon 6 (by kernel_rfl)).symm.trans h0_) (by decide), Q_HB, Q_HO189, Q_HA_HO189, Q_HI178_e6, Q_X7_⟩
                      refine steps_cons ?_ ?_
                      · rintro b a w' ⟨v188, adz_v188, m7_, ha, Q_HI178, Q_HB, Q_HO189, Q_HA_HO189, Q_HI178_e6, Q_X7_⟩ hb_ hon hoff
                        refine ⟨_, rfl, fun K hK => ?_⟩
                        have e35 : a.tmps[35]? = some (.string (((t181.extract 0 (t185 : Int).toNat) ++ (rdOf ByteArray.empty y187 t190)) ++ (t181.extract ((ji14) : Int).toNat t181.size))) := by rw [ha]; exact putSel_on (e := (14, 35, .string (((t181.extract 0 (t185 : Int).toNat) ++ (rdOf ByteArray.empty y187 t190)) ++ (t181.extract ((ji14) : Int).toNat t181.size)))) 8 rfl rfl (hon 14 (by kernel_rfl)) rfl
                        replace ha := Aside0.mk ha
                        have HB := Aside0.mk Q_HB
                        have HO189 := Aside0.mk (Q_HO189 (hon 4 (by kernel_rfl)))
                        have HA_HO189 := Aside0.mk (Q_HA_HO189 (hon 4 (by kernel_rfl)))
                        have HI178 := Aside0.mk (Q_HI178_e6 (hon 6 (by kernel_rfl)))
                        refine value_ (w1 := w') (v := .string (((t181.extract 0 (t185 : Int).toNat) ++ (rdOf ByteArray.empty y187 t190)) ++ (t181.extract ((ji14) : Int).toNat t181.size))) (by rfl) rfl ?_ ?_
                        · go_simp
                          (try simp only [i64_w])
                          try rfl
                          all_goals first | (have hcut_ := c13; simp only [ByteArray.size_append, ByteArray.size_extract] at hcut_; have hend0_ := of_eq_true c9b0; have hend1_ := of_eq_true c16b0; omega) | (have hcut_ := c17; simp only [ByteArray.size_append, ByteArray.size_extract] at hcut_; have hend0_ := of_eq_true c9b0; have hend1_ := of_eq_true c16b0; omega)
                        refine hK.out _ _ ⟨v188, adz_v188, m7_, (by rw [ha.out]; exact putSel_upk 10 hb_ rfl rfl rfl), fun h0_ => absurd ((hon 6 (by kernel_rfl)).symm.trans h0_) (by decide), Q_HB, Q_HO189, Q_HA_HO189, Q_HI178_e6, Q_X7_⟩
                      exact steps_nil
                    rintro b a w28 hall ⟨v188, adz_v188, m7_, ha, Q_HI178, Q_HB, Q_HO189, Q_HA_HO189, Q_HI178_e6, Q_X7_⟩
                    clear HB HI178
                    have hb3_ := hall 3 (by kernel_rfl)
                    have hb4_ := hall 4 (by kernel_rfl)
                    have hb6_ := hall 6 (by kernel_rfl)
                    have hb7_ := hall 7 (by kernel_rfl)
                    have hb8_ := hall 8 (by kernel_rfl)
                    have hb9_ := hall 9 (by kernel_rfl)
                    have hb12_ := hall 12 (by kernel_rfl)
                    have hb13_ := hall 13 (by kernel_rfl)
                    have hb14_ := hall 14 (by kernel_rfl)
                    have hb15_ := hall 15 (by kernel_rfl)
                    have hb16_ := hall 16 (by kernel_rfl)
                    subst ha
                    obtain rfl := Q_X7_ hb7_
                    simp only [putSel, hb3_, hb4_, hb6_, hb7_, hb8_, hb9_, hb12_, hb13_, hb14_, hb15_, hb16_, if_true, Act.put, List.setIfInBounds_toArray, List.set_cons_zero, List.set_cons_succ]
                    clear Q_HI178
                    have HB := Aside0.mk Q_HB
                    clear Q_HB
                    have HO189 := Aside0.mk (Q_HO189 hb4_)
                    clear Q_HO189
                    have HA_HO189 := Aside0.mk (Q_HA_HO189 hb4_)
                    clear Q_HA_HO189
                    have HI178 := Aside0.mk (Q_HI178_e6 hb6_)
                    clear Q_HI178_e6
                    clear hall hb3_ hb4_ hb6_ hb7_ hb8_ hb9_ hb12_ hb13_ hb14_ hb15_ hb16_
                    obtain ⟨co29, eo29⟩ := HA_HO189.out
                    clear HA_HO189
                    subst eo29
                    try go_wp2
                    go_ret2
                    exact ⟨by first | rfl | (simp [errW_none, errW_some] <;> rfl) | (simp only [← hji14]; first | rfl | (simp [errW_none, errW_some] <;> rfl)) | (simp [*, errW_none, errW_some] <;> rfl), by repeat (first | (with_reducible first | exact HB.out | apply below_alloc | apply pw_below_drewN | apply below_drew1 | refine below_set ?_ (IsS67.ge HI178.out)) | exact HB.out)⟩
                  · rw [if_neg c17] at H
                    exact absurd H (by simp)
                · rw [if_neg c16] at H
                  exact absurd H (by simp)
              · rw [if_neg c15] at H
                exact absurd H (by simp)
            · rw [if_neg c13] at H
              exact absurd H (by simp)
          · rw [if_neg c12] at H
            exact absurd H (by simp)
        · rw [if_neg c11] at H
          exact absurd H (by simp)
      · rw [if_neg c9] at H
        exact absurd H (by simp)
    · rw [if_neg c8] at H
      exact absurd H (by simp)
  · replace c6 := Bool.eq_false_iff.mpr c6
    subst c6
    have H1 : (some (t179, t181)) = some (r1, r2) := by rw [if_neg (show ¬ (false = true) by decide)] at H; exact H
    clear H
    have H := H1
    clear H1
    simp only [Option.some.injEq, Prod.mk.injEq] at H
    obtain ⟨rfl, rfl⟩ := H
    go_enter Try.func25, Try.ntmps25
    go_wp2_with (first | ((with_reducible refine gate_callee (f := 39) rfl ?_); refine goesL_ (some 9) rfl rfl Try.func39 (by kernel_rfl) rfl #[.slice A0 l0.length c0] rfl (by (try simp only [List.map_toArray, List.map_cons, List.map_nil]); first | done | rfl | (simp only [List.length_drop, List.length_take]; rfl)) ?_; (with_reducible refine (spec_l20Open.calls _ _ l0 t176 t177 w _ ?side1 ?side2 ?side3 A2.out).mono ?_); (case side1 => repeat (first | (with_reducible first | exact HB.out | apply below_alloc | apply pw_below_drewN | apply below_drew1) | exact HB.out)); (case side2 => exact HR0.out); (case side3 => exact HC0.out); rintro e w30 ⟨g178, rfl, hi, hb, hb2⟩; refine ⟨_, rfl, ?_⟩; have n0_ := Aside0.mk (hb); have n1_ := Aside0.mk (hi); clear HB; have HB := n0_; have HI178 := n1_; clear n0_ n1_; (try clear hb); (try clear hb2); (try clear hk); (try clear hi)) | ((with_reducible refine gate_callee (f := 40) rfl ?_); refine goesL_ (some 11) rfl rfl Try.func40 (by kernel_rfl) rfl #[.pointer (some ⟨g178, 0, none⟩), .int .i64 14] rfl (by (try simp only [List.map_toArray, List.map_cons, List.map_nil]); first | done | rfl | (simp only [List.length_drop, List.length_take]; rfl)) ?_; (with_reducible refine (spec_l20Things.calls k g178 t176 t177 14 t179 t180 w _ ?side1 ?side2 A3.out).mono ?_); (case side1 => repeat (first | (with_reducible first | exact HI178.out | apply IsS67.alloc | apply IsS67.drewN | apply IsS67.drew | apply IsS67.set_1) | exact HI178.out)); (case side2 => repeat (first | (with_reducible first | exact HB.out | apply below_alloc | apply pw_below_drewN | apply below_drew1 | refine below_set ?_ (IsS67.ge HI178.out)) | exact HB.out)); rintro e w31 ⟨rfl, hi, hb, hk⟩; refine ⟨_, rfl, ?_⟩; have n0_ := Aside0.mk (hb); have n1_ := Aside0.mk (hi); clear HB; clear HI178; have HB := n0_; have HI178 := n1_; clear n0_ n1_; (try clear hb); (try clear hb2); (try clear hk); (try clear hi)) | ((with_reducible refine gate_callee (f := 50) rfl ?_); refine goesL_ (some 14) rfl rfl Try.func50 (by kernel_rfl) rfl #[.pointer (some ⟨g178, 0, none⟩), .int .i64 t179, .int .i64 3] rfl (by (try simp only [List.map_toArray, List.map_cons, List.map_nil]); first | done | rfl | (simp only [List.length_drop, List.length_take]; rfl)) ?_; (with_reducible refine (spec_l20Sentence.calls k g178 t176 t180 t179 3 t181 t182 w _ ?side1 ?side2 A4.out).mono ?_); (case side1 => repeat (first | (with_reducible first | exact HI178.out | apply IsS67.alloc | apply IsS67.drewN | apply IsS67.drew | apply IsS67.set_1) | exact HI178.out)); (case side2 => repeat (first | (with_reducible first | exact HB.out | apply below_alloc | apply pw_below_drewN | apply below_drew1 | refine below_set ?_ (IsS67.ge HI178.out)) | exact HB.out)); rintro e w32 ⟨rfl, hi, hb, hk⟩; refine ⟨_, rfl, ?_⟩; have n0_ := Aside0.mk (hb); have n1_ := Aside0.mk (hi); clear HB; clear HI178; have HB := n0_; have HI178 := n1_; clear n0_ n1_; (try clear hb); (try clear hb2); (try clear hk); (try clear hi)) | ((with_reducible refine gate_callee (f := 55) rfl ?_); refine goesL_ (some 16) rfl rfl Try.func55 (by kernel_rfl) rfl #[.pointer (some ⟨g178, 0, none⟩), .int .i64 4] rfl (by (try simp only [List.map_toArray, List.map_cons, List.map_nil]); first | done | rfl | (simp only [List.length_drop, List.length_take]; rfl)) ?_; (with_reducible refine (spec_l20Rd_odd.calls k g178 t176 t182 4 false t184 w _ ?side1 ?side2 A5.out).mono ?_); (case side1 => repeat (first | (with_reducible first | exact HI178.out | apply IsS67.alloc | apply IsS67.drewN | apply IsS67.drew | apply IsS67.set_1) | exact HI178.out)); (case side2 => repeat (first | (with_reducible first | exact HB.out | apply below_alloc | apply pw_below_drewN | apply below_drew1 | refine below_set ?_ (IsS67.ge HI178.out)) | exact HB.out)); rintro e w33 ⟨rfl, hi, hb, hk⟩; refine ⟨_, rfl, ?_⟩; have n0_ := Aside0.mk (hb); have n1_ := Aside0.mk (hi); clear HB; clear HI178; have HB := n0_; have HI178 := n1_; clear n0_ n1_; (try clear hb); (try clear hb2); (try clear hk); (try clear hi)))
    go_ret2
    exact ⟨by first | rfl | (simp [errW_none, errW_some] <;> rfl) | (simp [*, errW_none, errW_some] <;> rfl), by repeat (first | (with_reducible first | exact HB.out | apply below_alloc | apply pw_below_drewN | apply below_drew1 | refine below_set ?_ (IsS67.ge HI178.out)) | exact HB.out)⟩

end Go.Proofs.Ytcmhilebiojfaaa.S
