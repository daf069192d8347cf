/- IndexFunc and ContainsFunc at a test of numbers tell the first place where it holds, and whether there is one; isTable tells just what the words below tell, for all arguments. -/
import Derived.Test.YtgmnbegemgankaaHandBase
import Derived.Lib.Hide
import Derived.Deep.LoopGhost
import Derived.Deep.QuietTactic
import Derived.BigQuiet
import Derived.Shelf.Abstract
namespace Go.Proofs.Ytgmnbegemgankaa.Hand
open Go.RowKit Go.Proofs.Ytgmnbegemgankaa.B Go.Proofs.YtgmnbegemgankaaW.PrintWords Go.Proofs.YtgmnbegemgankaaW.PrintLast Go.Proofs.YtgmnbegemgankaaW.PrintMore
set_option linter.unusedVariables false
set_option linter.unusedSimpArgs false

/-- A test of numbers, as a function value that captured lb: it answers at each number, in every later world; it writes nothing. -/
def Asks (g : Nat) (lb : Array Value) (p : Int → Bool) (w : World) : Prop :=
  ∀ (W : World) (x : Int), Below w.heap.size w W → Calls Try.prog g (#[.int .i64 x] ++ lb) W fun e w' => e = .returned (.bool (p x)) ∧ ∃ q, w' = W.drewN q

/-- The place of the first number at which the test holds, told from i on; -1 for none. -/
def idxP (p : Int → Bool) : List Int → Nat → Int
  | [], _ => -1
  | x :: xs, i => if p x = true then (i : Int) else idxP p xs (i + 1)

theorem idxP_any (p : Int → Bool) : ∀ (l : List Int) (i : Nat), decide (0 ≤ idxP p l i) = l.any p
  | [], i => by simp [idxP]
  | x :: xs, i => by
    cases h : p x with
    | true => simp [idxP, h]
    | false => simp [idxP, h, idxP_any p xs (i + 1)]

theorem drop_rd (l : List Int) (i : Nat) (h : i < l.length) : l.drop i = rd l (i : Int) :: l.drop (i + 1) := by
  rw [List.drop_eq_getElem_cons h]
  unfold rd
  rw [Int.toNat_natCast, List.getD_eq_getElem?_getD, List.getElem?_eq_getElem h]; rfl

set_option maxHeartbeats 2000000 in
theorem indexFunc_at (g : Nat) (lb : Array Value) (eg : ∀ args w, (callFunc g args).run Try.prog w = .ok (.enter g args) w) (p : Int → Bool) (A1 : Option Addr) (c1 : Nat) (l1 : List Int) (w : World)
    (hr1 : Kd.C (Kd.int .i64) w A1 l1.length l1) (hl : l1.length ≤ 1000000000) (hp : Asks g lb p w) :
    Calls Try.prog 79 #[.slice A1 l1.length c1, .func (.func g) #[] lb] w fun e w' => e = .returned (.int .i64 (idxP p l1 0)) ∧ ∃ q, w' = w.drewN q := by
  have hpAt : ∀ (x : Int) (q : Nat), Calls Try.prog g (#[.int .i64 x] ++ lb) (w.drewN q) fun e w' => e = .returned (.bool (p x)) ∧ ∃ q', w' = (w.drewN q).drewN q' := fun x q => hp _ x (pw_below_drewN (Below.refl _ w) q)
  have HR := Lib.hid hr1
  clear hp hr1
  go_enter Try.func79, Try.ntmps79
  go_wp2
  go_loopg [5, 8] l1.length (fun gg s5 s8 wr => ∃ kk q : Nat, kk ≤ l1.length ∧ l1.length - kk ≤ gg ∧ s8 = .int .i64 kk ∧ Aside0 (idxP p (l1.drop kk) kk = idxP p l1 0) ∧ wr = w.drewN q)
  case atStart => exact ⟨0, 0, by omega, by omega, rfl, ⟨by simp⟩, rfl⟩
  case round =>
    obtain ⟨kk, q, hkk, hg, rfl, HI, rfl⟩ := hrel
    by_cases hlt : kk < l1.length
    · have hltz : (kk : Int) < (l1.length : Int) := by omega
      have hk0 : (0 : Int) ≤ kk := by omega
      obtain ⟨ad, e, hx0⟩ := Kd.at_int HR.out (kk : Int) hk0 hltz
      subst e
      rw [Int.toNat_natCast] at hx0
      have hx1 : (w.drewN q).cell? (ad.add kk) = some (.int .i64 (rd l1 kk)) := hx0
      clear hx0
      have p1 := eq_true hk0
      have p2 := eq_true hltz
      have HI2 := Lib.hid HI.out
      clear HI
      have hcall := hpAt (rd l1 kk) q
      have HCALL := Lib.hid hcall
      clear hcall hpAt
      cases hq : p (rd l1 kk) with
      | true =>
        have HF : Hid (idxP p l1 0 = (kk : Int)) := by
          have := HI2.out
          rw [drop_rd l1 kk hlt] at this
          simp only [idxP, hq, if_true] at this
          exact this.symm
        have HQ := Lib.hid hq
        clear hq
        go_wp2_with fail
        have hc2 := HCALL.out
        rw [HQ.out] at hc2
        clear HCALL
        refine hc2.mono ?_
        clear hc2
        rintro e w' ⟨rfl, q', rfl⟩
        go_wp2
        go_ret
        exact ⟨by rw [HF.out]; rfl, _, rfl⟩
      | false =>
        have HF : Hid (idxP p (l1.drop (kk + 1)) (kk + 1) = idxP p l1 0) := by
          have := HI2.out
          rw [drop_rd l1 kk hlt] at this
          simp only [idxP, hq] at this
          exact this
        have HQ := Lib.hid hq
        clear hq
        go_wp2_with fail
        have hc2 := HCALL.out
        rw [HQ.out] at hc2
        clear HCALL
        refine hc2.mono ?_
        clear hc2
        rintro e w' ⟨rfl, q', rfl⟩
        go_wp2
        go_roundg (l1.length - (kk + 1))
        case measure => omega
        case rel => exact ⟨kk + 1, _, by omega, by omega, by go_num, ⟨HF.out⟩, rfl⟩
    · have : kk = l1.length := by omega
      subst this
      have HF : Hid (idxP p l1 0 = -1) := by
        have := HI.out
        rw [List.drop_length] at this
        exact this.symm
      clear HI
      go_wp2
      go_ret
      exact ⟨by rw [HF.out]; rfl, q, rfl⟩

set_option maxHeartbeats 2000000 in
theorem containsFunc_at (g : Nat) (lb : Array Value) (eg : ∀ args w, (callFunc g args).run Try.prog w = .ok (.enter g args) w) (p : Int → Bool) (A1 : Option Addr) (c1 : Nat) (l1 : List Int) (w : World)
    (hr1 : Kd.C (Kd.int .i64) w A1 l1.length l1) (hl : l1.length ≤ 1000000000) (hp : Asks g lb p w) :
    Calls Try.prog 68 #[.slice A1 l1.length c1, .func (.func g) #[] lb] w fun e w' => e = .returned (.bool (l1.any p)) ∧ ∃ q, w' = w.drewN q := by
  have HC := Lib.hid (indexFunc_at g lb eg p A1 c1 l1 w hr1 hl hp)
  have HA := Lib.hid (idxP_any p l1 0)
  clear hr1 hp
  go_enter Try.func68, Try.ntmps68
  go_wp2_with fail
  refine HC.out.mono ?_
  rintro e w' ⟨rfl, q', rfl⟩
  go_wp2
  go_ret
  exact ⟨by rw [← HA.out]; rfl, _, rfl⟩

/-- Is l a table. -/
def okTab (t : Int) (l : List Int) : Bool := (decide (1 ≤ t) && decide (t ≤ 2)) && (decide ((l.length : Int) = allW t + 1) && l.all (fun s => okS t s))
def impl_isTable.f (t : Int) (l : List Int) : Option Bool := some (okTab t l)

theorem tabAsks (t : Int) (B : Nat) (w : World) (h1 : w.heap[B]? = some (.cells #[.int .i64 t] 3 (0, 0))) :
    Asks 69 #[.pointer (some ⟨B, 0, none⟩)] (fun s => !okS t s) w := by
  intro W x hb
  have hc2 : W.cell? ⟨B, 0, none⟩ = some (.int .i64 t) := (hb.cell (p := ⟨B, 0, none⟩) (blk_lt h1)).trans (blk_cell h1 0)
  have HI := Lib.hid (isSet_eq t x)
  clear h1 hb
  go_enter Try.func69, Try.ntmps69
  go_wp2_with (go_at_call 48; refine (impl_isSet.calls t x _ _ HI.out).mono ?_; rintro e w' ⟨rfl, ⟨nd, rfl⟩⟩)
  go_ret
  exact ⟨rfl, _, rfl⟩

set_option maxHeartbeats 2000000 in
theorem impl_isTable.calls (a0 : Int) (A1 : Option Addr) (c1 : Nat) (l1 : List Int) (r : Bool) (w : World) (hr1 : Kd.C (Kd.int .i64) w A1 l1.length l1) (hc1 : l1.length ≤ c1) (h : impl_isTable.f a0 l1 = some r) :
    Calls Try.prog 51 #[.int .i64 a0, .slice A1 l1.length c1] w fun e w' => e = .returned (.bool r) ∧ Below w.heap.size w w' := by
  obtain rfl := Option.some.inj h
  clear h
  have HR := Lib.hid hr1
  clear hr1
  by_cases h1 : a0 < 1
  · have HF := Lib.hid (show okTab a0 l1 = false by unfold okTab; simp [show ¬ 1 ≤ a0 by omega])
    have d1 : decide (a0 < 1) = true := decide_eq_true h1
    clear h1
    go_enter Try.func51, Try.ntmps51
    go_wp2
    go_ret
    exact ⟨by rw [HF.out]; rfl, (Below.refl _ w).alloc (Nat.le_refl _) _⟩
  · have d1 : decide (a0 < 1) = false := decide_eq_false h1
    by_cases h2 : 2 < a0
    · have HF := Lib.hid (show okTab a0 l1 = false by unfold okTab; simp [show ¬ a0 ≤ 2 by omega])
      have d2 : decide (2 < a0) = true := decide_eq_true h2
      clear h1 h2
      go_enter Try.func51, Try.ntmps51
      go_wp2
      go_ret
      exact ⟨by rw [HF.out]; rfl, (Below.refl _ w).alloc (Nat.le_refl _) _⟩
    · have d2 : decide (2 < a0) = false := decide_eq_false h2
      have ht : okT a0 = true := by unfold okT; simp; omega
      have HN := Lib.hid (allWorlds_eq a0 ht)
      obtain ⟨ha1, ha2⟩ : 1 ≤ allW a0 ∧ allW a0 ≤ 255 := by rcases okT_cases ht with rfl | rfl | rfl <;> decide
      by_cases h3 : (l1.length : Int) = allW a0 + 1
      · have d3 : ((l1.length : Int) != allW a0 + 1) = false := by simp [h3]
        have HF : Hid (okTab a0 l1 = !(l1.any fun s => !okS a0 s)) := by
          unfold okTab
          rw [decide_eq_true (show (1 : Int) ≤ a0 by omega), decide_eq_true (show a0 ≤ 2 by omega), decide_eq_true h3, List.all_eq_not_any_not]
          rfl
        have hl : l1.length ≤ 1000000000 := by omega
        have HL := Lib.hid hl
        clear h1 h2 h3 ht hl
        go_enter Try.func51, Try.ntmps51
        go_wp2_with (go_at_call 67; refine (impl_allWorlds.calls a0 _ _ HN.out).mono ?_; rintro e w' ⟨rfl, ⟨nd, rfl⟩⟩)
        have hbw : Below w.heap.size w ((w.alloc (.cells #[.int .i64 a0] 3)).drewN nd) := pw_below_drewN ((Below.refl _ w).alloc (Nat.le_refl _) _) nd
        have HBW := Lib.hid hbw
        clear hbw
        refine (containsFunc_at 69 #[.pointer (some ⟨w.heap.size, 0, none⟩)] (enters_of Try.func69 (by kernel_rfl) rfl) (fun s => !okS a0 s) A1 c1 l1 ((w.alloc (.cells #[.int .i64 a0] 3)).drewN nd) (Kd.C_below HR.out HBW.out) HL.out
          (tabAsks a0 w.heap.size _ (show ((w.alloc (.cells #[.int .i64 a0] 3)).drewN nd).heap[w.heap.size]? = some (.cells #[.int .i64 a0] 3 (0, 0)) from blk_new w _))).mono ?_
        rintro e w2 ⟨rfl, q, rfl⟩
        go_wp2
        go_ret
        exact ⟨by rw [HF.out]; rfl, pw_below_drewN ((Below.refl _ w).alloc (Nat.le_refl _) _) (nd + q)⟩
      · have d3 : ((l1.length : Int) != allW a0 + 1) = true := by simp [h3]
        have HF := Lib.hid (show okTab a0 l1 = false by unfold okTab; simp [h3])
        clear h1 h2 h3 ht
        go_enter Try.func51, Try.ntmps51
        go_wp2_with (go_at_call 67; refine (impl_allWorlds.calls a0 _ _ HN.out).mono ?_; rintro e w' ⟨rfl, ⟨nd, rfl⟩⟩)
        go_ret
        exact ⟨by rw [HF.out]; rfl, pw_below_drewN ((Below.refl _ w).alloc (Nat.le_refl _) _) nd⟩

end Go.Proofs.Ytgmnbegemgankaa.Hand
