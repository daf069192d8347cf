/- setThat at a test of worlds, revisedBy and coreOf return just the sets that the words below tell; of setThat: where the test answers at each world and writes nothing; of the others: at ranks of as many worlds as there are. -/
import Derived.Test.YtgmnbegemgankaaHandF
import Derived.Test.YtgmnbegemgankaaBx
import Derived.Lib.Walk
import Derived.Lib.Hide
import Derived.Deep.LoopGhost
import Derived.Deep.QuietTactic
import Derived.BigQuiet
namespace Go.Proofs.Ytgmnbegemgankaa.Hand
open Go.RowKit Go.Proofs.Ytgmnbegemgankaa.B Go.Proofs.YtgmnbegemgankaaW.PrintWords Go.Proofs.YtgmnbegemgankaaW.PrintLast Go.Proofs.YtgmnbegemgankaaW.PrintMore
set_option linter.unusedVariables false
set_option linter.unusedSimpArgs false

/-- A test of worlds, as a function value that captured lb: at each world below n it answers, in every later world; it writes nothing. -/
def Tells (g : Nat) (lb : Array Value) (n : Nat) (p : Nat → Bool) (w : World) : Prop :=
  ∀ (W : World) (x : Nat), x < n → Below w.heap.size w W → Calls Try.prog g (#[.int .i64 x] ++ lb) W fun e w' => e = .returned (.bool (p x)) ∧ ∃ q, w' = W.drewN q

set_option maxHeartbeats 2000000 in
theorem setThat_1 (g : Nat) (lb : Array Value) (eg : ∀ args w, (callFunc g args).run Try.prog w = .ok (.enter g args) w) (p : Nat → Bool) (w : World) (hp : Tells g lb 2 p w) :
    Calls Try.prog 75 #[.int .i64 1, .func (.func g) #[] lb] w fun e w' => e = .returned (.int .i64 (sumN 2 p : Nat)) ∧ ∃ q, w' = w.drewN q := by
  have hpAt : ∀ (x q : Nat), x < 2 → Calls Try.prog g (#[.int .i64 x] ++ lb) (w.drewN q) fun e w' => e = .returned (.bool (p x)) ∧ ∃ q', w' = (w.drewN q).drewN q' := fun x q hx => hp _ x hx (pw_below_drewN (Below.refl _ w) q)
  clear hp
  go_enter Try.func75, Try.ntmps75
  go_wp2
  go_loopg [5, 9] 2 (fun gg s5 s9 wr => ∃ kk q : Nat, kk ≤ 2 ∧ 2 - kk ≤ gg ∧ s9 = .int .i64 kk ∧ s5 = .int .i64 (sumN kk p : Nat) ∧ wr = w.drewN q)
  case atStart => exact ⟨0, 0, by omega, by omega, rfl, rfl, rfl⟩
  case round =>
    obtain ⟨kk, q, hkk, hg, rfl, rfl, rfl⟩ := hrel
    by_cases hlt : kk < 2
    · have hltz : (kk : Int) < 2 := by omega
      have hk0 : (0 : Int) ≤ kk := by omega
      have hcall := hpAt kk q hlt
      cases hq : p kk with
      | true =>
        rw [hq] at hcall
        have HQ := Lib.hid hq
        clear hq
        go_wp2_with fail
        refine hcall.mono ?_
        rintro e w' ⟨rfl, q', rfl⟩
        go_wp2
        go_roundg (2 - (kk + 1))
        case measure => omega
        case rel => exact ⟨kk + 1, _, by omega, by omega, by go_num, by rw [or_step64 kk p (by omega) HQ.out], rfl⟩
      | false =>
        rw [hq] at hcall
        have HQ := Lib.hid hq
        clear hq
        go_wp2_with fail
        refine hcall.mono ?_
        rintro e w' ⟨rfl, q', rfl⟩
        go_wp2
        go_roundg (2 - (kk + 1))
        case measure => omega
        case rel => exact ⟨kk + 1, _, by omega, by omega, by go_num, by rw [sumN_skip kk p HQ.out], rfl⟩
    · have : kk = 2 := by omega
      subst this
      go_wp2
      go_ret
      exact ⟨rfl, q, rfl⟩

set_option maxHeartbeats 2000000 in
theorem setThat_2 (g : Nat) (lb : Array Value) (eg : ∀ args w, (callFunc g args).run Try.prog w = .ok (.enter g args) w) (p : Nat → Bool) (w : World) (hp : Tells g lb 4 p w) :
    Calls Try.prog 75 #[.int .i64 2, .func (.func g) #[] lb] w fun e w' => e = .returned (.int .i64 (sumN 4 p : Nat)) ∧ ∃ q, w' = w.drewN q := by
  have hpAt : ∀ (x q : Nat), x < 4 → Calls Try.prog g (#[.int .i64 x] ++ lb) (w.drewN q) fun e w' => e = .returned (.bool (p x)) ∧ ∃ q', w' = (w.drewN q).drewN q' := fun x q hx => hp _ x hx (pw_below_drewN (Below.refl _ w) q)
  clear hp
  go_enter Try.func75, Try.ntmps75
  go_wp2
  go_loopg [5, 9] 4 (fun gg s5 s9 wr => ∃ kk q : Nat, kk ≤ 4 ∧ 4 - kk ≤ gg ∧ s9 = .int .i64 kk ∧ s5 = .int .i64 (sumN kk p : Nat) ∧ wr = w.drewN q)
  case atStart => exact ⟨0, 0, by omega, by omega, rfl, rfl, rfl⟩
  case round =>
    obtain ⟨kk, q, hkk, hg, rfl, rfl, rfl⟩ := hrel
    by_cases hlt : kk < 4
    · have hltz : (kk : Int) < 4 := by omega
      have hk0 : (0 : Int) ≤ kk := by omega
      have hcall := hpAt kk q hlt
      cases hq : p kk with
      | true =>
        rw [hq] at hcall
        have HQ := Lib.hid hq
        clear hq
        go_wp2_with fail
        refine hcall.mono ?_
        rintro e w' ⟨rfl, q', rfl⟩
        go_wp2
        go_roundg (4 - (kk + 1))
        case measure => omega
        case rel => exact ⟨kk + 1, _, by omega, by omega, by go_num, by rw [or_step64 kk p (by omega) HQ.out], rfl⟩
      | false =>
        rw [hq] at hcall
        have HQ := Lib.hid hq
        clear hq
        go_wp2_with fail
        refine hcall.mono ?_
        rintro e w' ⟨rfl, q', rfl⟩
        go_wp2
        go_roundg (4 - (kk + 1))
        case measure => omega
        case rel => exact ⟨kk + 1, _, by omega, by omega, by go_num, by rw [sumN_skip kk p HQ.out], rfl⟩
    · have : kk = 4 := by omega
      subst this
      go_wp2
      go_ret
      exact ⟨rfl, q, rfl⟩

set_option maxHeartbeats 2000000 in
theorem setThat_3 (g : Nat) (lb : Array Value) (eg : ∀ args w, (callFunc g args).run Try.prog w = .ok (.enter g args) w) (p : Nat → Bool) (w : World) (hp : Tells g lb 8 p w) :
    Calls Try.prog 75 #[.int .i64 3, .func (.func g) #[] lb] w fun e w' => e = .returned (.int .i64 (sumN 8 p : Nat)) ∧ ∃ q, w' = w.drewN q := by
  have hpAt : ∀ (x q : Nat), x < 8 → Calls Try.prog g (#[.int .i64 x] ++ lb) (w.drewN q) fun e w' => e = .returned (.bool (p x)) ∧ ∃ q', w' = (w.drewN q).drewN q' := fun x q hx => hp _ x hx (pw_below_drewN (Below.refl _ w) q)
  clear hp
  go_enter Try.func75, Try.ntmps75
  go_wp2
  go_loopg [5, 9] 8 (fun gg s5 s9 wr => ∃ kk q : Nat, kk ≤ 8 ∧ 8 - kk ≤ gg ∧ s9 = .int .i64 kk ∧ s5 = .int .i64 (sumN kk p : Nat) ∧ wr = w.drewN q)
  case atStart => exact ⟨0, 0, by omega, by omega, rfl, rfl, rfl⟩
  case round =>
    obtain ⟨kk, q, hkk, hg, rfl, rfl, rfl⟩ := hrel
    by_cases hlt : kk < 8
    · have hltz : (kk : Int) < 8 := by omega
      have hk0 : (0 : Int) ≤ kk := by omega
      have hcall := hpAt kk q hlt
      cases hq : p kk with
      | true =>
        rw [hq] at hcall
        have HQ := Lib.hid hq
        clear hq
        go_wp2_with fail
        refine hcall.mono ?_
        rintro e w' ⟨rfl, q', rfl⟩
        go_wp2
        go_roundg (8 - (kk + 1))
        case measure => omega
        case rel => exact ⟨kk + 1, _, by omega, by omega, by go_num, by rw [or_step64 kk p (by omega) HQ.out], rfl⟩
      | false =>
        rw [hq] at hcall
        have HQ := Lib.hid hq
        clear hq
        go_wp2_with fail
        refine hcall.mono ?_
        rintro e w' ⟨rfl, q', rfl⟩
        go_wp2
        go_roundg (8 - (kk + 1))
        case measure => omega
        case rel => exact ⟨kk + 1, _, by omega, by omega, by go_num, by rw [sumN_skip kk p HQ.out], rfl⟩
    · have : kk = 8 := by omega
      subst this
      go_wp2
      go_ret
      exact ⟨rfl, q, rfl⟩

theorem setThat_at (n : Nat) (t : Int) (h : t = 1 ∧ n = 2 ∨ t = 2 ∧ n = 4 ∨ t = 3 ∧ n = 8) (g : Nat) (lb : Array Value) (eg : ∀ args w, (callFunc g args).run Try.prog w = .ok (.enter g args) w) (p : Nat → Bool) (w : World) (hp : Tells g lb n p w) :
    Calls Try.prog 75 #[.int .i64 t, .func (.func g) #[] lb] w fun e w' => e = .returned (.int .i64 (sumN n p : Nat)) ∧ ∃ q, w' = w.drewN q := by
  rcases h with ⟨rfl, rfl⟩ | ⟨rfl, rfl⟩ | ⟨rfl, rfl⟩
  · exact setThat_1 g lb eg p w hp
  · exact setThat_2 g lb eg p w hp
  · exact setThat_3 g lb eg p w hp

end Go.Proofs.Ytgmnbegemgankaa.Hand
