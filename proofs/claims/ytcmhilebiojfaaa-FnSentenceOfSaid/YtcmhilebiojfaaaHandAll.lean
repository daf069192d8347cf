/- allWorlds, l1All and whole return the set of all worlds, for 1, 2 and 3 things. -/
import Derived.Test.YtcmhilebiojfaaaProg
import Derived.Test.YtcmhilebiojfaaaHandF
import Derived.RowKit
import Derived.OwnWalk
import Derived.WalkKit
import Derived.KernelRfl
import Derived.Test.YtcmhilebiojfaaaWWords
import Derived.Test.YtcmhilebiojfaaaWMore
namespace Go.Proofs.Ytcmhilebiojfaaa.Hand
open Go.RowKit Go.Proofs.YtcmhilebiojfaaaW.PrintWords Go.Proofs.YtcmhilebiojfaaaW.PrintLast Go.Proofs.YtcmhilebiojfaaaW.PrintMore
set_option linter.unusedVariables false
set_option linter.unusedSimpArgs false

/-- The set of all worlds, where there may be so many things. -/
def allF (t : Int) : Option Int := if okT t = true then some (allW t) else none

def impl_allWorlds.f (t : Int) : Option Int := allF t
theorem impl_allWorlds.calls (t : Int) (r : Int) (w : World) (h : impl_allWorlds.f t = some r) : Calls Try.prog 64 #[.int .i64 t] w fun e w' => e = .returned (.int .i64 r) ∧ Drawn0 w w' := by
  unfold impl_allWorlds.f allF at h
  cases ht : okT t with
  | false => rw [ht] at h; simp at h
  | true =>
    rw [ht] at h; rcases okT_cases ht with rfl | rfl | rfl <;> (obtain rfl := Option.some.inj h; clear h ht; go_enter Try.func64, Try.ntmps64; go_wp2; go_ret; exact ⟨rfl, Drawn0.refl _⟩)

def spec_l1All.f (t : Int) : Option Int := allF t
theorem spec_l1All.calls (t : Int) (r : Int) (w : World) (h : spec_l1All.f t = some r) : Calls Try.prog 45 #[.int .i64 t] w fun e w' => e = .returned (.int .i64 r) ∧ Drawn0 w w' := by
  unfold spec_l1All.f allF at h
  cases ht : okT t with
  | false => rw [ht] at h; simp at h
  | true =>
    rw [ht] at h; rcases okT_cases ht with rfl | rfl | rfl <;> (obtain rfl := Option.some.inj h; clear h ht; go_enter Try.func45, Try.ntmps45; go_wp2; go_ret; exact ⟨rfl, Drawn0.refl _⟩)

def laws_whole.f (t : Int) : Option Int := allF t
theorem laws_whole.calls (t : Int) (r : Int) (w : World) (h : laws_whole.f t = some r) : Calls Try.prog 26 #[.int .i64 t] w fun e w' => e = .returned (.int .i64 r) ∧ Below w.heap.size w w' := by
  unfold laws_whole.f allF at h
  cases ht : okT t with
  | false => rw [ht] at h; simp at h
  | true =>
    rw [ht] at h; rcases okT_cases ht with rfl | rfl | rfl <;> (obtain rfl := Option.some.inj h; clear h ht; go_enter Try.func26, Try.ntmps26; go_wp2; go_ret; exact ⟨rfl, Below.refl _ _⟩)

end Go.Proofs.Ytcmhilebiojfaaa.Hand
