/- allWorlds, l1All and whole return the set of all worlds, for 1, 2 and 3 things. -/
import Derived.Test.YtniniocdniegnaaProg
import Derived.Test.YtniniocdniegnaaHandF
import Derived.RowKit
import Derived.OwnWalk
import Derived.WalkKit
import Derived.KernelRfl
import Derived.Test.YtniniocdniegnaaWWords
import Derived.Test.YtniniocdniegnaaWMore
namespace Go.Proofs.Ytniniocdniegnaa.Hand
open Go.RowKit Go.Proofs.YtniniocdniegnaaW.PrintWords Go.Proofs.YtniniocdniegnaaW.PrintLast Go.Proofs.YtniniocdniegnaaW.PrintMore
set_option linter.unusedVariables false
set_option linter.unusedSimpArgs false

/-- The set of all worlds, where there may be so many things. -/
def allF (t : Int) : Option Int := if okT t = true then some (allW t) else none

def impl_allWorlds.f (t : Int) : Option Int := allF t
theorem impl_allWorlds.calls (t : Int) (r : Int) (w : World) (h : impl_allWorlds.f t = some r) : Calls Try.prog 94 #[.int .i64 t] w fun e w' => e = .returned (.int .i64 r) ∧ Drawn0 w w' := by
  unfold impl_allWorlds.f allF at h
  cases ht : okT t with
  | false => rw [ht] at h; simp at h
  | true =>
    rw [ht] at h; rcases okT_cases ht with rfl | rfl | rfl <;> (obtain rfl := Option.some.inj h; clear h ht; go_enter Try.func94, Try.ntmps94; go_wp2; go_ret; exact ⟨rfl, Drawn0.refl _⟩)

def spec_l1All.f (t : Int) : Option Int := allF t
theorem spec_l1All.calls (t : Int) (r : Int) (w : World) (h : spec_l1All.f t = some r) : Calls Try.prog 63 #[.int .i64 t] w fun e w' => e = .returned (.int .i64 r) ∧ Drawn0 w w' := by
  unfold spec_l1All.f allF at h
  cases ht : okT t with
  | false => rw [ht] at h; simp at h
  | true =>
    rw [ht] at h; rcases okT_cases ht with rfl | rfl | rfl <;> (obtain rfl := Option.some.inj h; clear h ht; go_enter Try.func63, Try.ntmps63; go_wp2; go_ret; exact ⟨rfl, Drawn0.refl _⟩)

def laws_whole.f (t : Int) : Option Int := allF t
theorem laws_whole.calls (t : Int) (r : Int) (w : World) (h : laws_whole.f t = some r) : Calls Try.prog 32 #[.int .i64 t] w fun e w' => e = .returned (.int .i64 r) ∧ Below w.heap.size w w' := by
  unfold laws_whole.f allF at h
  cases ht : okT t with
  | false => rw [ht] at h; simp at h
  | true =>
    rw [ht] at h; rcases okT_cases ht with rfl | rfl | rfl <;> (obtain rfl := Option.some.inj h; clear h ht; go_enter Try.func32, Try.ntmps32; go_wp2; go_ret; exact ⟨rfl, Below.refl _ _⟩)

end Go.Proofs.Ytniniocdniegnaa.Hand
