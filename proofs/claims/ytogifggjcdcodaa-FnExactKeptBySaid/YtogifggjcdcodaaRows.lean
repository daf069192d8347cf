/-
  No cell of these rows narrows 'for every input' (looked for: loops, veiled, ifaces, maps, wideKeys, modest, calm, conditions, laid).
  DERIVED. THE GIVEN ROWS OF THIS SEAT. 12 by the template 'for every input the law returns true; each argument reads behind the call as it read before'; 0 by the template 'total and deterministic' (their statements: YtogifggjcdcodaaTotals.lean).
  GIVEN WITH THE SEED: the statements are not yours to turn. If you find one false, say at which input.
  Laid BY PROGRAM, IN A SANDBOX (cutbox-rows.mjs): the forced cells as the released guide's own fill.sh prints them over the translation 11f3a7dda2f52a2f… (all of the seat's roots in one cut). By AI agents, Wed Nov 11 2026. No macro, syntax, notation, axiom, sorry.
-/
import Derived.Test.YtogifggjcdcodaaChecked
import GoSem.Claim
import GoSem.ClaimJoined
import GoSem.ClaimMapViews
import Derived.JoinedTies
import Derived.KernelRfl
namespace Go.Proofs.Ytogifggjcdcodaa
/- THE CELL 'sum', in the pinned program and in every row, IS THE sha256 OF THE DUMP (.gsa) THAT YtogifggjcdcodaaProg.lean LOADS. Nothing in Lean hashes anything: it is a label: what it is worth is what the hold of that sum in a sandbox is worth. -/
noncomputable def Try.pinned : Pinned := { name := "ytogifggjcdcodaa", sum := "11f3a7dda2f52a2fb0de98be747037e6ae18ba3021389cbbd6205dbd2d229f3a", checked := Try.checked }
namespace Rows
def none {H : Type} : Left H := { results := [], args := [] }

/-- 'laws.FnExactCoreOf': WHATEVER THE INPUT: true; the input reads as it did. -/
def fnExactCoreOfSpec : ChangeSpec := { name := "fnExactCoreOf", fn := fun _ => fun
  | [d1, d2] => { results := [.lit (.bool true)], args := [d1, d2] }
  | _ => none }
def fnExactCoreOfRow : OpenClaim := { program := "ytogifggjcdcodaa", sum := "11f3a7dda2f52a2fb0de98be747037e6ae18ba3021389cbbd6205dbd2d229f3a", func := "loop.example/beliefchanges/laws.FnExactCoreOf", spec := "fnExactCoreOf", unfollowed := true, recurses := true, apart := false }
def FnExactCoreOfSaid : Prop := fnExactCoreOfRow.holds Try.pinned (OpenSpec.ofChange fnExactCoreOfSpec)

/-- ITS FALSE NEIGHBOUR: 'it returns false'. Refute it at one input. -/
def fnExactCoreOfWrong : ChangeSpec := { name := "fnExactCoreOf", fn := fun _ => fun
  | [d1, d2] => { results := [.lit (.bool false)], args := [d1, d2] }
  | _ => none }
def FnExactCoreOfWrongFalsely : Prop := fnExactCoreOfRow.holds Try.pinned (OpenSpec.ofChange fnExactCoreOfWrong)

/-- 'laws.FnExactFirmnessOf': WHATEVER THE INPUT: true; the input reads as it did. -/
def fnExactFirmnessOfSpec : ChangeSpec := { name := "fnExactFirmnessOf", fn := fun _ => fun
  | [d1, d2, d3] => { results := [.lit (.bool true)], args := [d1, d2, d3] }
  | _ => none }
def fnExactFirmnessOfRow : OpenClaim := { program := "ytogifggjcdcodaa", sum := "11f3a7dda2f52a2fb0de98be747037e6ae18ba3021389cbbd6205dbd2d229f3a", func := "loop.example/beliefchanges/laws.FnExactFirmnessOf", spec := "fnExactFirmnessOf", apart := false }
def FnExactFirmnessOfSaid : Prop := fnExactFirmnessOfRow.holds Try.pinned (OpenSpec.ofChange fnExactFirmnessOfSpec)

/-- ITS FALSE NEIGHBOUR: 'it returns false'. Refute it at one input. -/
def fnExactFirmnessOfWrong : ChangeSpec := { name := "fnExactFirmnessOf", fn := fun _ => fun
  | [d1, d2, d3] => { results := [.lit (.bool false)], args := [d1, d2, d3] }
  | _ => none }
def FnExactFirmnessOfWrongFalsely : Prop := fnExactFirmnessOfRow.holds Try.pinned (OpenSpec.ofChange fnExactFirmnessOfWrong)

/-- 'laws.FnRankOk': WHATEVER THE INPUT: true; the input reads as it did. -/
def fnRankOkSpec : ChangeSpec := { name := "fnRankOk", fn := fun _ => fun
  | [d] => { results := [.lit (.bool true)], args := [d] }
  | _ => none }
def fnRankOkRow : OpenClaim := { program := "ytogifggjcdcodaa", sum := "11f3a7dda2f52a2fb0de98be747037e6ae18ba3021389cbbd6205dbd2d229f3a", func := "loop.example/beliefchanges/laws.FnRankOk", spec := "fnRankOk", apart := false }
def FnRankOkSaid : Prop := fnRankOkRow.holds Try.pinned (OpenSpec.ofChange fnRankOkSpec)

/-- ITS FALSE NEIGHBOUR: 'it returns false'. Refute it at one input. -/
def fnRankOkWrong : ChangeSpec := { name := "fnRankOk", fn := fun _ => fun
  | [d] => { results := [.lit (.bool false)], args := [d] }
  | _ => none }
def FnRankOkWrongFalsely : Prop := fnRankOkRow.holds Try.pinned (OpenSpec.ofChange fnRankOkWrong)

/-- 'laws.FnTableFrom': WHATEVER THE INPUT: true; the input reads as it did. -/
def fnTableFromSpec : ChangeSpec := { name := "fnTableFrom", fn := fun _ => fun
  | [d] => { results := [.lit (.bool true)], args := [d] }
  | _ => none }
def fnTableFromRow : OpenClaim := { program := "ytogifggjcdcodaa", sum := "11f3a7dda2f52a2fb0de98be747037e6ae18ba3021389cbbd6205dbd2d229f3a", func := "loop.example/beliefchanges/laws.FnTableFrom", spec := "fnTableFrom", unfollowed := true, recurses := true, apart := false }
def FnTableFromSaid : Prop := fnTableFromRow.holds Try.pinned (OpenSpec.ofChange fnTableFromSpec)

/-- ITS FALSE NEIGHBOUR: 'it returns false'. Refute it at one input. -/
def fnTableFromWrong : ChangeSpec := { name := "fnTableFrom", fn := fun _ => fun
  | [d] => { results := [.lit (.bool false)], args := [d] }
  | _ => none }
def FnTableFromWrongFalsely : Prop := fnTableFromRow.holds Try.pinned (OpenSpec.ofChange fnTableFromWrong)

/-- 'laws.FnExactFirstFault': WHATEVER THE INPUT: true; the input reads as it did. -/
def fnExactFirstFaultSpec : ChangeSpec := { name := "fnExactFirstFault", fn := fun _ => fun
  | [d1, d2] => { results := [.lit (.bool true)], args := [d1, d2] }
  | _ => none }
def fnExactFirstFaultRow : OpenClaim := { program := "ytogifggjcdcodaa", sum := "11f3a7dda2f52a2fb0de98be747037e6ae18ba3021389cbbd6205dbd2d229f3a", func := "loop.example/beliefchanges/laws.FnExactFirstFault", spec := "fnExactFirstFault", unfollowed := true, recurses := true, apart := false }
def FnExactFirstFaultSaid : Prop := fnExactFirstFaultRow.holds Try.pinned (OpenSpec.ofChange fnExactFirstFaultSpec)

/-- ITS FALSE NEIGHBOUR: 'it returns false'. Refute it at one input. -/
def fnExactFirstFaultWrong : ChangeSpec := { name := "fnExactFirstFault", fn := fun _ => fun
  | [d1, d2] => { results := [.lit (.bool false)], args := [d1, d2] }
  | _ => none }
def FnExactFirstFaultWrongFalsely : Prop := fnExactFirstFaultRow.holds Try.pinned (OpenSpec.ofChange fnExactFirstFaultWrong)

/-- 'laws.FnExactExpandedBy': WHATEVER THE INPUT: true; the input reads as it did. -/
def fnExactExpandedBySpec : ChangeSpec := { name := "fnExactExpandedBy", fn := fun _ => fun
  | [d1, d2, d3] => { results := [.lit (.bool true)], args := [d1, d2, d3] }
  | _ => none }
def fnExactExpandedByRow : OpenClaim := { program := "ytogifggjcdcodaa", sum := "11f3a7dda2f52a2fb0de98be747037e6ae18ba3021389cbbd6205dbd2d229f3a", func := "loop.example/beliefchanges/laws.FnExactExpandedBy", spec := "fnExactExpandedBy", unfollowed := true, recurses := true, apart := false }
def FnExactExpandedBySaid : Prop := fnExactExpandedByRow.holds Try.pinned (OpenSpec.ofChange fnExactExpandedBySpec)

/-- ITS FALSE NEIGHBOUR: 'it returns false'. Refute it at one input. -/
def fnExactExpandedByWrong : ChangeSpec := { name := "fnExactExpandedBy", fn := fun _ => fun
  | [d1, d2, d3] => { results := [.lit (.bool false)], args := [d1, d2, d3] }
  | _ => none }
def FnExactExpandedByWrongFalsely : Prop := fnExactExpandedByRow.holds Try.pinned (OpenSpec.ofChange fnExactExpandedByWrong)

/-- 'laws.FnExactRevisedBy': WHATEVER THE INPUT: true; the input reads as it did. -/
def fnExactRevisedBySpec : ChangeSpec := { name := "fnExactRevisedBy", fn := fun _ => fun
  | [d1, d2, d3] => { results := [.lit (.bool true)], args := [d1, d2, d3] }
  | _ => none }
def fnExactRevisedByRow : OpenClaim := { program := "ytogifggjcdcodaa", sum := "11f3a7dda2f52a2fb0de98be747037e6ae18ba3021389cbbd6205dbd2d229f3a", func := "loop.example/beliefchanges/laws.FnExactRevisedBy", spec := "fnExactRevisedBy", unfollowed := true, recurses := true, apart := false }
def FnExactRevisedBySaid : Prop := fnExactRevisedByRow.holds Try.pinned (OpenSpec.ofChange fnExactRevisedBySpec)

/-- ITS FALSE NEIGHBOUR: 'it returns false'. Refute it at one input. -/
def fnExactRevisedByWrong : ChangeSpec := { name := "fnExactRevisedBy", fn := fun _ => fun
  | [d1, d2, d3] => { results := [.lit (.bool false)], args := [d1, d2, d3] }
  | _ => none }
def FnExactRevisedByWrongFalsely : Prop := fnExactRevisedByRow.holds Try.pinned (OpenSpec.ofChange fnExactRevisedByWrong)

/-- 'laws.FnExactGiveFault': WHATEVER THE INPUT: true; the input reads as it did. -/
def fnExactGiveFaultSpec : ChangeSpec := { name := "fnExactGiveFault", fn := fun _ => fun
  | [d1, d2] => { results := [.lit (.bool true)], args := [d1, d2] }
  | _ => none }
def fnExactGiveFaultRow : OpenClaim := { program := "ytogifggjcdcodaa", sum := "11f3a7dda2f52a2fb0de98be747037e6ae18ba3021389cbbd6205dbd2d229f3a", func := "loop.example/beliefchanges/laws.FnExactGiveFault", spec := "fnExactGiveFault", unfollowed := true, recurses := true, apart := false }
def FnExactGiveFaultSaid : Prop := fnExactGiveFaultRow.holds Try.pinned (OpenSpec.ofChange fnExactGiveFaultSpec)

/-- ITS FALSE NEIGHBOUR: 'it returns false'. Refute it at one input. -/
def fnExactGiveFaultWrong : ChangeSpec := { name := "fnExactGiveFault", fn := fun _ => fun
  | [d1, d2] => { results := [.lit (.bool false)], args := [d1, d2] }
  | _ => none }
def FnExactGiveFaultWrongFalsely : Prop := fnExactGiveFaultRow.holds Try.pinned (OpenSpec.ofChange fnExactGiveFaultWrong)

/-- 'laws.FnExactKeptBy': WHATEVER THE INPUT: true; the input reads as it did. -/
def fnExactKeptBySpec : ChangeSpec := { name := "fnExactKeptBy", fn := fun _ => fun
  | [d1, d2, d3, d4] => { results := [.lit (.bool true)], args := [d1, d2, d3, d4] }
  | _ => none }
def fnExactKeptByRow : OpenClaim := { program := "ytogifggjcdcodaa", sum := "11f3a7dda2f52a2fb0de98be747037e6ae18ba3021389cbbd6205dbd2d229f3a", func := "loop.example/beliefchanges/laws.FnExactKeptBy", spec := "fnExactKeptBy", apart := false }
def FnExactKeptBySaid : Prop := fnExactKeptByRow.holds Try.pinned (OpenSpec.ofChange fnExactKeptBySpec)

/-- ITS FALSE NEIGHBOUR: 'it returns false'. Refute it at one input. -/
def fnExactKeptByWrong : ChangeSpec := { name := "fnExactKeptBy", fn := fun _ => fun
  | [d1, d2, d3, d4] => { results := [.lit (.bool false)], args := [d1, d2, d3, d4] }
  | _ => none }
def FnExactKeptByWrongFalsely : Prop := fnExactKeptByRow.holds Try.pinned (OpenSpec.ofChange fnExactKeptByWrong)

/-- 'laws.FnExactBelieves': WHATEVER THE INPUT: true; the input reads as it did. -/
def fnExactBelievesSpec : ChangeSpec := { name := "fnExactBelieves", fn := fun _ => fun
  | [d1, d2, d3, d4] => { results := [.lit (.bool true)], args := [d1, d2, d3, d4] }
  | _ => none }
def fnExactBelievesRow : OpenClaim := { program := "ytogifggjcdcodaa", sum := "11f3a7dda2f52a2fb0de98be747037e6ae18ba3021389cbbd6205dbd2d229f3a", func := "loop.example/beliefchanges/laws.FnExactBelieves", spec := "fnExactBelieves", unfollowed := true, recurses := true, apart := false }
def FnExactBelievesSaid : Prop := fnExactBelievesRow.holds Try.pinned (OpenSpec.ofChange fnExactBelievesSpec)

/-- ITS FALSE NEIGHBOUR: 'it returns false'. Refute it at one input. -/
def fnExactBelievesWrong : ChangeSpec := { name := "fnExactBelieves", fn := fun _ => fun
  | [d1, d2, d3, d4] => { results := [.lit (.bool false)], args := [d1, d2, d3, d4] }
  | _ => none }
def FnExactBelievesWrongFalsely : Prop := fnExactBelievesRow.holds Try.pinned (OpenSpec.ofChange fnExactBelievesWrong)

/-- 'laws.FnExactHoldsIn': WHATEVER THE INPUT: true; the input reads as it did. -/
def fnExactHoldsInSpec : ChangeSpec := { name := "fnExactHoldsIn", fn := fun _ => fun
  | [d1, d2] => { results := [.lit (.bool true)], args := [d1, d2] }
  | _ => none }
def fnExactHoldsInRow : OpenClaim := { program := "ytogifggjcdcodaa", sum := "11f3a7dda2f52a2fb0de98be747037e6ae18ba3021389cbbd6205dbd2d229f3a", func := "loop.example/beliefchanges/laws.FnExactHoldsIn", spec := "fnExactHoldsIn", unfollowed := true, recurses := true, apart := false }
def FnExactHoldsInSaid : Prop := fnExactHoldsInRow.holds Try.pinned (OpenSpec.ofChange fnExactHoldsInSpec)

/-- ITS FALSE NEIGHBOUR: 'it returns false'. Refute it at one input. -/
def fnExactHoldsInWrong : ChangeSpec := { name := "fnExactHoldsIn", fn := fun _ => fun
  | [d1, d2] => { results := [.lit (.bool false)], args := [d1, d2] }
  | _ => none }
def FnExactHoldsInWrongFalsely : Prop := fnExactHoldsInRow.holds Try.pinned (OpenSpec.ofChange fnExactHoldsInWrong)

/-- 'laws.FnExactGivenUp': WHATEVER THE INPUT: true; the input reads as it did. -/
def fnExactGivenUpSpec : ChangeSpec := { name := "fnExactGivenUp", fn := fun _ => fun
  | [d1, d2, d3] => { results := [.lit (.bool true)], args := [d1, d2, d3] }
  | _ => none }
def fnExactGivenUpRow : OpenClaim := { program := "ytogifggjcdcodaa", sum := "11f3a7dda2f52a2fb0de98be747037e6ae18ba3021389cbbd6205dbd2d229f3a", func := "loop.example/beliefchanges/laws.FnExactGivenUp", spec := "fnExactGivenUp", unfollowed := true, recurses := true, apart := false }
def FnExactGivenUpSaid : Prop := fnExactGivenUpRow.holds Try.pinned (OpenSpec.ofChange fnExactGivenUpSpec)

/-- ITS FALSE NEIGHBOUR: 'it returns false'. Refute it at one input. -/
def fnExactGivenUpWrong : ChangeSpec := { name := "fnExactGivenUp", fn := fun _ => fun
  | [d1, d2, d3] => { results := [.lit (.bool false)], args := [d1, d2, d3] }
  | _ => none }
def FnExactGivenUpWrongFalsely : Prop := fnExactGivenUpRow.holds Try.pinned (OpenSpec.ofChange fnExactGivenUpWrong)

/- THE SECOND FORM. 'bulk': how many values and letters a reading holds, each counted each time it is reached (what is shared counts as often as it is met; a slice's spare places count too). A statement '..UptoSaid' is the law's where the arguments, and the package variables that the reading takes, are together of bulk at most 1048576: NARROWER than '..Said'. Prove '..Said' where nothing that the law and all that it calls make is longer than what came in: it says more and counts as full. Else prove '..UptoSaid'. A law counts once. -/
mutual
def uptoBulk {H : Type} : DataW H → Nat
  | .lit (.string bytes) => bytes.length + 1
  | .lit _ => 1
  | .nil => 1
  | .ptr d => uptoBulk d + 1
  | .slice elems spare => uptoBulkAll elems + uptoBulkAll spare + 1
  | .agg parts => uptoBulkAll parts + 1
  | .iface _ d => uptoBulk d + 1
  | .map entries => uptoBulkEntries entries + 1
  | .held _ => 1
def uptoBulkAll {H : Type} : List (DataW H) → Nat
  | [] => 0
  | d :: r => uptoBulk d + uptoBulkAll r
def uptoBulkEntries {H : Type} : List (Lit × DataW H) → Nat
  | [] => 0
  | x :: r => uptoBulkEntry x + uptoBulkEntries r
def uptoBulkEntry {H : Type} : Lit × DataW H → Nat
  | (.string bytes, d) => bytes.length + uptoBulk d + 1
  | (_, d) => uptoBulk d + 1
 end
def uptoSmall : (H : Type) → List (DataW H) → Bool := fun _ ds => decide (uptoBulkAll ds ≤ 1048576)
def OpenSpec.upto (s : _root_.Go.ChangeSpec) : _root_.Go.OpenSpec := { _root_.Go.OpenSpec.ofChange s with cond := some uptoSmall }

/-- 'laws.FnExactCoreOf', WHERE WHAT IT READS IS OF BULK AT MOST 1048576: true; the input reads as it did. -/
def fnExactCoreOfUptoRow : OpenClaim := { program := "ytogifggjcdcodaa", sum := "11f3a7dda2f52a2fb0de98be747037e6ae18ba3021389cbbd6205dbd2d229f3a", func := "loop.example/beliefchanges/laws.FnExactCoreOf", spec := "fnExactCoreOf", unfollowed := true, recurses := true, apart := false, narrowed := true }
def FnExactCoreOfUptoSaid : Prop := fnExactCoreOfUptoRow.holds Try.pinned (OpenSpec.upto fnExactCoreOfSpec)

/-- 'laws.FnExactFirmnessOf', WHERE WHAT IT READS IS OF BULK AT MOST 1048576: true; the input reads as it did. -/
def fnExactFirmnessOfUptoRow : OpenClaim := { program := "ytogifggjcdcodaa", sum := "11f3a7dda2f52a2fb0de98be747037e6ae18ba3021389cbbd6205dbd2d229f3a", func := "loop.example/beliefchanges/laws.FnExactFirmnessOf", spec := "fnExactFirmnessOf", apart := false, narrowed := true }
def FnExactFirmnessOfUptoSaid : Prop := fnExactFirmnessOfUptoRow.holds Try.pinned (OpenSpec.upto fnExactFirmnessOfSpec)

/-- 'laws.FnRankOk', WHERE WHAT IT READS IS OF BULK AT MOST 1048576: true; the input reads as it did. -/
def fnRankOkUptoRow : OpenClaim := { program := "ytogifggjcdcodaa", sum := "11f3a7dda2f52a2fb0de98be747037e6ae18ba3021389cbbd6205dbd2d229f3a", func := "loop.example/beliefchanges/laws.FnRankOk", spec := "fnRankOk", apart := false, narrowed := true }
def FnRankOkUptoSaid : Prop := fnRankOkUptoRow.holds Try.pinned (OpenSpec.upto fnRankOkSpec)

/-- 'laws.FnTableFrom', WHERE WHAT IT READS IS OF BULK AT MOST 1048576: true; the input reads as it did. -/
def fnTableFromUptoRow : OpenClaim := { program := "ytogifggjcdcodaa", sum := "11f3a7dda2f52a2fb0de98be747037e6ae18ba3021389cbbd6205dbd2d229f3a", func := "loop.example/beliefchanges/laws.FnTableFrom", spec := "fnTableFrom", unfollowed := true, recurses := true, apart := false, narrowed := true }
def FnTableFromUptoSaid : Prop := fnTableFromUptoRow.holds Try.pinned (OpenSpec.upto fnTableFromSpec)

/-- 'laws.FnExactFirstFault', WHERE WHAT IT READS IS OF BULK AT MOST 1048576: true; the input reads as it did. -/
def fnExactFirstFaultUptoRow : OpenClaim := { program := "ytogifggjcdcodaa", sum := "11f3a7dda2f52a2fb0de98be747037e6ae18ba3021389cbbd6205dbd2d229f3a", func := "loop.example/beliefchanges/laws.FnExactFirstFault", spec := "fnExactFirstFault", unfollowed := true, recurses := true, apart := false, narrowed := true }
def FnExactFirstFaultUptoSaid : Prop := fnExactFirstFaultUptoRow.holds Try.pinned (OpenSpec.upto fnExactFirstFaultSpec)

/-- 'laws.FnExactExpandedBy', WHERE WHAT IT READS IS OF BULK AT MOST 1048576: true; the input reads as it did. -/
def fnExactExpandedByUptoRow : OpenClaim := { program := "ytogifggjcdcodaa", sum := "11f3a7dda2f52a2fb0de98be747037e6ae18ba3021389cbbd6205dbd2d229f3a", func := "loop.example/beliefchanges/laws.FnExactExpandedBy", spec := "fnExactExpandedBy", unfollowed := true, recurses := true, apart := false, narrowed := true }
def FnExactExpandedByUptoSaid : Prop := fnExactExpandedByUptoRow.holds Try.pinned (OpenSpec.upto fnExactExpandedBySpec)

/-- 'laws.FnExactRevisedBy', WHERE WHAT IT READS IS OF BULK AT MOST 1048576: true; the input reads as it did. -/
def fnExactRevisedByUptoRow : OpenClaim := { program := "ytogifggjcdcodaa", sum := "11f3a7dda2f52a2fb0de98be747037e6ae18ba3021389cbbd6205dbd2d229f3a", func := "loop.example/beliefchanges/laws.FnExactRevisedBy", spec := "fnExactRevisedBy", unfollowed := true, recurses := true, apart := false, narrowed := true }
def FnExactRevisedByUptoSaid : Prop := fnExactRevisedByUptoRow.holds Try.pinned (OpenSpec.upto fnExactRevisedBySpec)

/-- 'laws.FnExactGiveFault', WHERE WHAT IT READS IS OF BULK AT MOST 1048576: true; the input reads as it did. -/
def fnExactGiveFaultUptoRow : OpenClaim := { program := "ytogifggjcdcodaa", sum := "11f3a7dda2f52a2fb0de98be747037e6ae18ba3021389cbbd6205dbd2d229f3a", func := "loop.example/beliefchanges/laws.FnExactGiveFault", spec := "fnExactGiveFault", unfollowed := true, recurses := true, apart := false, narrowed := true }
def FnExactGiveFaultUptoSaid : Prop := fnExactGiveFaultUptoRow.holds Try.pinned (OpenSpec.upto fnExactGiveFaultSpec)

/-- 'laws.FnExactKeptBy', WHERE WHAT IT READS IS OF BULK AT MOST 1048576: true; the input reads as it did. -/
def fnExactKeptByUptoRow : OpenClaim := { program := "ytogifggjcdcodaa", sum := "11f3a7dda2f52a2fb0de98be747037e6ae18ba3021389cbbd6205dbd2d229f3a", func := "loop.example/beliefchanges/laws.FnExactKeptBy", spec := "fnExactKeptBy", apart := false, narrowed := true }
def FnExactKeptByUptoSaid : Prop := fnExactKeptByUptoRow.holds Try.pinned (OpenSpec.upto fnExactKeptBySpec)

/-- 'laws.FnExactBelieves', WHERE WHAT IT READS IS OF BULK AT MOST 1048576: true; the input reads as it did. -/
def fnExactBelievesUptoRow : OpenClaim := { program := "ytogifggjcdcodaa", sum := "11f3a7dda2f52a2fb0de98be747037e6ae18ba3021389cbbd6205dbd2d229f3a", func := "loop.example/beliefchanges/laws.FnExactBelieves", spec := "fnExactBelieves", unfollowed := true, recurses := true, apart := false, narrowed := true }
def FnExactBelievesUptoSaid : Prop := fnExactBelievesUptoRow.holds Try.pinned (OpenSpec.upto fnExactBelievesSpec)

/-- 'laws.FnExactHoldsIn', WHERE WHAT IT READS IS OF BULK AT MOST 1048576: true; the input reads as it did. -/
def fnExactHoldsInUptoRow : OpenClaim := { program := "ytogifggjcdcodaa", sum := "11f3a7dda2f52a2fb0de98be747037e6ae18ba3021389cbbd6205dbd2d229f3a", func := "loop.example/beliefchanges/laws.FnExactHoldsIn", spec := "fnExactHoldsIn", unfollowed := true, recurses := true, apart := false, narrowed := true }
def FnExactHoldsInUptoSaid : Prop := fnExactHoldsInUptoRow.holds Try.pinned (OpenSpec.upto fnExactHoldsInSpec)

/-- 'laws.FnExactGivenUp', WHERE WHAT IT READS IS OF BULK AT MOST 1048576: true; the input reads as it did. -/
def fnExactGivenUpUptoRow : OpenClaim := { program := "ytogifggjcdcodaa", sum := "11f3a7dda2f52a2fb0de98be747037e6ae18ba3021389cbbd6205dbd2d229f3a", func := "loop.example/beliefchanges/laws.FnExactGivenUp", spec := "fnExactGivenUp", unfollowed := true, recurses := true, apart := false, narrowed := true }
def FnExactGivenUpUptoSaid : Prop := fnExactGivenUpUptoRow.holds Try.pinned (OpenSpec.upto fnExactGivenUpSpec)

end Rows
end Go.Proofs.Ytogifggjcdcodaa
