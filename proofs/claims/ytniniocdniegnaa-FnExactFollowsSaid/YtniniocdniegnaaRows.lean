/-
  No cell of these rows narrows 'for every input' (looked for: loops, veiled, ifaces, maps, wideKeys, modest, calm, conditions, laid).
  DERIVED. THE GIVEN ROWS OF THIS SEAT. 12 by the template 'for every input the law returns true; each argument reads behind the call as it read before'; 0 by the template 'total and deterministic' (their statements: YtniniocdniegnaaTotals.lean).
  GIVEN WITH THE SEED: the statements are not yours to turn. If you find one false, say at which input.
  Laid BY PROGRAM, IN A SANDBOX (cutbox-rows.mjs): the forced cells as the released guide's own fill.sh prints them over the translation 4c00fde4edc15d15… (all of the seat's roots in one cut). By AI agents, Wed Nov 11 2026. No macro, syntax, notation, axiom, sorry.
-/
import Derived.Test.YtniniocdniegnaaChecked
import GoSem.Claim
import GoSem.ClaimJoined
import GoSem.ClaimMapViews
import Derived.JoinedTies
import Derived.KernelRfl
namespace Go.Proofs.Ytniniocdniegnaa
/- THE CELL 'sum', in the pinned program and in every row, IS THE sha256 OF THE DUMP (.gsa) THAT YtniniocdniegnaaProg.lean LOADS. Nothing in Lean hashes anything: it is a label: what it is worth is what the hold of that sum in a sandbox is worth. -/
noncomputable def Try.pinned : Pinned := { name := "ytniniocdniegnaa", sum := "4c00fde4edc15d1534cc8c719671db7adad1fec3bc560e19e40989be78f7f7c6", checked := Try.checked }
namespace Rows
def none {H : Type} : Left H := { results := [], args := [] }

/-- 'laws.FnExactTableFrom': WHATEVER THE INPUT: true; the input reads as it did. -/
def fnExactTableFromSpec : ChangeSpec := { name := "fnExactTableFrom", fn := fun _ => fun
  | [d1, d2] => { results := [.lit (.bool true)], args := [d1, d2] }
  | _ => none }
def fnExactTableFromRow : OpenClaim := { program := "ytniniocdniegnaa", sum := "4c00fde4edc15d1534cc8c719671db7adad1fec3bc560e19e40989be78f7f7c6", func := "loop.example/beliefchanges/laws.FnExactTableFrom", spec := "fnExactTableFrom", unfollowed := true, recurses := true, apart := false }
def FnExactTableFromSaid : Prop := fnExactTableFromRow.holds Try.pinned (OpenSpec.ofChange fnExactTableFromSpec)

/-- ITS FALSE NEIGHBOUR: 'it returns false'. Refute it at one input. -/
def fnExactTableFromWrong : ChangeSpec := { name := "fnExactTableFrom", fn := fun _ => fun
  | [d1, d2] => { results := [.lit (.bool false)], args := [d1, d2] }
  | _ => none }
def FnExactTableFromWrongFalsely : Prop := fnExactTableFromRow.holds Try.pinned (OpenSpec.ofChange fnExactTableFromWrong)

/-- 'laws.FnExactFollows': WHATEVER THE INPUT: true; the input reads as it did. -/
def fnExactFollowsSpec : ChangeSpec := { name := "fnExactFollows", fn := fun _ => fun
  | [d1, d2, d3] => { results := [.lit (.bool true)], args := [d1, d2, d3] }
  | _ => none }
def fnExactFollowsRow : OpenClaim := { program := "ytniniocdniegnaa", sum := "4c00fde4edc15d1534cc8c719671db7adad1fec3bc560e19e40989be78f7f7c6", func := "loop.example/beliefchanges/laws.FnExactFollows", spec := "fnExactFollows", unfollowed := true, recurses := true, apart := false }
def FnExactFollowsSaid : Prop := fnExactFollowsRow.holds Try.pinned (OpenSpec.ofChange fnExactFollowsSpec)

/-- ITS FALSE NEIGHBOUR: 'it returns false'. Refute it at one input. -/
def fnExactFollowsWrong : ChangeSpec := { name := "fnExactFollows", fn := fun _ => fun
  | [d1, d2, d3] => { results := [.lit (.bool false)], args := [d1, d2, d3] }
  | _ => none }
def FnExactFollowsWrongFalsely : Prop := fnExactFollowsRow.holds Try.pinned (OpenSpec.ofChange fnExactFollowsWrong)

/-- 'laws.FnExactRankFrom': WHATEVER THE INPUT: true; the input reads as it did. -/
def fnExactRankFromSpec : ChangeSpec := { name := "fnExactRankFrom", fn := fun _ => fun
  | [d1, d2] => { results := [.lit (.bool true)], args := [d1, d2] }
  | _ => none }
def fnExactRankFromRow : OpenClaim := { program := "ytniniocdniegnaa", sum := "4c00fde4edc15d1534cc8c719671db7adad1fec3bc560e19e40989be78f7f7c6", func := "loop.example/beliefchanges/laws.FnExactRankFrom", spec := "fnExactRankFrom", unfollowed := true, recurses := true, apart := false }
def FnExactRankFromSaid : Prop := fnExactRankFromRow.holds Try.pinned (OpenSpec.ofChange fnExactRankFromSpec)

/-- ITS FALSE NEIGHBOUR: 'it returns false'. Refute it at one input. -/
def fnExactRankFromWrong : ChangeSpec := { name := "fnExactRankFrom", fn := fun _ => fun
  | [d1, d2] => { results := [.lit (.bool false)], args := [d1, d2] }
  | _ => none }
def FnExactRankFromWrongFalsely : Prop := fnExactRankFromRow.holds Try.pinned (OpenSpec.ofChange fnExactRankFromWrong)

/-- 'laws.FnTableOk': WHATEVER THE INPUT: true; the input reads as it did. -/
def fnTableOkSpec : ChangeSpec := { name := "fnTableOk", fn := fun _ => fun
  | [d] => { results := [.lit (.bool true)], args := [d] }
  | _ => none }
def fnTableOkRow : OpenClaim := { program := "ytniniocdniegnaa", sum := "4c00fde4edc15d1534cc8c719671db7adad1fec3bc560e19e40989be78f7f7c6", func := "loop.example/beliefchanges/laws.FnTableOk", spec := "fnTableOk", unfollowed := true, recurses := true, apart := false }
def FnTableOkSaid : Prop := fnTableOkRow.holds Try.pinned (OpenSpec.ofChange fnTableOkSpec)

/-- ITS FALSE NEIGHBOUR: 'it returns false'. Refute it at one input. -/
def fnTableOkWrong : ChangeSpec := { name := "fnTableOk", fn := fun _ => fun
  | [d] => { results := [.lit (.bool false)], args := [d] }
  | _ => none }
def FnTableOkWrongFalsely : Prop := fnTableOkRow.holds Try.pinned (OpenSpec.ofChange fnTableOkWrong)

/-- 'laws.FnSurpriseOf': WHATEVER THE INPUT: true; the input reads as it did. -/
def fnSurpriseOfSpec : ChangeSpec := { name := "fnSurpriseOf", fn := fun _ => fun
  | [d1, d2] => { results := [.lit (.bool true)], args := [d1, d2] }
  | _ => none }
def fnSurpriseOfRow : OpenClaim := { program := "ytniniocdniegnaa", sum := "4c00fde4edc15d1534cc8c719671db7adad1fec3bc560e19e40989be78f7f7c6", func := "loop.example/beliefchanges/laws.FnSurpriseOf", spec := "fnSurpriseOf", apart := false }
def FnSurpriseOfSaid : Prop := fnSurpriseOfRow.holds Try.pinned (OpenSpec.ofChange fnSurpriseOfSpec)

/-- ITS FALSE NEIGHBOUR: 'it returns false'. Refute it at one input. -/
def fnSurpriseOfWrong : ChangeSpec := { name := "fnSurpriseOf", fn := fun _ => fun
  | [d1, d2] => { results := [.lit (.bool false)], args := [d1, d2] }
  | _ => none }
def FnSurpriseOfWrongFalsely : Prop := fnSurpriseOfRow.holds Try.pinned (OpenSpec.ofChange fnSurpriseOfWrong)

/-- 'laws.FnCoreOf': WHATEVER THE INPUT: true; the input reads as it did. -/
def fnCoreOfSpec : ChangeSpec := { name := "fnCoreOf", fn := fun _ => fun
  | [d] => { results := [.lit (.bool true)], args := [d] }
  | _ => none }
def fnCoreOfRow : OpenClaim := { program := "ytniniocdniegnaa", sum := "4c00fde4edc15d1534cc8c719671db7adad1fec3bc560e19e40989be78f7f7c6", func := "loop.example/beliefchanges/laws.FnCoreOf", spec := "fnCoreOf", unfollowed := true, recurses := true, apart := false }
def FnCoreOfSaid : Prop := fnCoreOfRow.holds Try.pinned (OpenSpec.ofChange fnCoreOfSpec)

/-- ITS FALSE NEIGHBOUR: 'it returns false'. Refute it at one input. -/
def fnCoreOfWrong : ChangeSpec := { name := "fnCoreOf", fn := fun _ => fun
  | [d] => { results := [.lit (.bool false)], args := [d] }
  | _ => none }
def FnCoreOfWrongFalsely : Prop := fnCoreOfRow.holds Try.pinned (OpenSpec.ofChange fnCoreOfWrong)

/-- 'laws.FnFollows': WHATEVER THE INPUT: true; the input reads as it did. -/
def fnFollowsSpec : ChangeSpec := { name := "fnFollows", fn := fun _ => fun
  | [d] => { results := [.lit (.bool true)], args := [d] }
  | _ => none }
def fnFollowsRow : OpenClaim := { program := "ytniniocdniegnaa", sum := "4c00fde4edc15d1534cc8c719671db7adad1fec3bc560e19e40989be78f7f7c6", func := "loop.example/beliefchanges/laws.FnFollows", spec := "fnFollows", unfollowed := true, recurses := true, apart := false }
def FnFollowsSaid : Prop := fnFollowsRow.holds Try.pinned (OpenSpec.ofChange fnFollowsSpec)

/-- ITS FALSE NEIGHBOUR: 'it returns false'. Refute it at one input. -/
def fnFollowsWrong : ChangeSpec := { name := "fnFollows", fn := fun _ => fun
  | [d] => { results := [.lit (.bool false)], args := [d] }
  | _ => none }
def FnFollowsWrongFalsely : Prop := fnFollowsRow.holds Try.pinned (OpenSpec.ofChange fnFollowsWrong)

/-- 'laws.FnBelieves': WHATEVER THE INPUT: true; the input reads as it did. -/
def fnBelievesSpec : ChangeSpec := { name := "fnBelieves", fn := fun _ => fun
  | [d] => { results := [.lit (.bool true)], args := [d] }
  | _ => none }
def fnBelievesRow : OpenClaim := { program := "ytniniocdniegnaa", sum := "4c00fde4edc15d1534cc8c719671db7adad1fec3bc560e19e40989be78f7f7c6", func := "loop.example/beliefchanges/laws.FnBelieves", spec := "fnBelieves", unfollowed := true, recurses := true, apart := false }
def FnBelievesSaid : Prop := fnBelievesRow.holds Try.pinned (OpenSpec.ofChange fnBelievesSpec)

/-- ITS FALSE NEIGHBOUR: 'it returns false'. Refute it at one input. -/
def fnBelievesWrong : ChangeSpec := { name := "fnBelieves", fn := fun _ => fun
  | [d] => { results := [.lit (.bool false)], args := [d] }
  | _ => none }
def FnBelievesWrongFalsely : Prop := fnBelievesRow.holds Try.pinned (OpenSpec.ofChange fnBelievesWrong)

/-- 'laws.FnExpandedBy': WHATEVER THE INPUT: true; the input reads as it did. -/
def fnExpandedBySpec : ChangeSpec := { name := "fnExpandedBy", fn := fun _ => fun
  | [d] => { results := [.lit (.bool true)], args := [d] }
  | _ => none }
def fnExpandedByRow : OpenClaim := { program := "ytniniocdniegnaa", sum := "4c00fde4edc15d1534cc8c719671db7adad1fec3bc560e19e40989be78f7f7c6", func := "loop.example/beliefchanges/laws.FnExpandedBy", spec := "fnExpandedBy", unfollowed := true, recurses := true, apart := false }
def FnExpandedBySaid : Prop := fnExpandedByRow.holds Try.pinned (OpenSpec.ofChange fnExpandedBySpec)

/-- ITS FALSE NEIGHBOUR: 'it returns false'. Refute it at one input. -/
def fnExpandedByWrong : ChangeSpec := { name := "fnExpandedBy", fn := fun _ => fun
  | [d] => { results := [.lit (.bool false)], args := [d] }
  | _ => none }
def FnExpandedByWrongFalsely : Prop := fnExpandedByRow.holds Try.pinned (OpenSpec.ofChange fnExpandedByWrong)

/-- 'laws.FnSentenceOf': WHATEVER THE INPUT: true; the input reads as it did. -/
def fnSentenceOfSpec : ChangeSpec := { name := "fnSentenceOf", fn := fun _ => fun
  | [d] => { results := [.lit (.bool true)], args := [d] }
  | _ => none }
def fnSentenceOfRow : OpenClaim := { program := "ytniniocdniegnaa", sum := "4c00fde4edc15d1534cc8c719671db7adad1fec3bc560e19e40989be78f7f7c6", func := "loop.example/beliefchanges/laws.FnSentenceOf", spec := "fnSentenceOf", unfollowed := true, recurses := true, apart := false }
def FnSentenceOfSaid : Prop := fnSentenceOfRow.holds Try.pinned (OpenSpec.ofChange fnSentenceOfSpec)

/-- ITS FALSE NEIGHBOUR: 'it returns false'. Refute it at one input. -/
def fnSentenceOfWrong : ChangeSpec := { name := "fnSentenceOf", fn := fun _ => fun
  | [d] => { results := [.lit (.bool false)], args := [d] }
  | _ => none }
def FnSentenceOfWrongFalsely : Prop := fnSentenceOfRow.holds Try.pinned (OpenSpec.ofChange fnSentenceOfWrong)

/-- 'laws.FnRevisedBy': WHATEVER THE INPUT: true; the input reads as it did. -/
def fnRevisedBySpec : ChangeSpec := { name := "fnRevisedBy", fn := fun _ => fun
  | [d1, d2] => { results := [.lit (.bool true)], args := [d1, d2] }
  | _ => none }
def fnRevisedByRow : OpenClaim := { program := "ytniniocdniegnaa", sum := "4c00fde4edc15d1534cc8c719671db7adad1fec3bc560e19e40989be78f7f7c6", func := "loop.example/beliefchanges/laws.FnRevisedBy", spec := "fnRevisedBy", unfollowed := true, recurses := true, apart := false }
def FnRevisedBySaid : Prop := fnRevisedByRow.holds Try.pinned (OpenSpec.ofChange fnRevisedBySpec)

/-- ITS FALSE NEIGHBOUR: 'it returns false'. Refute it at one input. -/
def fnRevisedByWrong : ChangeSpec := { name := "fnRevisedBy", fn := fun _ => fun
  | [d1, d2] => { results := [.lit (.bool false)], args := [d1, d2] }
  | _ => none }
def FnRevisedByWrongFalsely : Prop := fnRevisedByRow.holds Try.pinned (OpenSpec.ofChange fnRevisedByWrong)

/-- 'laws.FnMaxTable': WHATEVER THE INPUT: true; the input reads as it did. -/
def fnMaxTableSpec : ChangeSpec := { name := "fnMaxTable", fn := fun _ => fun
  | [d] => { results := [.lit (.bool true)], args := [d] }
  | _ => none }
def fnMaxTableRow : OpenClaim := { program := "ytniniocdniegnaa", sum := "4c00fde4edc15d1534cc8c719671db7adad1fec3bc560e19e40989be78f7f7c6", func := "loop.example/beliefchanges/laws.FnMaxTable", spec := "fnMaxTable", unfollowed := true, recurses := true, apart := false }
def FnMaxTableSaid : Prop := fnMaxTableRow.holds Try.pinned (OpenSpec.ofChange fnMaxTableSpec)

/-- ITS FALSE NEIGHBOUR: 'it returns false'. Refute it at one input. -/
def fnMaxTableWrong : ChangeSpec := { name := "fnMaxTable", fn := fun _ => fun
  | [d] => { results := [.lit (.bool false)], args := [d] }
  | _ => none }
def FnMaxTableWrongFalsely : Prop := fnMaxTableRow.holds Try.pinned (OpenSpec.ofChange fnMaxTableWrong)

/- THE SECOND FORM. 'bulk': how many values and letters a reading holds, each counted each time it is reached (what is shared counts as often as it is met; a slice's spare places count too). A statement '..UptoSaid' is the law's where the arguments, and the package variables that the reading takes, are together of bulk at most 1048576: NARROWER than '..Said'. Prove '..Said' where nothing that the law and all that it calls make is longer than what came in: it says more and counts as full. Else prove '..UptoSaid'. A law counts once. -/
mutual
def uptoBulk {H : Type} : DataW H → Nat
  | .lit (.string bytes) => bytes.length + 1
  | .lit _ => 1
  | .nil => 1
  | .ptr d => uptoBulk d + 1
  | .slice elems spare => uptoBulkAll elems + uptoBulkAll spare + 1
  | .agg parts => uptoBulkAll parts + 1
  | .iface _ d => uptoBulk d + 1
  | .map entries => uptoBulkEntries entries + 1
  | .held _ => 1
def uptoBulkAll {H : Type} : List (DataW H) → Nat
  | [] => 0
  | d :: r => uptoBulk d + uptoBulkAll r
def uptoBulkEntries {H : Type} : List (Lit × DataW H) → Nat
  | [] => 0
  | x :: r => uptoBulkEntry x + uptoBulkEntries r
def uptoBulkEntry {H : Type} : Lit × DataW H → Nat
  | (.string bytes, d) => bytes.length + uptoBulk d + 1
  | (_, d) => uptoBulk d + 1
 end
def uptoSmall : (H : Type) → List (DataW H) → Bool := fun _ ds => decide (uptoBulkAll ds ≤ 1048576)
def OpenSpec.upto (s : _root_.Go.ChangeSpec) : _root_.Go.OpenSpec := { _root_.Go.OpenSpec.ofChange s with cond := some uptoSmall }

/-- 'laws.FnExactTableFrom', WHERE WHAT IT READS IS OF BULK AT MOST 1048576: true; the input reads as it did. -/
def fnExactTableFromUptoRow : OpenClaim := { program := "ytniniocdniegnaa", sum := "4c00fde4edc15d1534cc8c719671db7adad1fec3bc560e19e40989be78f7f7c6", func := "loop.example/beliefchanges/laws.FnExactTableFrom", spec := "fnExactTableFrom", unfollowed := true, recurses := true, apart := false, narrowed := true }
def FnExactTableFromUptoSaid : Prop := fnExactTableFromUptoRow.holds Try.pinned (OpenSpec.upto fnExactTableFromSpec)

/-- 'laws.FnExactFollows', WHERE WHAT IT READS IS OF BULK AT MOST 1048576: true; the input reads as it did. -/
def fnExactFollowsUptoRow : OpenClaim := { program := "ytniniocdniegnaa", sum := "4c00fde4edc15d1534cc8c719671db7adad1fec3bc560e19e40989be78f7f7c6", func := "loop.example/beliefchanges/laws.FnExactFollows", spec := "fnExactFollows", unfollowed := true, recurses := true, apart := false, narrowed := true }
def FnExactFollowsUptoSaid : Prop := fnExactFollowsUptoRow.holds Try.pinned (OpenSpec.upto fnExactFollowsSpec)

/-- 'laws.FnExactRankFrom', WHERE WHAT IT READS IS OF BULK AT MOST 1048576: true; the input reads as it did. -/
def fnExactRankFromUptoRow : OpenClaim := { program := "ytniniocdniegnaa", sum := "4c00fde4edc15d1534cc8c719671db7adad1fec3bc560e19e40989be78f7f7c6", func := "loop.example/beliefchanges/laws.FnExactRankFrom", spec := "fnExactRankFrom", unfollowed := true, recurses := true, apart := false, narrowed := true }
def FnExactRankFromUptoSaid : Prop := fnExactRankFromUptoRow.holds Try.pinned (OpenSpec.upto fnExactRankFromSpec)

/-- 'laws.FnTableOk', WHERE WHAT IT READS IS OF BULK AT MOST 1048576: true; the input reads as it did. -/
def fnTableOkUptoRow : OpenClaim := { program := "ytniniocdniegnaa", sum := "4c00fde4edc15d1534cc8c719671db7adad1fec3bc560e19e40989be78f7f7c6", func := "loop.example/beliefchanges/laws.FnTableOk", spec := "fnTableOk", unfollowed := true, recurses := true, apart := false, narrowed := true }
def FnTableOkUptoSaid : Prop := fnTableOkUptoRow.holds Try.pinned (OpenSpec.upto fnTableOkSpec)

/-- 'laws.FnSurpriseOf', WHERE WHAT IT READS IS OF BULK AT MOST 1048576: true; the input reads as it did. -/
def fnSurpriseOfUptoRow : OpenClaim := { program := "ytniniocdniegnaa", sum := "4c00fde4edc15d1534cc8c719671db7adad1fec3bc560e19e40989be78f7f7c6", func := "loop.example/beliefchanges/laws.FnSurpriseOf", spec := "fnSurpriseOf", apart := false, narrowed := true }
def FnSurpriseOfUptoSaid : Prop := fnSurpriseOfUptoRow.holds Try.pinned (OpenSpec.upto fnSurpriseOfSpec)

/-- 'laws.FnCoreOf', WHERE WHAT IT READS IS OF BULK AT MOST 1048576: true; the input reads as it did. -/
def fnCoreOfUptoRow : OpenClaim := { program := "ytniniocdniegnaa", sum := "4c00fde4edc15d1534cc8c719671db7adad1fec3bc560e19e40989be78f7f7c6", func := "loop.example/beliefchanges/laws.FnCoreOf", spec := "fnCoreOf", unfollowed := true, recurses := true, apart := false, narrowed := true }
def FnCoreOfUptoSaid : Prop := fnCoreOfUptoRow.holds Try.pinned (OpenSpec.upto fnCoreOfSpec)

/-- 'laws.FnFollows', WHERE WHAT IT READS IS OF BULK AT MOST 1048576: true; the input reads as it did. -/
def fnFollowsUptoRow : OpenClaim := { program := "ytniniocdniegnaa", sum := "4c00fde4edc15d1534cc8c719671db7adad1fec3bc560e19e40989be78f7f7c6", func := "loop.example/beliefchanges/laws.FnFollows", spec := "fnFollows", unfollowed := true, recurses := true, apart := false, narrowed := true }
def FnFollowsUptoSaid : Prop := fnFollowsUptoRow.holds Try.pinned (OpenSpec.upto fnFollowsSpec)

/-- 'laws.FnBelieves', WHERE WHAT IT READS IS OF BULK AT MOST 1048576: true; the input reads as it did. -/
def fnBelievesUptoRow : OpenClaim := { program := "ytniniocdniegnaa", sum := "4c00fde4edc15d1534cc8c719671db7adad1fec3bc560e19e40989be78f7f7c6", func := "loop.example/beliefchanges/laws.FnBelieves", spec := "fnBelieves", unfollowed := true, recurses := true, apart := false, narrowed := true }
def FnBelievesUptoSaid : Prop := fnBelievesUptoRow.holds Try.pinned (OpenSpec.upto fnBelievesSpec)

/-- 'laws.FnExpandedBy', WHERE WHAT IT READS IS OF BULK AT MOST 1048576: true; the input reads as it did. -/
def fnExpandedByUptoRow : OpenClaim := { program := "ytniniocdniegnaa", sum := "4c00fde4edc15d1534cc8c719671db7adad1fec3bc560e19e40989be78f7f7c6", func := "loop.example/beliefchanges/laws.FnExpandedBy", spec := "fnExpandedBy", unfollowed := true, recurses := true, apart := false, narrowed := true }
def FnExpandedByUptoSaid : Prop := fnExpandedByUptoRow.holds Try.pinned (OpenSpec.upto fnExpandedBySpec)

/-- 'laws.FnSentenceOf', WHERE WHAT IT READS IS OF BULK AT MOST 1048576: true; the input reads as it did. -/
def fnSentenceOfUptoRow : OpenClaim := { program := "ytniniocdniegnaa", sum := "4c00fde4edc15d1534cc8c719671db7adad1fec3bc560e19e40989be78f7f7c6", func := "loop.example/beliefchanges/laws.FnSentenceOf", spec := "fnSentenceOf", unfollowed := true, recurses := true, apart := false, narrowed := true }
def FnSentenceOfUptoSaid : Prop := fnSentenceOfUptoRow.holds Try.pinned (OpenSpec.upto fnSentenceOfSpec)

/-- 'laws.FnRevisedBy', WHERE WHAT IT READS IS OF BULK AT MOST 1048576: true; the input reads as it did. -/
def fnRevisedByUptoRow : OpenClaim := { program := "ytniniocdniegnaa", sum := "4c00fde4edc15d1534cc8c719671db7adad1fec3bc560e19e40989be78f7f7c6", func := "loop.example/beliefchanges/laws.FnRevisedBy", spec := "fnRevisedBy", unfollowed := true, recurses := true, apart := false, narrowed := true }
def FnRevisedByUptoSaid : Prop := fnRevisedByUptoRow.holds Try.pinned (OpenSpec.upto fnRevisedBySpec)

/-- 'laws.FnMaxTable', WHERE WHAT IT READS IS OF BULK AT MOST 1048576: true; the input reads as it did. -/
def fnMaxTableUptoRow : OpenClaim := { program := "ytniniocdniegnaa", sum := "4c00fde4edc15d1534cc8c719671db7adad1fec3bc560e19e40989be78f7f7c6", func := "loop.example/beliefchanges/laws.FnMaxTable", spec := "fnMaxTable", unfollowed := true, recurses := true, apart := false, narrowed := true }
def FnMaxTableUptoSaid : Prop := fnMaxTableUptoRow.holds Try.pinned (OpenSpec.upto fnMaxTableSpec)

end Rows
end Go.Proofs.Ytniniocdniegnaa
