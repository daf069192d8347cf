/-
  No cell of these rows narrows 'for every input' (looked for: loops, veiled, ifaces, maps, wideKeys, modest, calm, conditions, laid).
  DERIVED. THE GIVEN ROWS OF THIS SEAT. 6 by the template 'for every input the law returns true; each argument reads behind the call as it read before'; 0 by the template 'total and deterministic' (their statements: YtgbleieknfmeiaaTotals.lean).
  GIVEN WITH THE SEED: the statements are not yours to turn. If you find one false, say at which input.
  Laid BY PROGRAM, IN A SANDBOX (cutbox-rows.mjs): the forced cells as the released guide's own fill.sh prints them over the translation 0d029515265b4101… (all of the seat's roots in one cut). By AI agents, Wed Nov 11 2026. No macro, syntax, notation, axiom, sorry.
-/
import Derived.Test.YtgbleieknfmeiaaChecked
import GoSem.Claim
import GoSem.ClaimJoined
import GoSem.ClaimMapViews
import Derived.JoinedTies
import Derived.KernelRfl
namespace Go.Proofs.Ytgbleieknfmeiaa
/- THE CELL 'sum', in the pinned program and in every row, IS THE sha256 OF THE DUMP (.gsa) THAT YtgbleieknfmeiaaProg.lean LOADS. Nothing in Lean hashes anything: it is a label: what it is worth is what the hold of that sum in a sandbox is worth. -/
noncomputable def Try.pinned : Pinned := { name := "ytgbleieknfmeiaa", sum := "0d029515265b41010136931759bba74ccdecf9d9dbfb01f1d308df5ae3ee5d85", checked := Try.checked }
namespace Rows
def none {H : Type} : Left H := { results := [], args := [] }

/-- 'laws.FnTidyRank': WHATEVER THE INPUT: true; the input reads as it did. -/
def fnTidyRankSpec : ChangeSpec := { name := "fnTidyRank", fn := fun _ => fun
  | [d] => { results := [.lit (.bool true)], args := [d] }
  | _ => none }
def fnTidyRankRow : OpenClaim := { program := "ytgbleieknfmeiaa", sum := "0d029515265b41010136931759bba74ccdecf9d9dbfb01f1d308df5ae3ee5d85", func := "loop.example/beliefchanges/laws.FnTidyRank", spec := "fnTidyRank", unfollowed := true, recurses := true, apart := false }
def FnTidyRankSaid : Prop := fnTidyRankRow.holds Try.pinned (OpenSpec.ofChange fnTidyRankSpec)

/-- ITS FALSE NEIGHBOUR: 'it returns false'. Refute it at one input. -/
def fnTidyRankWrong : ChangeSpec := { name := "fnTidyRank", fn := fun _ => fun
  | [d] => { results := [.lit (.bool false)], args := [d] }
  | _ => none }
def FnTidyRankWrongFalsely : Prop := fnTidyRankRow.holds Try.pinned (OpenSpec.ofChange fnTidyRankWrong)

/-- 'laws.FnSameOrder': WHATEVER THE INPUT: true; the input reads as it did. -/
def fnSameOrderSpec : ChangeSpec := { name := "fnSameOrder", fn := fun _ => fun
  | [d] => { results := [.lit (.bool true)], args := [d] }
  | _ => none }
def fnSameOrderRow : OpenClaim := { program := "ytgbleieknfmeiaa", sum := "0d029515265b41010136931759bba74ccdecf9d9dbfb01f1d308df5ae3ee5d85", func := "loop.example/beliefchanges/laws.FnSameOrder", spec := "fnSameOrder", unfollowed := true, recurses := true, apart := false }
def FnSameOrderSaid : Prop := fnSameOrderRow.holds Try.pinned (OpenSpec.ofChange fnSameOrderSpec)

/-- ITS FALSE NEIGHBOUR: 'it returns false'. Refute it at one input. -/
def fnSameOrderWrong : ChangeSpec := { name := "fnSameOrder", fn := fun _ => fun
  | [d] => { results := [.lit (.bool false)], args := [d] }
  | _ => none }
def FnSameOrderWrongFalsely : Prop := fnSameOrderRow.holds Try.pinned (OpenSpec.ofChange fnSameOrderWrong)

/-- 'laws.FnExactTidyRank': WHATEVER THE INPUT: true; the input reads as it did. -/
def fnExactTidyRankSpec : ChangeSpec := { name := "fnExactTidyRank", fn := fun _ => fun
  | [d1, d2] => { results := [.lit (.bool true)], args := [d1, d2] }
  | _ => none }
def fnExactTidyRankRow : OpenClaim := { program := "ytgbleieknfmeiaa", sum := "0d029515265b41010136931759bba74ccdecf9d9dbfb01f1d308df5ae3ee5d85", func := "loop.example/beliefchanges/laws.FnExactTidyRank", spec := "fnExactTidyRank", recurses := true, apart := false }
def FnExactTidyRankSaid : Prop := fnExactTidyRankRow.holds Try.pinned (OpenSpec.ofChange fnExactTidyRankSpec)

/-- ITS FALSE NEIGHBOUR: 'it returns false'. Refute it at one input. -/
def fnExactTidyRankWrong : ChangeSpec := { name := "fnExactTidyRank", fn := fun _ => fun
  | [d1, d2] => { results := [.lit (.bool false)], args := [d1, d2] }
  | _ => none }
def FnExactTidyRankWrongFalsely : Prop := fnExactTidyRankRow.holds Try.pinned (OpenSpec.ofChange fnExactTidyRankWrong)

/-- 'laws.FnExactSameOrder': WHATEVER THE INPUT: true; the input reads as it did. -/
def fnExactSameOrderSpec : ChangeSpec := { name := "fnExactSameOrder", fn := fun _ => fun
  | [d1, d2, d3] => { results := [.lit (.bool true)], args := [d1, d2, d3] }
  | _ => none }
def fnExactSameOrderRow : OpenClaim := { program := "ytgbleieknfmeiaa", sum := "0d029515265b41010136931759bba74ccdecf9d9dbfb01f1d308df5ae3ee5d85", func := "loop.example/beliefchanges/laws.FnExactSameOrder", spec := "fnExactSameOrder", recurses := true, apart := false }
def FnExactSameOrderSaid : Prop := fnExactSameOrderRow.holds Try.pinned (OpenSpec.ofChange fnExactSameOrderSpec)

/-- ITS FALSE NEIGHBOUR: 'it returns false'. Refute it at one input. -/
def fnExactSameOrderWrong : ChangeSpec := { name := "fnExactSameOrder", fn := fun _ => fun
  | [d1, d2, d3] => { results := [.lit (.bool false)], args := [d1, d2, d3] }
  | _ => none }
def FnExactSameOrderWrongFalsely : Prop := fnExactSameOrderRow.holds Try.pinned (OpenSpec.ofChange fnExactSameOrderWrong)

/-- 'laws.FnExactRanksOf': WHATEVER THE INPUT: true; the input reads as it did. -/
def fnExactRanksOfSpec : ChangeSpec := { name := "fnExactRanksOf", fn := fun _ => fun
  | [d] => { results := [.lit (.bool true)], args := [d] }
  | _ => none }
def fnExactRanksOfRow : OpenClaim := { program := "ytgbleieknfmeiaa", sum := "0d029515265b41010136931759bba74ccdecf9d9dbfb01f1d308df5ae3ee5d85", func := "loop.example/beliefchanges/laws.FnExactRanksOf", spec := "fnExactRanksOf", recurses := true, apart := false }
def FnExactRanksOfSaid : Prop := fnExactRanksOfRow.holds Try.pinned (OpenSpec.ofChange fnExactRanksOfSpec)

/-- ITS FALSE NEIGHBOUR: 'it returns false'. Refute it at one input. -/
def fnExactRanksOfWrong : ChangeSpec := { name := "fnExactRanksOf", fn := fun _ => fun
  | [d] => { results := [.lit (.bool false)], args := [d] }
  | _ => none }
def FnExactRanksOfWrongFalsely : Prop := fnExactRanksOfRow.holds Try.pinned (OpenSpec.ofChange fnExactRanksOfWrong)

/-- 'laws.FnRanksOf': WHATEVER THE INPUT: true; the input reads as it did. -/
def fnRanksOfSpec : ChangeSpec := { name := "fnRanksOf", fn := fun _ => fun
  | [d] => { results := [.lit (.bool true)], args := [d] }
  | _ => none }
def fnRanksOfRow : OpenClaim := { program := "ytgbleieknfmeiaa", sum := "0d029515265b41010136931759bba74ccdecf9d9dbfb01f1d308df5ae3ee5d85", func := "loop.example/beliefchanges/laws.FnRanksOf", spec := "fnRanksOf", unfollowed := true, recurses := true, apart := false }
def FnRanksOfSaid : Prop := fnRanksOfRow.holds Try.pinned (OpenSpec.ofChange fnRanksOfSpec)

/-- ITS FALSE NEIGHBOUR: 'it returns false'. Refute it at one input. -/
def fnRanksOfWrong : ChangeSpec := { name := "fnRanksOf", fn := fun _ => fun
  | [d] => { results := [.lit (.bool false)], args := [d] }
  | _ => none }
def FnRanksOfWrongFalsely : Prop := fnRanksOfRow.holds Try.pinned (OpenSpec.ofChange fnRanksOfWrong)

/- THE SECOND FORM. 'bulk': how many values and letters a reading holds, each counted each time it is reached (what is shared counts as often as it is met; a slice's spare places count too). A statement '..UptoSaid' is the law's where the arguments, and the package variables that the reading takes, are together of bulk at most 1048576: NARROWER than '..Said'. Prove '..Said' where nothing that the law and all that it calls make is longer than what came in: it says more and counts as full. Else prove '..UptoSaid'. A law counts once. -/
mutual
def uptoBulk {H : Type} : DataW H → Nat
  | .lit (.string bytes) => bytes.length + 1
  | .lit _ => 1
  | .nil => 1
  | .ptr d => uptoBulk d + 1
  | .slice elems spare => uptoBulkAll elems + uptoBulkAll spare + 1
  | .agg parts => uptoBulkAll parts + 1
  | .iface _ d => uptoBulk d + 1
  | .map entries => uptoBulkEntries entries + 1
  | .held _ => 1
def uptoBulkAll {H : Type} : List (DataW H) → Nat
  | [] => 0
  | d :: r => uptoBulk d + uptoBulkAll r
def uptoBulkEntries {H : Type} : List (Lit × DataW H) → Nat
  | [] => 0
  | x :: r => uptoBulkEntry x + uptoBulkEntries r
def uptoBulkEntry {H : Type} : Lit × DataW H → Nat
  | (.string bytes, d) => bytes.length + uptoBulk d + 1
  | (_, d) => uptoBulk d + 1
 end
def uptoSmall : (H : Type) → List (DataW H) → Bool := fun _ ds => decide (uptoBulkAll ds ≤ 1048576)
def OpenSpec.upto (s : _root_.Go.ChangeSpec) : _root_.Go.OpenSpec := { _root_.Go.OpenSpec.ofChange s with cond := some uptoSmall }

/-- 'laws.FnTidyRank', WHERE WHAT IT READS IS OF BULK AT MOST 1048576: true; the input reads as it did. -/
def fnTidyRankUptoRow : OpenClaim := { program := "ytgbleieknfmeiaa", sum := "0d029515265b41010136931759bba74ccdecf9d9dbfb01f1d308df5ae3ee5d85", func := "loop.example/beliefchanges/laws.FnTidyRank", spec := "fnTidyRank", unfollowed := true, recurses := true, apart := false, narrowed := true }
def FnTidyRankUptoSaid : Prop := fnTidyRankUptoRow.holds Try.pinned (OpenSpec.upto fnTidyRankSpec)

/-- 'laws.FnSameOrder', WHERE WHAT IT READS IS OF BULK AT MOST 1048576: true; the input reads as it did. -/
def fnSameOrderUptoRow : OpenClaim := { program := "ytgbleieknfmeiaa", sum := "0d029515265b41010136931759bba74ccdecf9d9dbfb01f1d308df5ae3ee5d85", func := "loop.example/beliefchanges/laws.FnSameOrder", spec := "fnSameOrder", unfollowed := true, recurses := true, apart := false, narrowed := true }
def FnSameOrderUptoSaid : Prop := fnSameOrderUptoRow.holds Try.pinned (OpenSpec.upto fnSameOrderSpec)

/-- 'laws.FnExactTidyRank', WHERE WHAT IT READS IS OF BULK AT MOST 1048576: true; the input reads as it did. -/
def fnExactTidyRankUptoRow : OpenClaim := { program := "ytgbleieknfmeiaa", sum := "0d029515265b41010136931759bba74ccdecf9d9dbfb01f1d308df5ae3ee5d85", func := "loop.example/beliefchanges/laws.FnExactTidyRank", spec := "fnExactTidyRank", recurses := true, apart := false, narrowed := true }
def FnExactTidyRankUptoSaid : Prop := fnExactTidyRankUptoRow.holds Try.pinned (OpenSpec.upto fnExactTidyRankSpec)

/-- 'laws.FnExactSameOrder', WHERE WHAT IT READS IS OF BULK AT MOST 1048576: true; the input reads as it did. -/
def fnExactSameOrderUptoRow : OpenClaim := { program := "ytgbleieknfmeiaa", sum := "0d029515265b41010136931759bba74ccdecf9d9dbfb01f1d308df5ae3ee5d85", func := "loop.example/beliefchanges/laws.FnExactSameOrder", spec := "fnExactSameOrder", recurses := true, apart := false, narrowed := true }
def FnExactSameOrderUptoSaid : Prop := fnExactSameOrderUptoRow.holds Try.pinned (OpenSpec.upto fnExactSameOrderSpec)

/-- 'laws.FnExactRanksOf', WHERE WHAT IT READS IS OF BULK AT MOST 1048576: true; the input reads as it did. -/
def fnExactRanksOfUptoRow : OpenClaim := { program := "ytgbleieknfmeiaa", sum := "0d029515265b41010136931759bba74ccdecf9d9dbfb01f1d308df5ae3ee5d85", func := "loop.example/beliefchanges/laws.FnExactRanksOf", spec := "fnExactRanksOf", recurses := true, apart := false, narrowed := true }
def FnExactRanksOfUptoSaid : Prop := fnExactRanksOfUptoRow.holds Try.pinned (OpenSpec.upto fnExactRanksOfSpec)

/-- 'laws.FnRanksOf', WHERE WHAT IT READS IS OF BULK AT MOST 1048576: true; the input reads as it did. -/
def fnRanksOfUptoRow : OpenClaim := { program := "ytgbleieknfmeiaa", sum := "0d029515265b41010136931759bba74ccdecf9d9dbfb01f1d308df5ae3ee5d85", func := "loop.example/beliefchanges/laws.FnRanksOf", spec := "fnRanksOf", unfollowed := true, recurses := true, apart := false, narrowed := true }
def FnRanksOfUptoSaid : Prop := fnRanksOfUptoRow.holds Try.pinned (OpenSpec.upto fnRanksOfSpec)

end Rows
end Go.Proofs.Ytgbleieknfmeiaa
