/-
  No cell of these rows narrows 'for every input' (looked for: loops, veiled, ifaces, maps, wideKeys, modest, calm, conditions, laid).
  DERIVED. THE GIVEN ROWS OF THIS SEAT. 12 by the template 'for every input the law returns true; each argument reads behind the call as it read before'; 0 by the template 'total and deterministic' (their statements: YtgmnbegemgankaaTotals.lean).
  GIVEN WITH THE SEED: the statements are not yours to turn. If you find one false, say at which input.
  Laid BY PROGRAM, IN A SANDBOX (cutbox-rows.mjs): the forced cells as the released guide's own fill.sh prints them over the translation 89659ffc955b3387… (all of the seat's roots in one cut). By AI agents, Wed Nov 11 2026. No macro, syntax, notation, axiom, sorry.
-/
import Derived.Test.YtgmnbegemgankaaChecked
import GoSem.Claim
import GoSem.ClaimJoined
import GoSem.ClaimMapViews
import Derived.JoinedTies
import Derived.KernelRfl
namespace Go.Proofs.Ytgmnbegemgankaa
/- THE CELL 'sum', in the pinned program and in every row, IS THE sha256 OF THE DUMP (.gsa) THAT YtgmnbegemgankaaProg.lean LOADS. Nothing in Lean hashes anything: it is a label: what it is worth is what the hold of that sum in a sandbox is worth. -/
noncomputable def Try.pinned : Pinned := { name := "ytgmnbegemgankaa", sum := "89659ffc955b3387bdbd58b063b416f4ff20bc326fb90f278e307e628efc7b5b", checked := Try.checked }
namespace Rows
def none {H : Type} : Left H := { results := [], args := [] }

/-- 'laws.FnExactConstants': WHATEVER THE INPUT: true; the input reads as it did. -/
def fnExactConstantsSpec : ChangeSpec := { name := "fnExactConstants", fn := fun _ => fun
  | [] => { results := [.lit (.bool true)], args := [] }
  | _ => none }
def fnExactConstantsRow : OpenClaim := { program := "ytgmnbegemgankaa", sum := "89659ffc955b3387bdbd58b063b416f4ff20bc326fb90f278e307e628efc7b5b", func := "loop.example/beliefchanges/laws.FnExactConstants", spec := "fnExactConstants", apart := false }
def FnExactConstantsSaid : Prop := fnExactConstantsRow.holds Try.pinned (OpenSpec.ofChange fnExactConstantsSpec)

/-- ITS FALSE NEIGHBOUR: 'it returns false'. Refute it at one input. -/
def fnExactConstantsWrong : ChangeSpec := { name := "fnExactConstants", fn := fun _ => fun
  | [] => { results := [.lit (.bool false)], args := [] }
  | _ => none }
def FnExactConstantsWrongFalsely : Prop := fnExactConstantsRow.holds Try.pinned (OpenSpec.ofChange fnExactConstantsWrong)

/-- 'laws.FnExactWorldsOf': WHATEVER THE INPUT: true; the input reads as it did. -/
def fnExactWorldsOfSpec : ChangeSpec := { name := "fnExactWorldsOf", fn := fun _ => fun
  | [d] => { results := [.lit (.bool true)], args := [d] }
  | _ => none }
def fnExactWorldsOfRow : OpenClaim := { program := "ytgmnbegemgankaa", sum := "89659ffc955b3387bdbd58b063b416f4ff20bc326fb90f278e307e628efc7b5b", func := "loop.example/beliefchanges/laws.FnExactWorldsOf", spec := "fnExactWorldsOf", apart := false }
def FnExactWorldsOfSaid : Prop := fnExactWorldsOfRow.holds Try.pinned (OpenSpec.ofChange fnExactWorldsOfSpec)

/-- ITS FALSE NEIGHBOUR: 'it returns false'. Refute it at one input. -/
def fnExactWorldsOfWrong : ChangeSpec := { name := "fnExactWorldsOf", fn := fun _ => fun
  | [d] => { results := [.lit (.bool false)], args := [d] }
  | _ => none }
def FnExactWorldsOfWrongFalsely : Prop := fnExactWorldsOfRow.holds Try.pinned (OpenSpec.ofChange fnExactWorldsOfWrong)

/-- 'laws.FnExactSetOk': WHATEVER THE INPUT: true; the input reads as it did. -/
def fnExactSetOkSpec : ChangeSpec := { name := "fnExactSetOk", fn := fun _ => fun
  | [d1, d2] => { results := [.lit (.bool true)], args := [d1, d2] }
  | _ => none }
def fnExactSetOkRow : OpenClaim := { program := "ytgmnbegemgankaa", sum := "89659ffc955b3387bdbd58b063b416f4ff20bc326fb90f278e307e628efc7b5b", func := "loop.example/beliefchanges/laws.FnExactSetOk", spec := "fnExactSetOk", apart := false }
def FnExactSetOkSaid : Prop := fnExactSetOkRow.holds Try.pinned (OpenSpec.ofChange fnExactSetOkSpec)

/-- ITS FALSE NEIGHBOUR: 'it returns false'. Refute it at one input. -/
def fnExactSetOkWrong : ChangeSpec := { name := "fnExactSetOk", fn := fun _ => fun
  | [d1, d2] => { results := [.lit (.bool false)], args := [d1, d2] }
  | _ => none }
def FnExactSetOkWrongFalsely : Prop := fnExactSetOkRow.holds Try.pinned (OpenSpec.ofChange fnExactSetOkWrong)

/-- 'laws.FnWorldsOf': WHATEVER THE INPUT: true; the input reads as it did. -/
def fnWorldsOfSpec : ChangeSpec := { name := "fnWorldsOf", fn := fun _ => fun
  | [d] => { results := [.lit (.bool true)], args := [d] }
  | _ => none }
def fnWorldsOfRow : OpenClaim := { program := "ytgmnbegemgankaa", sum := "89659ffc955b3387bdbd58b063b416f4ff20bc326fb90f278e307e628efc7b5b", func := "loop.example/beliefchanges/laws.FnWorldsOf", spec := "fnWorldsOf", apart := false }
def FnWorldsOfSaid : Prop := fnWorldsOfRow.holds Try.pinned (OpenSpec.ofChange fnWorldsOfSpec)

/-- ITS FALSE NEIGHBOUR: 'it returns false'. Refute it at one input. -/
def fnWorldsOfWrong : ChangeSpec := { name := "fnWorldsOf", fn := fun _ => fun
  | [d] => { results := [.lit (.bool false)], args := [d] }
  | _ => none }
def FnWorldsOfWrongFalsely : Prop := fnWorldsOfRow.holds Try.pinned (OpenSpec.ofChange fnWorldsOfWrong)

/-- 'laws.FnExactTableOk': WHATEVER THE INPUT: true; the input reads as it did. -/
def fnExactTableOkSpec : ChangeSpec := { name := "fnExactTableOk", fn := fun _ => fun
  | [d1, d2] => { results := [.lit (.bool true)], args := [d1, d2] }
  | _ => none }
def fnExactTableOkRow : OpenClaim := { program := "ytgmnbegemgankaa", sum := "89659ffc955b3387bdbd58b063b416f4ff20bc326fb90f278e307e628efc7b5b", func := "loop.example/beliefchanges/laws.FnExactTableOk", spec := "fnExactTableOk", unfollowed := true, recurses := true, apart := false }
def FnExactTableOkSaid : Prop := fnExactTableOkRow.holds Try.pinned (OpenSpec.ofChange fnExactTableOkSpec)

/-- ITS FALSE NEIGHBOUR: 'it returns false'. Refute it at one input. -/
def fnExactTableOkWrong : ChangeSpec := { name := "fnExactTableOk", fn := fun _ => fun
  | [d1, d2] => { results := [.lit (.bool false)], args := [d1, d2] }
  | _ => none }
def FnExactTableOkWrongFalsely : Prop := fnExactTableOkRow.holds Try.pinned (OpenSpec.ofChange fnExactTableOkWrong)

/-- 'laws.FnTidyRank': WHATEVER THE INPUT: true; the input reads as it did. -/
def fnTidyRankSpec : ChangeSpec := { name := "fnTidyRank", fn := fun _ => fun
  | [d] => { results := [.lit (.bool true)], args := [d] }
  | _ => none }
def fnTidyRankRow : OpenClaim := { program := "ytgmnbegemgankaa", sum := "89659ffc955b3387bdbd58b063b416f4ff20bc326fb90f278e307e628efc7b5b", func := "loop.example/beliefchanges/laws.FnTidyRank", spec := "fnTidyRank", unfollowed := true, recurses := true, apart := false }
def FnTidyRankSaid : Prop := fnTidyRankRow.holds Try.pinned (OpenSpec.ofChange fnTidyRankSpec)

/-- ITS FALSE NEIGHBOUR: 'it returns false'. Refute it at one input. -/
def fnTidyRankWrong : ChangeSpec := { name := "fnTidyRank", fn := fun _ => fun
  | [d] => { results := [.lit (.bool false)], args := [d] }
  | _ => none }
def FnTidyRankWrongFalsely : Prop := fnTidyRankRow.holds Try.pinned (OpenSpec.ofChange fnTidyRankWrong)

/-- 'laws.FnExactRankOk': WHATEVER THE INPUT: true; the input reads as it did. -/
def fnExactRankOkSpec : ChangeSpec := { name := "fnExactRankOk", fn := fun _ => fun
  | [d1, d2] => { results := [.lit (.bool true)], args := [d1, d2] }
  | _ => none }
def fnExactRankOkRow : OpenClaim := { program := "ytgmnbegemgankaa", sum := "89659ffc955b3387bdbd58b063b416f4ff20bc326fb90f278e307e628efc7b5b", func := "loop.example/beliefchanges/laws.FnExactRankOk", spec := "fnExactRankOk", apart := false }
def FnExactRankOkSaid : Prop := fnExactRankOkRow.holds Try.pinned (OpenSpec.ofChange fnExactRankOkSpec)

/-- ITS FALSE NEIGHBOUR: 'it returns false'. Refute it at one input. -/
def fnExactRankOkWrong : ChangeSpec := { name := "fnExactRankOk", fn := fun _ => fun
  | [d1, d2] => { results := [.lit (.bool false)], args := [d1, d2] }
  | _ => none }
def FnExactRankOkWrongFalsely : Prop := fnExactRankOkRow.holds Try.pinned (OpenSpec.ofChange fnExactRankOkWrong)

/-- 'laws.FnExactMaxTable': WHATEVER THE INPUT: true; the input reads as it did. -/
def fnExactMaxTableSpec : ChangeSpec := { name := "fnExactMaxTable", fn := fun _ => fun
  | [d1, d2] => { results := [.lit (.bool true)], args := [d1, d2] }
  | _ => none }
def fnExactMaxTableRow : OpenClaim := { program := "ytgmnbegemgankaa", sum := "89659ffc955b3387bdbd58b063b416f4ff20bc326fb90f278e307e628efc7b5b", func := "loop.example/beliefchanges/laws.FnExactMaxTable", spec := "fnExactMaxTable", unfollowed := true, recurses := true, apart := false }
def FnExactMaxTableSaid : Prop := fnExactMaxTableRow.holds Try.pinned (OpenSpec.ofChange fnExactMaxTableSpec)

/-- ITS FALSE NEIGHBOUR: 'it returns false'. Refute it at one input. -/
def fnExactMaxTableWrong : ChangeSpec := { name := "fnExactMaxTable", fn := fun _ => fun
  | [d1, d2] => { results := [.lit (.bool false)], args := [d1, d2] }
  | _ => none }
def FnExactMaxTableWrongFalsely : Prop := fnExactMaxTableRow.holds Try.pinned (OpenSpec.ofChange fnExactMaxTableWrong)

/-- 'laws.FnSetOk': WHATEVER THE INPUT: true; the input reads as it did. -/
def fnSetOkSpec : ChangeSpec := { name := "fnSetOk", fn := fun _ => fun
  | [d] => { results := [.lit (.bool true)], args := [d] }
  | _ => none }
def fnSetOkRow : OpenClaim := { program := "ytgmnbegemgankaa", sum := "89659ffc955b3387bdbd58b063b416f4ff20bc326fb90f278e307e628efc7b5b", func := "loop.example/beliefchanges/laws.FnSetOk", spec := "fnSetOk", apart := false }
def FnSetOkSaid : Prop := fnSetOkRow.holds Try.pinned (OpenSpec.ofChange fnSetOkSpec)

/-- ITS FALSE NEIGHBOUR: 'it returns false'. Refute it at one input. -/
def fnSetOkWrong : ChangeSpec := { name := "fnSetOk", fn := fun _ => fun
  | [d] => { results := [.lit (.bool false)], args := [d] }
  | _ => none }
def FnSetOkWrongFalsely : Prop := fnSetOkRow.holds Try.pinned (OpenSpec.ofChange fnSetOkWrong)

/-- 'laws.FnExactSentenceOf': WHATEVER THE INPUT: true; the input reads as it did. -/
def fnExactSentenceOfSpec : ChangeSpec := { name := "fnExactSentenceOf", fn := fun _ => fun
  | [d1, d2] => { results := [.lit (.bool true)], args := [d1, d2] }
  | _ => none }
def fnExactSentenceOfRow : OpenClaim := { program := "ytgmnbegemgankaa", sum := "89659ffc955b3387bdbd58b063b416f4ff20bc326fb90f278e307e628efc7b5b", func := "loop.example/beliefchanges/laws.FnExactSentenceOf", spec := "fnExactSentenceOf", recurses := true, apart := false }
def FnExactSentenceOfSaid : Prop := fnExactSentenceOfRow.holds Try.pinned (OpenSpec.ofChange fnExactSentenceOfSpec)

/-- ITS FALSE NEIGHBOUR: 'it returns false'. Refute it at one input. -/
def fnExactSentenceOfWrong : ChangeSpec := { name := "fnExactSentenceOf", fn := fun _ => fun
  | [d1, d2] => { results := [.lit (.bool false)], args := [d1, d2] }
  | _ => none }
def FnExactSentenceOfWrongFalsely : Prop := fnExactSentenceOfRow.holds Try.pinned (OpenSpec.ofChange fnExactSentenceOfWrong)

/-- 'laws.FnSameOrder': WHATEVER THE INPUT: true; the input reads as it did. -/
def fnSameOrderSpec : ChangeSpec := { name := "fnSameOrder", fn := fun _ => fun
  | [d] => { results := [.lit (.bool true)], args := [d] }
  | _ => none }
def fnSameOrderRow : OpenClaim := { program := "ytgmnbegemgankaa", sum := "89659ffc955b3387bdbd58b063b416f4ff20bc326fb90f278e307e628efc7b5b", func := "loop.example/beliefchanges/laws.FnSameOrder", spec := "fnSameOrder", unfollowed := true, recurses := true, apart := false }
def FnSameOrderSaid : Prop := fnSameOrderRow.holds Try.pinned (OpenSpec.ofChange fnSameOrderSpec)

/-- ITS FALSE NEIGHBOUR: 'it returns false'. Refute it at one input. -/
def fnSameOrderWrong : ChangeSpec := { name := "fnSameOrder", fn := fun _ => fun
  | [d] => { results := [.lit (.bool false)], args := [d] }
  | _ => none }
def FnSameOrderWrongFalsely : Prop := fnSameOrderRow.holds Try.pinned (OpenSpec.ofChange fnSameOrderWrong)

/-- 'laws.FnExactSurpriseOf': WHATEVER THE INPUT: true; the input reads as it did. -/
def fnExactSurpriseOfSpec : ChangeSpec := { name := "fnExactSurpriseOf", fn := fun _ => fun
  | [d1, d2, d3] => { results := [.lit (.bool true)], args := [d1, d2, d3] }
  | _ => none }
def fnExactSurpriseOfRow : OpenClaim := { program := "ytgmnbegemgankaa", sum := "89659ffc955b3387bdbd58b063b416f4ff20bc326fb90f278e307e628efc7b5b", func := "loop.example/beliefchanges/laws.FnExactSurpriseOf", spec := "fnExactSurpriseOf", apart := false }
def FnExactSurpriseOfSaid : Prop := fnExactSurpriseOfRow.holds Try.pinned (OpenSpec.ofChange fnExactSurpriseOfSpec)

/-- ITS FALSE NEIGHBOUR: 'it returns false'. Refute it at one input. -/
def fnExactSurpriseOfWrong : ChangeSpec := { name := "fnExactSurpriseOf", fn := fun _ => fun
  | [d1, d2, d3] => { results := [.lit (.bool false)], args := [d1, d2, d3] }
  | _ => none }
def FnExactSurpriseOfWrongFalsely : Prop := fnExactSurpriseOfRow.holds Try.pinned (OpenSpec.ofChange fnExactSurpriseOfWrong)

/- THE SECOND FORM. 'bulk': how many values and letters a reading holds, each counted each time it is reached (what is shared counts as often as it is met; a slice's spare places count too). A statement '..UptoSaid' is the law's where the arguments, and the package variables that the reading takes, are together of bulk at most 1048576: NARROWER than '..Said'. Prove '..Said' where nothing that the law and all that it calls make is longer than what came in: it says more and counts as full. Else prove '..UptoSaid'. A law counts once. -/
mutual
def uptoBulk {H : Type} : DataW H → Nat
  | .lit (.string bytes) => bytes.length + 1
  | .lit _ => 1
  | .nil => 1
  | .ptr d => uptoBulk d + 1
  | .slice elems spare => uptoBulkAll elems + uptoBulkAll spare + 1
  | .agg parts => uptoBulkAll parts + 1
  | .iface _ d => uptoBulk d + 1
  | .map entries => uptoBulkEntries entries + 1
  | .held _ => 1
def uptoBulkAll {H : Type} : List (DataW H) → Nat
  | [] => 0
  | d :: r => uptoBulk d + uptoBulkAll r
def uptoBulkEntries {H : Type} : List (Lit × DataW H) → Nat
  | [] => 0
  | x :: r => uptoBulkEntry x + uptoBulkEntries r
def uptoBulkEntry {H : Type} : Lit × DataW H → Nat
  | (.string bytes, d) => bytes.length + uptoBulk d + 1
  | (_, d) => uptoBulk d + 1
 end
def uptoSmall : (H : Type) → List (DataW H) → Bool := fun _ ds => decide (uptoBulkAll ds ≤ 1048576)
def OpenSpec.upto (s : _root_.Go.ChangeSpec) : _root_.Go.OpenSpec := { _root_.Go.OpenSpec.ofChange s with cond := some uptoSmall }

/-- 'laws.FnExactConstants', WHERE WHAT IT READS IS OF BULK AT MOST 1048576: true; the input reads as it did. -/
def fnExactConstantsUptoRow : OpenClaim := { program := "ytgmnbegemgankaa", sum := "89659ffc955b3387bdbd58b063b416f4ff20bc326fb90f278e307e628efc7b5b", func := "loop.example/beliefchanges/laws.FnExactConstants", spec := "fnExactConstants", apart := false, narrowed := true }
def FnExactConstantsUptoSaid : Prop := fnExactConstantsUptoRow.holds Try.pinned (OpenSpec.upto fnExactConstantsSpec)

/-- 'laws.FnExactWorldsOf', WHERE WHAT IT READS IS OF BULK AT MOST 1048576: true; the input reads as it did. -/
def fnExactWorldsOfUptoRow : OpenClaim := { program := "ytgmnbegemgankaa", sum := "89659ffc955b3387bdbd58b063b416f4ff20bc326fb90f278e307e628efc7b5b", func := "loop.example/beliefchanges/laws.FnExactWorldsOf", spec := "fnExactWorldsOf", apart := false, narrowed := true }
def FnExactWorldsOfUptoSaid : Prop := fnExactWorldsOfUptoRow.holds Try.pinned (OpenSpec.upto fnExactWorldsOfSpec)

/-- 'laws.FnExactSetOk', WHERE WHAT IT READS IS OF BULK AT MOST 1048576: true; the input reads as it did. -/
def fnExactSetOkUptoRow : OpenClaim := { program := "ytgmnbegemgankaa", sum := "89659ffc955b3387bdbd58b063b416f4ff20bc326fb90f278e307e628efc7b5b", func := "loop.example/beliefchanges/laws.FnExactSetOk", spec := "fnExactSetOk", apart := false, narrowed := true }
def FnExactSetOkUptoSaid : Prop := fnExactSetOkUptoRow.holds Try.pinned (OpenSpec.upto fnExactSetOkSpec)

/-- 'laws.FnWorldsOf', WHERE WHAT IT READS IS OF BULK AT MOST 1048576: true; the input reads as it did. -/
def fnWorldsOfUptoRow : OpenClaim := { program := "ytgmnbegemgankaa", sum := "89659ffc955b3387bdbd58b063b416f4ff20bc326fb90f278e307e628efc7b5b", func := "loop.example/beliefchanges/laws.FnWorldsOf", spec := "fnWorldsOf", apart := false, narrowed := true }
def FnWorldsOfUptoSaid : Prop := fnWorldsOfUptoRow.holds Try.pinned (OpenSpec.upto fnWorldsOfSpec)

/-- 'laws.FnExactTableOk', WHERE WHAT IT READS IS OF BULK AT MOST 1048576: true; the input reads as it did. -/
def fnExactTableOkUptoRow : OpenClaim := { program := "ytgmnbegemgankaa", sum := "89659ffc955b3387bdbd58b063b416f4ff20bc326fb90f278e307e628efc7b5b", func := "loop.example/beliefchanges/laws.FnExactTableOk", spec := "fnExactTableOk", unfollowed := true, recurses := true, apart := false, narrowed := true }
def FnExactTableOkUptoSaid : Prop := fnExactTableOkUptoRow.holds Try.pinned (OpenSpec.upto fnExactTableOkSpec)

/-- 'laws.FnTidyRank', WHERE WHAT IT READS IS OF BULK AT MOST 1048576: true; the input reads as it did. -/
def fnTidyRankUptoRow : OpenClaim := { program := "ytgmnbegemgankaa", sum := "89659ffc955b3387bdbd58b063b416f4ff20bc326fb90f278e307e628efc7b5b", func := "loop.example/beliefchanges/laws.FnTidyRank", spec := "fnTidyRank", unfollowed := true, recurses := true, apart := false, narrowed := true }
def FnTidyRankUptoSaid : Prop := fnTidyRankUptoRow.holds Try.pinned (OpenSpec.upto fnTidyRankSpec)

/-- 'laws.FnExactRankOk', WHERE WHAT IT READS IS OF BULK AT MOST 1048576: true; the input reads as it did. -/
def fnExactRankOkUptoRow : OpenClaim := { program := "ytgmnbegemgankaa", sum := "89659ffc955b3387bdbd58b063b416f4ff20bc326fb90f278e307e628efc7b5b", func := "loop.example/beliefchanges/laws.FnExactRankOk", spec := "fnExactRankOk", apart := false, narrowed := true }
def FnExactRankOkUptoSaid : Prop := fnExactRankOkUptoRow.holds Try.pinned (OpenSpec.upto fnExactRankOkSpec)

/-- 'laws.FnExactMaxTable', WHERE WHAT IT READS IS OF BULK AT MOST 1048576: true; the input reads as it did. -/
def fnExactMaxTableUptoRow : OpenClaim := { program := "ytgmnbegemgankaa", sum := "89659ffc955b3387bdbd58b063b416f4ff20bc326fb90f278e307e628efc7b5b", func := "loop.example/beliefchanges/laws.FnExactMaxTable", spec := "fnExactMaxTable", unfollowed := true, recurses := true, apart := false, narrowed := true }
def FnExactMaxTableUptoSaid : Prop := fnExactMaxTableUptoRow.holds Try.pinned (OpenSpec.upto fnExactMaxTableSpec)

/-- 'laws.FnSetOk', WHERE WHAT IT READS IS OF BULK AT MOST 1048576: true; the input reads as it did. -/
def fnSetOkUptoRow : OpenClaim := { program := "ytgmnbegemgankaa", sum := "89659ffc955b3387bdbd58b063b416f4ff20bc326fb90f278e307e628efc7b5b", func := "loop.example/beliefchanges/laws.FnSetOk", spec := "fnSetOk", apart := false, narrowed := true }
def FnSetOkUptoSaid : Prop := fnSetOkUptoRow.holds Try.pinned (OpenSpec.upto fnSetOkSpec)

/-- 'laws.FnExactSentenceOf', WHERE WHAT IT READS IS OF BULK AT MOST 1048576: true; the input reads as it did. -/
def fnExactSentenceOfUptoRow : OpenClaim := { program := "ytgmnbegemgankaa", sum := "89659ffc955b3387bdbd58b063b416f4ff20bc326fb90f278e307e628efc7b5b", func := "loop.example/beliefchanges/laws.FnExactSentenceOf", spec := "fnExactSentenceOf", recurses := true, apart := false, narrowed := true }
def FnExactSentenceOfUptoSaid : Prop := fnExactSentenceOfUptoRow.holds Try.pinned (OpenSpec.upto fnExactSentenceOfSpec)

/-- 'laws.FnSameOrder', WHERE WHAT IT READS IS OF BULK AT MOST 1048576: true; the input reads as it did. -/
def fnSameOrderUptoRow : OpenClaim := { program := "ytgmnbegemgankaa", sum := "89659ffc955b3387bdbd58b063b416f4ff20bc326fb90f278e307e628efc7b5b", func := "loop.example/beliefchanges/laws.FnSameOrder", spec := "fnSameOrder", unfollowed := true, recurses := true, apart := false, narrowed := true }
def FnSameOrderUptoSaid : Prop := fnSameOrderUptoRow.holds Try.pinned (OpenSpec.upto fnSameOrderSpec)

/-- 'laws.FnExactSurpriseOf', WHERE WHAT IT READS IS OF BULK AT MOST 1048576: true; the input reads as it did. -/
def fnExactSurpriseOfUptoRow : OpenClaim := { program := "ytgmnbegemgankaa", sum := "89659ffc955b3387bdbd58b063b416f4ff20bc326fb90f278e307e628efc7b5b", func := "loop.example/beliefchanges/laws.FnExactSurpriseOf", spec := "fnExactSurpriseOf", apart := false, narrowed := true }
def FnExactSurpriseOfUptoSaid : Prop := fnExactSurpriseOfUptoRow.holds Try.pinned (OpenSpec.upto fnExactSurpriseOfSpec)

end Rows
end Go.Proofs.Ytgmnbegemgankaa
