/-
  No cell of these rows narrows 'for every input' (looked for: loops, veiled, ifaces, maps, wideKeys, modest, calm, conditions, laid).
  DERIVED. THE GIVEN ROWS OF THIS SEAT. 6 by the template 'for every input the law returns true; each argument reads behind the call as it read before'; 0 by the template 'total and deterministic' (their statements: YtcmhilebiojfaaaTotals.lean).
  GIVEN WITH THE SEED: the statements are not yours to turn. If you find one false, say at which input.
  Laid BY PROGRAM, IN A SANDBOX (cutbox-rows.mjs): the forced cells as the released guide's own fill.sh prints them over the translation ae247f337176f5da… (all of the seat's roots in one cut). By AI agents, Wed Nov 11 2026. No macro, syntax, notation, axiom, sorry.
-/
import Derived.Test.YtcmhilebiojfaaaChecked
import GoSem.Claim
import GoSem.ClaimJoined
import GoSem.ClaimMapViews
import Derived.JoinedTies
import Derived.KernelRfl
namespace Go.Proofs.Ytcmhilebiojfaaa
/- THE CELL 'sum', in the pinned program and in every row, IS THE sha256 OF THE DUMP (.gsa) THAT YtcmhilebiojfaaaProg.lean LOADS. Nothing in Lean hashes anything: it is a label: what it is worth is what the hold of that sum in a sandbox is worth. -/
noncomputable def Try.pinned : Pinned := { name := "ytcmhilebiojfaaa", sum := "ae247f337176f5da08c3b995dd1ee0fed5a5cb37a77c398225c5ffdd991545c1", checked := Try.checked }
namespace Rows
def none {H : Type} : Left H := { results := [], args := [] }

/-- 'laws.FnExactRankFrom': WHATEVER THE INPUT: true; the input reads as it did. -/
def fnExactRankFromSpec : ChangeSpec := { name := "fnExactRankFrom", fn := fun _ => fun
  | [d1, d2] => { results := [.lit (.bool true)], args := [d1, d2] }
  | _ => none }
def fnExactRankFromRow : OpenClaim := { program := "ytcmhilebiojfaaa", sum := "ae247f337176f5da08c3b995dd1ee0fed5a5cb37a77c398225c5ffdd991545c1", func := "loop.example/beliefchanges/laws.FnExactRankFrom", spec := "fnExactRankFrom", unfollowed := true, recurses := true, apart := false }
def FnExactRankFromSaid : Prop := fnExactRankFromRow.holds Try.pinned (OpenSpec.ofChange fnExactRankFromSpec)

/-- ITS FALSE NEIGHBOUR: 'it returns false'. Refute it at one input. -/
def fnExactRankFromWrong : ChangeSpec := { name := "fnExactRankFrom", fn := fun _ => fun
  | [d1, d2] => { results := [.lit (.bool false)], args := [d1, d2] }
  | _ => none }
def FnExactRankFromWrongFalsely : Prop := fnExactRankFromRow.holds Try.pinned (OpenSpec.ofChange fnExactRankFromWrong)

/-- 'laws.FnSentenceOf': WHATEVER THE INPUT: true; the input reads as it did. -/
def fnSentenceOfSpec : ChangeSpec := { name := "fnSentenceOf", fn := fun _ => fun
  | [d] => { results := [.lit (.bool true)], args := [d] }
  | _ => none }
def fnSentenceOfRow : OpenClaim := { program := "ytcmhilebiojfaaa", sum := "ae247f337176f5da08c3b995dd1ee0fed5a5cb37a77c398225c5ffdd991545c1", func := "loop.example/beliefchanges/laws.FnSentenceOf", spec := "fnSentenceOf", unfollowed := true, recurses := true, apart := false }
def FnSentenceOfSaid : Prop := fnSentenceOfRow.holds Try.pinned (OpenSpec.ofChange fnSentenceOfSpec)

/-- ITS FALSE NEIGHBOUR: 'it returns false'. Refute it at one input. -/
def fnSentenceOfWrong : ChangeSpec := { name := "fnSentenceOf", fn := fun _ => fun
  | [d] => { results := [.lit (.bool false)], args := [d] }
  | _ => none }
def FnSentenceOfWrongFalsely : Prop := fnSentenceOfRow.holds Try.pinned (OpenSpec.ofChange fnSentenceOfWrong)

/-- 'laws.FnFollows': WHATEVER THE INPUT: true; the input reads as it did. -/
def fnFollowsSpec : ChangeSpec := { name := "fnFollows", fn := fun _ => fun
  | [d] => { results := [.lit (.bool true)], args := [d] }
  | _ => none }
def fnFollowsRow : OpenClaim := { program := "ytcmhilebiojfaaa", sum := "ae247f337176f5da08c3b995dd1ee0fed5a5cb37a77c398225c5ffdd991545c1", func := "loop.example/beliefchanges/laws.FnFollows", spec := "fnFollows", unfollowed := true, recurses := true, apart := false }
def FnFollowsSaid : Prop := fnFollowsRow.holds Try.pinned (OpenSpec.ofChange fnFollowsSpec)

/-- ITS FALSE NEIGHBOUR: 'it returns false'. Refute it at one input. -/
def fnFollowsWrong : ChangeSpec := { name := "fnFollows", fn := fun _ => fun
  | [d] => { results := [.lit (.bool false)], args := [d] }
  | _ => none }
def FnFollowsWrongFalsely : Prop := fnFollowsRow.holds Try.pinned (OpenSpec.ofChange fnFollowsWrong)

/-- 'laws.FnHoldsIn': WHATEVER THE INPUT: true; the input reads as it did. -/
def fnHoldsInSpec : ChangeSpec := { name := "fnHoldsIn", fn := fun _ => fun
  | [d] => { results := [.lit (.bool true)], args := [d] }
  | _ => none }
def fnHoldsInRow : OpenClaim := { program := "ytcmhilebiojfaaa", sum := "ae247f337176f5da08c3b995dd1ee0fed5a5cb37a77c398225c5ffdd991545c1", func := "loop.example/beliefchanges/laws.FnHoldsIn", spec := "fnHoldsIn", unfollowed := true, recurses := true, apart := false }
def FnHoldsInSaid : Prop := fnHoldsInRow.holds Try.pinned (OpenSpec.ofChange fnHoldsInSpec)

/-- ITS FALSE NEIGHBOUR: 'it returns false'. Refute it at one input. -/
def fnHoldsInWrong : ChangeSpec := { name := "fnHoldsIn", fn := fun _ => fun
  | [d] => { results := [.lit (.bool false)], args := [d] }
  | _ => none }
def FnHoldsInWrongFalsely : Prop := fnHoldsInRow.holds Try.pinned (OpenSpec.ofChange fnHoldsInWrong)

/-- 'laws.FnFirstFault': WHATEVER THE INPUT: true; the input reads as it did. -/
def fnFirstFaultSpec : ChangeSpec := { name := "fnFirstFault", fn := fun _ => fun
  | [d] => { results := [.lit (.bool true)], args := [d] }
  | _ => none }
def fnFirstFaultRow : OpenClaim := { program := "ytcmhilebiojfaaa", sum := "ae247f337176f5da08c3b995dd1ee0fed5a5cb37a77c398225c5ffdd991545c1", func := "loop.example/beliefchanges/laws.FnFirstFault", spec := "fnFirstFault", unfollowed := true, recurses := true, apart := false }
def FnFirstFaultSaid : Prop := fnFirstFaultRow.holds Try.pinned (OpenSpec.ofChange fnFirstFaultSpec)

/-- ITS FALSE NEIGHBOUR: 'it returns false'. Refute it at one input. -/
def fnFirstFaultWrong : ChangeSpec := { name := "fnFirstFault", fn := fun _ => fun
  | [d] => { results := [.lit (.bool false)], args := [d] }
  | _ => none }
def FnFirstFaultWrongFalsely : Prop := fnFirstFaultRow.holds Try.pinned (OpenSpec.ofChange fnFirstFaultWrong)

/-- 'laws.FnRankFrom': WHATEVER THE INPUT: true; the input reads as it did. -/
def fnRankFromSpec : ChangeSpec := { name := "fnRankFrom", fn := fun _ => fun
  | [d] => { results := [.lit (.bool true)], args := [d] }
  | _ => none }
def fnRankFromRow : OpenClaim := { program := "ytcmhilebiojfaaa", sum := "ae247f337176f5da08c3b995dd1ee0fed5a5cb37a77c398225c5ffdd991545c1", func := "loop.example/beliefchanges/laws.FnRankFrom", spec := "fnRankFrom", unfollowed := true, recurses := true, apart := false }
def FnRankFromSaid : Prop := fnRankFromRow.holds Try.pinned (OpenSpec.ofChange fnRankFromSpec)

/-- ITS FALSE NEIGHBOUR: 'it returns false'. Refute it at one input. -/
def fnRankFromWrong : ChangeSpec := { name := "fnRankFrom", fn := fun _ => fun
  | [d] => { results := [.lit (.bool false)], args := [d] }
  | _ => none }
def FnRankFromWrongFalsely : Prop := fnRankFromRow.holds Try.pinned (OpenSpec.ofChange fnRankFromWrong)

/- THE SECOND FORM. 'bulk': how many values and letters a reading holds, each counted each time it is reached (what is shared counts as often as it is met; a slice's spare places count too). A statement '..UptoSaid' is the law's where the arguments, and the package variables that the reading takes, are together of bulk at most 1048576: NARROWER than '..Said'. Prove '..Said' where nothing that the law and all that it calls make is longer than what came in: it says more and counts as full. Else prove '..UptoSaid'. A law counts once. -/
mutual
def uptoBulk {H : Type} : DataW H → Nat
  | .lit (.string bytes) => bytes.length + 1
  | .lit _ => 1
  | .nil => 1
  | .ptr d => uptoBulk d + 1
  | .slice elems spare => uptoBulkAll elems + uptoBulkAll spare + 1
  | .agg parts => uptoBulkAll parts + 1
  | .iface _ d => uptoBulk d + 1
  | .map entries => uptoBulkEntries entries + 1
  | .held _ => 1
def uptoBulkAll {H : Type} : List (DataW H) → Nat
  | [] => 0
  | d :: r => uptoBulk d + uptoBulkAll r
def uptoBulkEntries {H : Type} : List (Lit × DataW H) → Nat
  | [] => 0
  | x :: r => uptoBulkEntry x + uptoBulkEntries r
def uptoBulkEntry {H : Type} : Lit × DataW H → Nat
  | (.string bytes, d) => bytes.length + uptoBulk d + 1
  | (_, d) => uptoBulk d + 1
 end
def uptoSmall : (H : Type) → List (DataW H) → Bool := fun _ ds => decide (uptoBulkAll ds ≤ 1048576)
def OpenSpec.upto (s : _root_.Go.ChangeSpec) : _root_.Go.OpenSpec := { _root_.Go.OpenSpec.ofChange s with cond := some uptoSmall }

/-- 'laws.FnExactRankFrom', WHERE WHAT IT READS IS OF BULK AT MOST 1048576: true; the input reads as it did. -/
def fnExactRankFromUptoRow : OpenClaim := { program := "ytcmhilebiojfaaa", sum := "ae247f337176f5da08c3b995dd1ee0fed5a5cb37a77c398225c5ffdd991545c1", func := "loop.example/beliefchanges/laws.FnExactRankFrom", spec := "fnExactRankFrom", unfollowed := true, recurses := true, apart := false, narrowed := true }
def FnExactRankFromUptoSaid : Prop := fnExactRankFromUptoRow.holds Try.pinned (OpenSpec.upto fnExactRankFromSpec)

/-- 'laws.FnSentenceOf', WHERE WHAT IT READS IS OF BULK AT MOST 1048576: true; the input reads as it did. -/
def fnSentenceOfUptoRow : OpenClaim := { program := "ytcmhilebiojfaaa", sum := "ae247f337176f5da08c3b995dd1ee0fed5a5cb37a77c398225c5ffdd991545c1", func := "loop.example/beliefchanges/laws.FnSentenceOf", spec := "fnSentenceOf", unfollowed := true, recurses := true, apart := false, narrowed := true }
def FnSentenceOfUptoSaid : Prop := fnSentenceOfUptoRow.holds Try.pinned (OpenSpec.upto fnSentenceOfSpec)

/-- 'laws.FnFollows', WHERE WHAT IT READS IS OF BULK AT MOST 1048576: true; the input reads as it did. -/
def fnFollowsUptoRow : OpenClaim := { program := "ytcmhilebiojfaaa", sum := "ae247f337176f5da08c3b995dd1ee0fed5a5cb37a77c398225c5ffdd991545c1", func := "loop.example/beliefchanges/laws.FnFollows", spec := "fnFollows", unfollowed := true, recurses := true, apart := false, narrowed := true }
def FnFollowsUptoSaid : Prop := fnFollowsUptoRow.holds Try.pinned (OpenSpec.upto fnFollowsSpec)

/-- 'laws.FnHoldsIn', WHERE WHAT IT READS IS OF BULK AT MOST 1048576: true; the input reads as it did. -/
def fnHoldsInUptoRow : OpenClaim := { program := "ytcmhilebiojfaaa", sum := "ae247f337176f5da08c3b995dd1ee0fed5a5cb37a77c398225c5ffdd991545c1", func := "loop.example/beliefchanges/laws.FnHoldsIn", spec := "fnHoldsIn", unfollowed := true, recurses := true, apart := false, narrowed := true }
def FnHoldsInUptoSaid : Prop := fnHoldsInUptoRow.holds Try.pinned (OpenSpec.upto fnHoldsInSpec)

/-- 'laws.FnFirstFault', WHERE WHAT IT READS IS OF BULK AT MOST 1048576: true; the input reads as it did. -/
def fnFirstFaultUptoRow : OpenClaim := { program := "ytcmhilebiojfaaa", sum := "ae247f337176f5da08c3b995dd1ee0fed5a5cb37a77c398225c5ffdd991545c1", func := "loop.example/beliefchanges/laws.FnFirstFault", spec := "fnFirstFault", unfollowed := true, recurses := true, apart := false, narrowed := true }
def FnFirstFaultUptoSaid : Prop := fnFirstFaultUptoRow.holds Try.pinned (OpenSpec.upto fnFirstFaultSpec)

/-- 'laws.FnRankFrom', WHERE WHAT IT READS IS OF BULK AT MOST 1048576: true; the input reads as it did. -/
def fnRankFromUptoRow : OpenClaim := { program := "ytcmhilebiojfaaa", sum := "ae247f337176f5da08c3b995dd1ee0fed5a5cb37a77c398225c5ffdd991545c1", func := "loop.example/beliefchanges/laws.FnRankFrom", spec := "fnRankFrom", unfollowed := true, recurses := true, apart := false, narrowed := true }
def FnRankFromUptoSaid : Prop := fnRankFromUptoRow.holds Try.pinned (OpenSpec.upto fnRankFromSpec)

end Rows
end Go.Proofs.Ytcmhilebiojfaaa
