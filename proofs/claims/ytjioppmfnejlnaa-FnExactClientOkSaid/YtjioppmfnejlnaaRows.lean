/-
  No cell of these rows narrows 'for every input' (looked for: loops, veiled, ifaces, maps, wideKeys, modest, calm, conditions, laid).
  DERIVED. THE GIVEN ROWS OF THIS SEAT. 12 by the template 'for every input the law returns true; each argument reads behind the call as it read before'; 0 by the template 'total and deterministic' (their statements: YtjioppmfnejlnaaTotals.lean).
  GIVEN WITH THE SEED: the statements are not yours to turn. If you find one false, say at which input.
  Laid BY PROGRAM, IN A SANDBOX (cutbox-rows.mjs): the forced cells as the released guide's own fill.sh prints them over the translation 96d80272244b7159… (all of the seat's roots in one cut). By AI agents, Wed Nov 11 2026. No macro, syntax, notation, axiom, sorry.
-/
import Derived.Test.YtjioppmfnejlnaaChecked
import GoSem.Claim
import GoSem.ClaimJoined
import GoSem.ClaimMapViews
import Derived.JoinedTies
import Derived.KernelRfl
namespace Go.Proofs.Ytjioppmfnejlnaa
/- THE CELL 'sum', in the pinned program and in every row, IS THE sha256 OF THE DUMP (.gsa) THAT YtjioppmfnejlnaaProg.lean LOADS. Nothing in Lean hashes anything: it is a label: what it is worth is what the hold of that sum in a sandbox is worth. -/
noncomputable def Try.pinned : Pinned := { name := "ytjioppmfnejlnaa", sum := "96d80272244b7159005c731d112914ebc5970aefabfa1aedf7481c5e1549f70c", checked := Try.checked }
namespace Rows
def none {H : Type} : Left H := { results := [], args := [] }

/-- 'laws.FnExactActWord': WHATEVER THE INPUT: true; the input reads as it did. -/
def fnExactActWordSpec : ChangeSpec := { name := "fnExactActWord", fn := fun _ => fun
  | [d] => { results := [.lit (.bool true)], args := [d] }
  | _ => none }
def fnExactActWordRow : OpenClaim := { program := "ytjioppmfnejlnaa", sum := "96d80272244b7159005c731d112914ebc5970aefabfa1aedf7481c5e1549f70c", func := "loop.example/g00504/laws.FnExactActWord", spec := "fnExactActWord", apart := false }
def FnExactActWordSaid : Prop := fnExactActWordRow.holds Try.pinned (OpenSpec.ofChange fnExactActWordSpec)

/-- ITS FALSE NEIGHBOUR: 'it returns false'. Refute it at one input. -/
def fnExactActWordWrong : ChangeSpec := { name := "fnExactActWord", fn := fun _ => fun
  | [d] => { results := [.lit (.bool false)], args := [d] }
  | _ => none }
def FnExactActWordWrongFalsely : Prop := fnExactActWordRow.holds Try.pinned (OpenSpec.ofChange fnExactActWordWrong)

/-- 'laws.FnExactRetainedMost': WHATEVER THE INPUT: true; the input reads as it did. -/
def fnExactRetainedMostSpec : ChangeSpec := { name := "fnExactRetainedMost", fn := fun _ => fun
  | [d] => { results := [.lit (.bool true)], args := [d] }
  | _ => none }
def fnExactRetainedMostRow : OpenClaim := { program := "ytjioppmfnejlnaa", sum := "96d80272244b7159005c731d112914ebc5970aefabfa1aedf7481c5e1549f70c", func := "loop.example/g00504/laws.FnExactRetainedMost", spec := "fnExactRetainedMost", apart := false }
def FnExactRetainedMostSaid : Prop := fnExactRetainedMostRow.holds Try.pinned (OpenSpec.ofChange fnExactRetainedMostSpec)

/-- ITS FALSE NEIGHBOUR: 'it returns false'. Refute it at one input. -/
def fnExactRetainedMostWrong : ChangeSpec := { name := "fnExactRetainedMost", fn := fun _ => fun
  | [d] => { results := [.lit (.bool false)], args := [d] }
  | _ => none }
def FnExactRetainedMostWrongFalsely : Prop := fnExactRetainedMostRow.holds Try.pinned (OpenSpec.ofChange fnExactRetainedMostWrong)

/-- 'laws.FnExactClientOk': WHATEVER THE INPUT: true; the input reads as it did. -/
def fnExactClientOkSpec : ChangeSpec := { name := "fnExactClientOk", fn := fun _ => fun
  | [d] => { results := [.lit (.bool true)], args := [d] }
  | _ => none }
def fnExactClientOkRow : OpenClaim := { program := "ytjioppmfnejlnaa", sum := "96d80272244b7159005c731d112914ebc5970aefabfa1aedf7481c5e1549f70c", func := "loop.example/g00504/laws.FnExactClientOk", spec := "fnExactClientOk", apart := false }
def FnExactClientOkSaid : Prop := fnExactClientOkRow.holds Try.pinned (OpenSpec.ofChange fnExactClientOkSpec)

/-- ITS FALSE NEIGHBOUR: 'it returns false'. Refute it at one input. -/
def fnExactClientOkWrong : ChangeSpec := { name := "fnExactClientOk", fn := fun _ => fun
  | [d] => { results := [.lit (.bool false)], args := [d] }
  | _ => none }
def FnExactClientOkWrongFalsely : Prop := fnExactClientOkRow.holds Try.pinned (OpenSpec.ofChange fnExactClientOkWrong)

/-- 'laws.FnExactKnock': WHATEVER THE INPUT: true; the input reads as it did. -/
def fnExactKnockSpec : ChangeSpec := { name := "fnExactKnock", fn := fun _ => fun
  | [d] => { results := [.lit (.bool true)], args := [d] }
  | _ => none }
def fnExactKnockRow : OpenClaim := { program := "ytjioppmfnejlnaa", sum := "96d80272244b7159005c731d112914ebc5970aefabfa1aedf7481c5e1549f70c", func := "loop.example/g00504/laws.FnExactKnock", spec := "fnExactKnock", apart := false }
def FnExactKnockSaid : Prop := fnExactKnockRow.holds Try.pinned (OpenSpec.ofChange fnExactKnockSpec)

/-- ITS FALSE NEIGHBOUR: 'it returns false'. Refute it at one input. -/
def fnExactKnockWrong : ChangeSpec := { name := "fnExactKnock", fn := fun _ => fun
  | [d] => { results := [.lit (.bool false)], args := [d] }
  | _ => none }
def FnExactKnockWrongFalsely : Prop := fnExactKnockRow.holds Try.pinned (OpenSpec.ofChange fnExactKnockWrong)

/-- 'laws.FnExactHasIssue': WHATEVER THE INPUT: true; the input reads as it did. -/
def fnExactHasIssueSpec : ChangeSpec := { name := "fnExactHasIssue", fn := fun _ => fun
  | [d1, d2] => { results := [.lit (.bool true)], args := [d1, d2] }
  | _ => none }
def fnExactHasIssueRow : OpenClaim := { program := "ytjioppmfnejlnaa", sum := "96d80272244b7159005c731d112914ebc5970aefabfa1aedf7481c5e1549f70c", func := "loop.example/g00504/laws.FnExactHasIssue", spec := "fnExactHasIssue", apart := false }
def FnExactHasIssueSaid : Prop := fnExactHasIssueRow.holds Try.pinned (OpenSpec.ofChange fnExactHasIssueSpec)

/-- ITS FALSE NEIGHBOUR: 'it returns false'. Refute it at one input. -/
def fnExactHasIssueWrong : ChangeSpec := { name := "fnExactHasIssue", fn := fun _ => fun
  | [d1, d2] => { results := [.lit (.bool false)], args := [d1, d2] }
  | _ => none }
def FnExactHasIssueWrongFalsely : Prop := fnExactHasIssueRow.holds Try.pinned (OpenSpec.ofChange fnExactHasIssueWrong)

/-- 'laws.FnExactGranted': WHATEVER THE INPUT: true; the input reads as it did. -/
def fnExactGrantedSpec : ChangeSpec := { name := "fnExactGranted", fn := fun _ => fun
  | [d] => { results := [.lit (.bool true)], args := [d] }
  | _ => none }
def fnExactGrantedRow : OpenClaim := { program := "ytjioppmfnejlnaa", sum := "96d80272244b7159005c731d112914ebc5970aefabfa1aedf7481c5e1549f70c", func := "loop.example/g00504/laws.FnExactGranted", spec := "fnExactGranted", apart := false }
def FnExactGrantedSaid : Prop := fnExactGrantedRow.holds Try.pinned (OpenSpec.ofChange fnExactGrantedSpec)

/-- ITS FALSE NEIGHBOUR: 'it returns false'. Refute it at one input. -/
def fnExactGrantedWrong : ChangeSpec := { name := "fnExactGranted", fn := fun _ => fun
  | [d] => { results := [.lit (.bool false)], args := [d] }
  | _ => none }
def FnExactGrantedWrongFalsely : Prop := fnExactGrantedRow.holds Try.pinned (OpenSpec.ofChange fnExactGrantedWrong)

/-- 'laws.FnExactSameResult': WHATEVER THE INPUT: true; the input reads as it did. -/
def fnExactSameResultSpec : ChangeSpec := { name := "fnExactSameResult", fn := fun _ => fun
  | [d1, d2] => { results := [.lit (.bool true)], args := [d1, d2] }
  | _ => none }
def fnExactSameResultRow : OpenClaim := { program := "ytjioppmfnejlnaa", sum := "96d80272244b7159005c731d112914ebc5970aefabfa1aedf7481c5e1549f70c", func := "loop.example/g00504/laws.FnExactSameResult", spec := "fnExactSameResult", apart := false }
def FnExactSameResultSaid : Prop := fnExactSameResultRow.holds Try.pinned (OpenSpec.ofChange fnExactSameResultSpec)

/-- ITS FALSE NEIGHBOUR: 'it returns false'. Refute it at one input. -/
def fnExactSameResultWrong : ChangeSpec := { name := "fnExactSameResult", fn := fun _ => fun
  | [d1, d2] => { results := [.lit (.bool false)], args := [d1, d2] }
  | _ => none }
def FnExactSameResultWrongFalsely : Prop := fnExactSameResultRow.holds Try.pinned (OpenSpec.ofChange fnExactSameResultWrong)

/-- 'laws.FnExactReplyTo': WHATEVER THE INPUT: true; the input reads as it did. -/
def fnExactReplyToSpec : ChangeSpec := { name := "fnExactReplyTo", fn := fun _ => fun
  | [d1, d2] => { results := [.lit (.bool true)], args := [d1, d2] }
  | _ => none }
def fnExactReplyToRow : OpenClaim := { program := "ytjioppmfnejlnaa", sum := "96d80272244b7159005c731d112914ebc5970aefabfa1aedf7481c5e1549f70c", func := "loop.example/g00504/laws.FnExactReplyTo", spec := "fnExactReplyTo", apart := false }
def FnExactReplyToSaid : Prop := fnExactReplyToRow.holds Try.pinned (OpenSpec.ofChange fnExactReplyToSpec)

/-- ITS FALSE NEIGHBOUR: 'it returns false'. Refute it at one input. -/
def fnExactReplyToWrong : ChangeSpec := { name := "fnExactReplyTo", fn := fun _ => fun
  | [d1, d2] => { results := [.lit (.bool false)], args := [d1, d2] }
  | _ => none }
def FnExactReplyToWrongFalsely : Prop := fnExactReplyToRow.holds Try.pinned (OpenSpec.ofChange fnExactReplyToWrong)

/-- 'laws.FnExactAssigned': WHATEVER THE INPUT: true; the input reads as it did. -/
def fnExactAssignedSpec : ChangeSpec := { name := "fnExactAssigned", fn := fun _ => fun
  | [d1, d2, d3] => { results := [.lit (.bool true)], args := [d1, d2, d3] }
  | _ => none }
def fnExactAssignedRow : OpenClaim := { program := "ytjioppmfnejlnaa", sum := "96d80272244b7159005c731d112914ebc5970aefabfa1aedf7481c5e1549f70c", func := "loop.example/g00504/laws.FnExactAssigned", spec := "fnExactAssigned", apart := false }
def FnExactAssignedSaid : Prop := fnExactAssignedRow.holds Try.pinned (OpenSpec.ofChange fnExactAssignedSpec)

/-- ITS FALSE NEIGHBOUR: 'it returns false'. Refute it at one input. -/
def fnExactAssignedWrong : ChangeSpec := { name := "fnExactAssigned", fn := fun _ => fun
  | [d1, d2, d3] => { results := [.lit (.bool false)], args := [d1, d2, d3] }
  | _ => none }
def FnExactAssignedWrongFalsely : Prop := fnExactAssignedRow.holds Try.pinned (OpenSpec.ofChange fnExactAssignedWrong)

/-- 'laws.FnExactReadTuple': WHATEVER THE INPUT: true; the input reads as it did. -/
def fnExactReadTupleSpec : ChangeSpec := { name := "fnExactReadTuple", fn := fun _ => fun
  | [d] => { results := [.lit (.bool true)], args := [d] }
  | _ => none }
def fnExactReadTupleRow : OpenClaim := { program := "ytjioppmfnejlnaa", sum := "96d80272244b7159005c731d112914ebc5970aefabfa1aedf7481c5e1549f70c", func := "loop.example/g00504/laws.FnExactReadTuple", spec := "fnExactReadTuple", apart := false }
def FnExactReadTupleSaid : Prop := fnExactReadTupleRow.holds Try.pinned (OpenSpec.ofChange fnExactReadTupleSpec)

/-- ITS FALSE NEIGHBOUR: 'it returns false'. Refute it at one input. -/
def fnExactReadTupleWrong : ChangeSpec := { name := "fnExactReadTuple", fn := fun _ => fun
  | [d] => { results := [.lit (.bool false)], args := [d] }
  | _ => none }
def FnExactReadTupleWrongFalsely : Prop := fnExactReadTupleRow.holds Try.pinned (OpenSpec.ofChange fnExactReadTupleWrong)

/-- 'laws.FnExactGuessInputs': WHATEVER THE INPUT: true; the input reads as it did. -/
def fnExactGuessInputsSpec : ChangeSpec := { name := "fnExactGuessInputs", fn := fun _ => fun
  | [d1, d2] => { results := [.lit (.bool true)], args := [d1, d2] }
  | _ => none }
def fnExactGuessInputsRow : OpenClaim := { program := "ytjioppmfnejlnaa", sum := "96d80272244b7159005c731d112914ebc5970aefabfa1aedf7481c5e1549f70c", func := "loop.example/g00504/laws.FnExactGuessInputs", spec := "fnExactGuessInputs", apart := false }
def FnExactGuessInputsSaid : Prop := fnExactGuessInputsRow.holds Try.pinned (OpenSpec.ofChange fnExactGuessInputsSpec)

/-- ITS FALSE NEIGHBOUR: 'it returns false'. Refute it at one input. -/
def fnExactGuessInputsWrong : ChangeSpec := { name := "fnExactGuessInputs", fn := fun _ => fun
  | [d1, d2] => { results := [.lit (.bool false)], args := [d1, d2] }
  | _ => none }
def FnExactGuessInputsWrongFalsely : Prop := fnExactGuessInputsRow.holds Try.pinned (OpenSpec.ofChange fnExactGuessInputsWrong)

/-- 'laws.FnExactActOk': WHATEVER THE INPUT: true; the input reads as it did. -/
def fnExactActOkSpec : ChangeSpec := { name := "fnExactActOk", fn := fun _ => fun
  | [d] => { results := [.lit (.bool true)], args := [d] }
  | _ => none }
def fnExactActOkRow : OpenClaim := { program := "ytjioppmfnejlnaa", sum := "96d80272244b7159005c731d112914ebc5970aefabfa1aedf7481c5e1549f70c", func := "loop.example/g00504/laws.FnExactActOk", spec := "fnExactActOk", unfollowed := true, recurses := true, apart := false }
def FnExactActOkSaid : Prop := fnExactActOkRow.holds Try.pinned (OpenSpec.ofChange fnExactActOkSpec)

/-- ITS FALSE NEIGHBOUR: 'it returns false'. Refute it at one input. -/
def fnExactActOkWrong : ChangeSpec := { name := "fnExactActOk", fn := fun _ => fun
  | [d] => { results := [.lit (.bool false)], args := [d] }
  | _ => none }
def FnExactActOkWrongFalsely : Prop := fnExactActOkRow.holds Try.pinned (OpenSpec.ofChange fnExactActOkWrong)

/- THE SECOND FORM. 'bulk': how many values and letters a reading holds, each counted each time it is reached (what is shared counts as often as it is met; a slice's spare places count too). A statement '..UptoSaid' is the law's where the arguments, and the package variables that the reading takes, are together of bulk at most 1048576: NARROWER than '..Said'. Prove '..Said' where nothing that the law and all that it calls make is longer than what came in: it says more and counts as full. Else prove '..UptoSaid'. A law counts once. -/
mutual
def uptoBulk {H : Type} : DataW H → Nat
  | .lit (.string bytes) => bytes.length + 1
  | .lit _ => 1
  | .nil => 1
  | .ptr d => uptoBulk d + 1
  | .slice elems spare => uptoBulkAll elems + uptoBulkAll spare + 1
  | .agg parts => uptoBulkAll parts + 1
  | .iface _ d => uptoBulk d + 1
  | .map entries => uptoBulkEntries entries + 1
  | .held _ => 1
def uptoBulkAll {H : Type} : List (DataW H) → Nat
  | [] => 0
  | d :: r => uptoBulk d + uptoBulkAll r
def uptoBulkEntries {H : Type} : List (Lit × DataW H) → Nat
  | [] => 0
  | x :: r => uptoBulkEntry x + uptoBulkEntries r
def uptoBulkEntry {H : Type} : Lit × DataW H → Nat
  | (.string bytes, d) => bytes.length + uptoBulk d + 1
  | (_, d) => uptoBulk d + 1
 end
def uptoSmall : (H : Type) → List (DataW H) → Bool := fun _ ds => decide (uptoBulkAll ds ≤ 1048576)
def OpenSpec.upto (s : _root_.Go.ChangeSpec) : _root_.Go.OpenSpec := { _root_.Go.OpenSpec.ofChange s with cond := some uptoSmall }

/-- 'laws.FnExactActWord', WHERE WHAT IT READS IS OF BULK AT MOST 1048576: true; the input reads as it did. -/
def fnExactActWordUptoRow : OpenClaim := { program := "ytjioppmfnejlnaa", sum := "96d80272244b7159005c731d112914ebc5970aefabfa1aedf7481c5e1549f70c", func := "loop.example/g00504/laws.FnExactActWord", spec := "fnExactActWord", apart := false, narrowed := true }
def FnExactActWordUptoSaid : Prop := fnExactActWordUptoRow.holds Try.pinned (OpenSpec.upto fnExactActWordSpec)

/-- 'laws.FnExactRetainedMost', WHERE WHAT IT READS IS OF BULK AT MOST 1048576: true; the input reads as it did. -/
def fnExactRetainedMostUptoRow : OpenClaim := { program := "ytjioppmfnejlnaa", sum := "96d80272244b7159005c731d112914ebc5970aefabfa1aedf7481c5e1549f70c", func := "loop.example/g00504/laws.FnExactRetainedMost", spec := "fnExactRetainedMost", apart := false, narrowed := true }
def FnExactRetainedMostUptoSaid : Prop := fnExactRetainedMostUptoRow.holds Try.pinned (OpenSpec.upto fnExactRetainedMostSpec)

/-- 'laws.FnExactClientOk', WHERE WHAT IT READS IS OF BULK AT MOST 1048576: true; the input reads as it did. -/
def fnExactClientOkUptoRow : OpenClaim := { program := "ytjioppmfnejlnaa", sum := "96d80272244b7159005c731d112914ebc5970aefabfa1aedf7481c5e1549f70c", func := "loop.example/g00504/laws.FnExactClientOk", spec := "fnExactClientOk", apart := false, narrowed := true }
def FnExactClientOkUptoSaid : Prop := fnExactClientOkUptoRow.holds Try.pinned (OpenSpec.upto fnExactClientOkSpec)

/-- 'laws.FnExactKnock', WHERE WHAT IT READS IS OF BULK AT MOST 1048576: true; the input reads as it did. -/
def fnExactKnockUptoRow : OpenClaim := { program := "ytjioppmfnejlnaa", sum := "96d80272244b7159005c731d112914ebc5970aefabfa1aedf7481c5e1549f70c", func := "loop.example/g00504/laws.FnExactKnock", spec := "fnExactKnock", apart := false, narrowed := true }
def FnExactKnockUptoSaid : Prop := fnExactKnockUptoRow.holds Try.pinned (OpenSpec.upto fnExactKnockSpec)

/-- 'laws.FnExactHasIssue', WHERE WHAT IT READS IS OF BULK AT MOST 1048576: true; the input reads as it did. -/
def fnExactHasIssueUptoRow : OpenClaim := { program := "ytjioppmfnejlnaa", sum := "96d80272244b7159005c731d112914ebc5970aefabfa1aedf7481c5e1549f70c", func := "loop.example/g00504/laws.FnExactHasIssue", spec := "fnExactHasIssue", apart := false, narrowed := true }
def FnExactHasIssueUptoSaid : Prop := fnExactHasIssueUptoRow.holds Try.pinned (OpenSpec.upto fnExactHasIssueSpec)

/-- 'laws.FnExactGranted', WHERE WHAT IT READS IS OF BULK AT MOST 1048576: true; the input reads as it did. -/
def fnExactGrantedUptoRow : OpenClaim := { program := "ytjioppmfnejlnaa", sum := "96d80272244b7159005c731d112914ebc5970aefabfa1aedf7481c5e1549f70c", func := "loop.example/g00504/laws.FnExactGranted", spec := "fnExactGranted", apart := false, narrowed := true }
def FnExactGrantedUptoSaid : Prop := fnExactGrantedUptoRow.holds Try.pinned (OpenSpec.upto fnExactGrantedSpec)

/-- 'laws.FnExactSameResult', WHERE WHAT IT READS IS OF BULK AT MOST 1048576: true; the input reads as it did. -/
def fnExactSameResultUptoRow : OpenClaim := { program := "ytjioppmfnejlnaa", sum := "96d80272244b7159005c731d112914ebc5970aefabfa1aedf7481c5e1549f70c", func := "loop.example/g00504/laws.FnExactSameResult", spec := "fnExactSameResult", apart := false, narrowed := true }
def FnExactSameResultUptoSaid : Prop := fnExactSameResultUptoRow.holds Try.pinned (OpenSpec.upto fnExactSameResultSpec)

/-- 'laws.FnExactReplyTo', WHERE WHAT IT READS IS OF BULK AT MOST 1048576: true; the input reads as it did. -/
def fnExactReplyToUptoRow : OpenClaim := { program := "ytjioppmfnejlnaa", sum := "96d80272244b7159005c731d112914ebc5970aefabfa1aedf7481c5e1549f70c", func := "loop.example/g00504/laws.FnExactReplyTo", spec := "fnExactReplyTo", apart := false, narrowed := true }
def FnExactReplyToUptoSaid : Prop := fnExactReplyToUptoRow.holds Try.pinned (OpenSpec.upto fnExactReplyToSpec)

/-- 'laws.FnExactAssigned', WHERE WHAT IT READS IS OF BULK AT MOST 1048576: true; the input reads as it did. -/
def fnExactAssignedUptoRow : OpenClaim := { program := "ytjioppmfnejlnaa", sum := "96d80272244b7159005c731d112914ebc5970aefabfa1aedf7481c5e1549f70c", func := "loop.example/g00504/laws.FnExactAssigned", spec := "fnExactAssigned", apart := false, narrowed := true }
def FnExactAssignedUptoSaid : Prop := fnExactAssignedUptoRow.holds Try.pinned (OpenSpec.upto fnExactAssignedSpec)

/-- 'laws.FnExactReadTuple', WHERE WHAT IT READS IS OF BULK AT MOST 1048576: true; the input reads as it did. -/
def fnExactReadTupleUptoRow : OpenClaim := { program := "ytjioppmfnejlnaa", sum := "96d80272244b7159005c731d112914ebc5970aefabfa1aedf7481c5e1549f70c", func := "loop.example/g00504/laws.FnExactReadTuple", spec := "fnExactReadTuple", apart := false, narrowed := true }
def FnExactReadTupleUptoSaid : Prop := fnExactReadTupleUptoRow.holds Try.pinned (OpenSpec.upto fnExactReadTupleSpec)

/-- 'laws.FnExactGuessInputs', WHERE WHAT IT READS IS OF BULK AT MOST 1048576: true; the input reads as it did. -/
def fnExactGuessInputsUptoRow : OpenClaim := { program := "ytjioppmfnejlnaa", sum := "96d80272244b7159005c731d112914ebc5970aefabfa1aedf7481c5e1549f70c", func := "loop.example/g00504/laws.FnExactGuessInputs", spec := "fnExactGuessInputs", apart := false, narrowed := true }
def FnExactGuessInputsUptoSaid : Prop := fnExactGuessInputsUptoRow.holds Try.pinned (OpenSpec.upto fnExactGuessInputsSpec)

/-- 'laws.FnExactActOk', WHERE WHAT IT READS IS OF BULK AT MOST 1048576: true; the input reads as it did. -/
def fnExactActOkUptoRow : OpenClaim := { program := "ytjioppmfnejlnaa", sum := "96d80272244b7159005c731d112914ebc5970aefabfa1aedf7481c5e1549f70c", func := "loop.example/g00504/laws.FnExactActOk", spec := "fnExactActOk", unfollowed := true, recurses := true, apart := false, narrowed := true }
def FnExactActOkUptoSaid : Prop := fnExactActOkUptoRow.holds Try.pinned (OpenSpec.upto fnExactActOkSpec)

end Rows
end Go.Proofs.Ytjioppmfnejlnaa
