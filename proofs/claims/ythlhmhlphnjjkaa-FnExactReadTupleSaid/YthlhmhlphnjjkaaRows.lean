/-
  No cell of these rows narrows 'for every input' (looked for: loops, veiled, ifaces, maps, wideKeys, modest, calm, conditions, laid).
  DERIVED. THE GIVEN ROWS OF THIS SEAT. 9 by the template 'for every input the law returns true; each argument reads behind the call as it read before'; 0 by the template 'total and deterministic' (their statements: YthlhmhlphnjjkaaTotals.lean).
  GIVEN WITH THE SEED: the statements are not yours to turn. If you find one false, say at which input.
  Laid BY PROGRAM, IN A SANDBOX (cutbox-rows.mjs): the forced cells as the released guide's own fill.sh prints them over the translation 61240a0cc3cf4f45… (all of the seat's roots in one cut). By AI agents, Wed Nov 11 2026. No macro, syntax, notation, axiom, sorry.
-/
import Derived.Test.YthlhmhlphnjjkaaChecked
import GoSem.Claim
import GoSem.ClaimJoined
import GoSem.ClaimMapViews
import Derived.JoinedTies
import Derived.KernelRfl
namespace Go.Proofs.Ythlhmhlphnjjkaa
/- THE CELL 'sum', in the pinned program and in every row, IS THE sha256 OF THE DUMP (.gsa) THAT YthlhmhlphnjjkaaProg.lean LOADS. Nothing in Lean hashes anything: it is a label: what it is worth is what the hold of that sum in a sandbox is worth. -/
noncomputable def Try.pinned : Pinned := { name := "ythlhmhlphnjjkaa", sum := "61240a0cc3cf4f45526ad96c21b632eda3f9ba36911223bf007227f693c9b9f2", checked := Try.checked }
namespace Rows
def none {H : Type} : Left H := { results := [], args := [] }

/-- 'laws.FnExactAssigned': WHATEVER THE INPUT: true; the input reads as it did. -/
def fnExactAssignedSpec : ChangeSpec := { name := "fnExactAssigned", fn := fun _ => fun
  | [d1, d2, d3] => { results := [.lit (.bool true)], args := [d1, d2, d3] }
  | _ => none }
def fnExactAssignedRow : OpenClaim := { program := "ythlhmhlphnjjkaa", sum := "61240a0cc3cf4f45526ad96c21b632eda3f9ba36911223bf007227f693c9b9f2", func := "loop.example/g00504/laws.FnExactAssigned", spec := "fnExactAssigned", apart := false }
def FnExactAssignedSaid : Prop := fnExactAssignedRow.holds Try.pinned (OpenSpec.ofChange fnExactAssignedSpec)

/-- ITS FALSE NEIGHBOUR: 'it returns false'. Refute it at one input. -/
def fnExactAssignedWrong : ChangeSpec := { name := "fnExactAssigned", fn := fun _ => fun
  | [d1, d2, d3] => { results := [.lit (.bool false)], args := [d1, d2, d3] }
  | _ => none }
def FnExactAssignedWrongFalsely : Prop := fnExactAssignedRow.holds Try.pinned (OpenSpec.ofChange fnExactAssignedWrong)

/-- 'laws.FnAssigned': WHATEVER THE INPUT: true; the input reads as it did. -/
def fnAssignedSpec : ChangeSpec := { name := "fnAssigned", fn := fun _ => fun
  | [d] => { results := [.lit (.bool true)], args := [d] }
  | _ => none }
def fnAssignedRow : OpenClaim := { program := "ythlhmhlphnjjkaa", sum := "61240a0cc3cf4f45526ad96c21b632eda3f9ba36911223bf007227f693c9b9f2", func := "loop.example/g00504/laws.FnAssigned", spec := "fnAssigned", unfollowed := true, recurses := true, apart := false }
def FnAssignedSaid : Prop := fnAssignedRow.holds Try.pinned (OpenSpec.ofChange fnAssignedSpec)

/-- ITS FALSE NEIGHBOUR: 'it returns false'. Refute it at one input. -/
def fnAssignedWrong : ChangeSpec := { name := "fnAssigned", fn := fun _ => fun
  | [d] => { results := [.lit (.bool false)], args := [d] }
  | _ => none }
def FnAssignedWrongFalsely : Prop := fnAssignedRow.holds Try.pinned (OpenSpec.ofChange fnAssignedWrong)

/-- 'laws.FnExactReadTuple': WHATEVER THE INPUT: true; the input reads as it did. -/
def fnExactReadTupleSpec : ChangeSpec := { name := "fnExactReadTuple", fn := fun _ => fun
  | [d] => { results := [.lit (.bool true)], args := [d] }
  | _ => none }
def fnExactReadTupleRow : OpenClaim := { program := "ythlhmhlphnjjkaa", sum := "61240a0cc3cf4f45526ad96c21b632eda3f9ba36911223bf007227f693c9b9f2", func := "loop.example/g00504/laws.FnExactReadTuple", spec := "fnExactReadTuple", apart := false }
def FnExactReadTupleSaid : Prop := fnExactReadTupleRow.holds Try.pinned (OpenSpec.ofChange fnExactReadTupleSpec)

/-- ITS FALSE NEIGHBOUR: 'it returns false'. Refute it at one input. -/
def fnExactReadTupleWrong : ChangeSpec := { name := "fnExactReadTuple", fn := fun _ => fun
  | [d] => { results := [.lit (.bool false)], args := [d] }
  | _ => none }
def FnExactReadTupleWrongFalsely : Prop := fnExactReadTupleRow.holds Try.pinned (OpenSpec.ofChange fnExactReadTupleWrong)

/-- 'laws.FnExactGuessInputs': WHATEVER THE INPUT: true; the input reads as it did. -/
def fnExactGuessInputsSpec : ChangeSpec := { name := "fnExactGuessInputs", fn := fun _ => fun
  | [d1, d2] => { results := [.lit (.bool true)], args := [d1, d2] }
  | _ => none }
def fnExactGuessInputsRow : OpenClaim := { program := "ythlhmhlphnjjkaa", sum := "61240a0cc3cf4f45526ad96c21b632eda3f9ba36911223bf007227f693c9b9f2", func := "loop.example/g00504/laws.FnExactGuessInputs", spec := "fnExactGuessInputs", apart := false }
def FnExactGuessInputsSaid : Prop := fnExactGuessInputsRow.holds Try.pinned (OpenSpec.ofChange fnExactGuessInputsSpec)

/-- ITS FALSE NEIGHBOUR: 'it returns false'. Refute it at one input. -/
def fnExactGuessInputsWrong : ChangeSpec := { name := "fnExactGuessInputs", fn := fun _ => fun
  | [d1, d2] => { results := [.lit (.bool false)], args := [d1, d2] }
  | _ => none }
def FnExactGuessInputsWrongFalsely : Prop := fnExactGuessInputsRow.holds Try.pinned (OpenSpec.ofChange fnExactGuessInputsWrong)

/-- 'laws.FnExactActOk': WHATEVER THE INPUT: true; the input reads as it did. -/
def fnExactActOkSpec : ChangeSpec := { name := "fnExactActOk", fn := fun _ => fun
  | [d] => { results := [.lit (.bool true)], args := [d] }
  | _ => none }
def fnExactActOkRow : OpenClaim := { program := "ythlhmhlphnjjkaa", sum := "61240a0cc3cf4f45526ad96c21b632eda3f9ba36911223bf007227f693c9b9f2", func := "loop.example/g00504/laws.FnExactActOk", spec := "fnExactActOk", unfollowed := true, recurses := true, apart := false }
def FnExactActOkSaid : Prop := fnExactActOkRow.holds Try.pinned (OpenSpec.ofChange fnExactActOkSpec)

/-- ITS FALSE NEIGHBOUR: 'it returns false'. Refute it at one input. -/
def fnExactActOkWrong : ChangeSpec := { name := "fnExactActOk", fn := fun _ => fun
  | [d] => { results := [.lit (.bool false)], args := [d] }
  | _ => none }
def FnExactActOkWrongFalsely : Prop := fnExactActOkRow.holds Try.pinned (OpenSpec.ofChange fnExactActOkWrong)

/-- 'laws.FnExactShareOf': WHATEVER THE INPUT: true; the input reads as it did. -/
def fnExactShareOfSpec : ChangeSpec := { name := "fnExactShareOf", fn := fun _ => fun
  | [d1, d2, d3] => { results := [.lit (.bool true)], args := [d1, d2, d3] }
  | _ => none }
def fnExactShareOfRow : OpenClaim := { program := "ythlhmhlphnjjkaa", sum := "61240a0cc3cf4f45526ad96c21b632eda3f9ba36911223bf007227f693c9b9f2", func := "loop.example/g00504/laws.FnExactShareOf", spec := "fnExactShareOf", unfollowed := true, recurses := true, apart := false }
def FnExactShareOfSaid : Prop := fnExactShareOfRow.holds Try.pinned (OpenSpec.ofChange fnExactShareOfSpec)

/-- ITS FALSE NEIGHBOUR: 'it returns false'. Refute it at one input. -/
def fnExactShareOfWrong : ChangeSpec := { name := "fnExactShareOf", fn := fun _ => fun
  | [d1, d2, d3] => { results := [.lit (.bool false)], args := [d1, d2, d3] }
  | _ => none }
def FnExactShareOfWrongFalsely : Prop := fnExactShareOfRow.holds Try.pinned (OpenSpec.ofChange fnExactShareOfWrong)

/-- 'laws.FnExactHitBy': WHATEVER THE INPUT: true; the input reads as it did. -/
def fnExactHitBySpec : ChangeSpec := { name := "fnExactHitBy", fn := fun _ => fun
  | [d1, d2] => { results := [.lit (.bool true)], args := [d1, d2] }
  | _ => none }
def fnExactHitByRow : OpenClaim := { program := "ythlhmhlphnjjkaa", sum := "61240a0cc3cf4f45526ad96c21b632eda3f9ba36911223bf007227f693c9b9f2", func := "loop.example/g00504/laws.FnExactHitBy", spec := "fnExactHitBy", unfollowed := true, recurses := true, apart := false }
def FnExactHitBySaid : Prop := fnExactHitByRow.holds Try.pinned (OpenSpec.ofChange fnExactHitBySpec)

/-- ITS FALSE NEIGHBOUR: 'it returns false'. Refute it at one input. -/
def fnExactHitByWrong : ChangeSpec := { name := "fnExactHitBy", fn := fun _ => fun
  | [d1, d2] => { results := [.lit (.bool false)], args := [d1, d2] }
  | _ => none }
def FnExactHitByWrongFalsely : Prop := fnExactHitByRow.holds Try.pinned (OpenSpec.ofChange fnExactHitByWrong)

/-- 'laws.FnShare': WHATEVER THE INPUT: true; the input reads as it did. -/
def fnShareSpec : ChangeSpec := { name := "fnShare", fn := fun _ => fun
  | [d] => { results := [.lit (.bool true)], args := [d] }
  | _ => none }
def fnShareRow : OpenClaim := { program := "ythlhmhlphnjjkaa", sum := "61240a0cc3cf4f45526ad96c21b632eda3f9ba36911223bf007227f693c9b9f2", func := "loop.example/g00504/laws.FnShare", spec := "fnShare", unfollowed := true, recurses := true, apart := false }
def FnShareSaid : Prop := fnShareRow.holds Try.pinned (OpenSpec.ofChange fnShareSpec)

/-- ITS FALSE NEIGHBOUR: 'it returns false'. Refute it at one input. -/
def fnShareWrong : ChangeSpec := { name := "fnShare", fn := fun _ => fun
  | [d] => { results := [.lit (.bool false)], args := [d] }
  | _ => none }
def FnShareWrongFalsely : Prop := fnShareRow.holds Try.pinned (OpenSpec.ofChange fnShareWrong)

/-- 'laws.FnShareOne': WHATEVER THE INPUT: true; the input reads as it did. -/
def fnShareOneSpec : ChangeSpec := { name := "fnShareOne", fn := fun _ => fun
  | [d] => { results := [.lit (.bool true)], args := [d] }
  | _ => none }
def fnShareOneRow : OpenClaim := { program := "ythlhmhlphnjjkaa", sum := "61240a0cc3cf4f45526ad96c21b632eda3f9ba36911223bf007227f693c9b9f2", func := "loop.example/g00504/laws.FnShareOne", spec := "fnShareOne", unfollowed := true, recurses := true, apart := false }
def FnShareOneSaid : Prop := fnShareOneRow.holds Try.pinned (OpenSpec.ofChange fnShareOneSpec)

/-- ITS FALSE NEIGHBOUR: 'it returns false'. Refute it at one input. -/
def fnShareOneWrong : ChangeSpec := { name := "fnShareOne", fn := fun _ => fun
  | [d] => { results := [.lit (.bool false)], args := [d] }
  | _ => none }
def FnShareOneWrongFalsely : Prop := fnShareOneRow.holds Try.pinned (OpenSpec.ofChange fnShareOneWrong)

/- THE SECOND FORM. 'bulk': how many values and letters a reading holds, each counted each time it is reached (what is shared counts as often as it is met; a slice's spare places count too). A statement '..UptoSaid' is the law's where the arguments, and the package variables that the reading takes, are together of bulk at most 1048576: NARROWER than '..Said'. Prove '..Said' where nothing that the law and all that it calls make is longer than what came in: it says more and counts as full. Else prove '..UptoSaid'. A law counts once. -/
mutual
def uptoBulk {H : Type} : DataW H → Nat
  | .lit (.string bytes) => bytes.length + 1
  | .lit _ => 1
  | .nil => 1
  | .ptr d => uptoBulk d + 1
  | .slice elems spare => uptoBulkAll elems + uptoBulkAll spare + 1
  | .agg parts => uptoBulkAll parts + 1
  | .iface _ d => uptoBulk d + 1
  | .map entries => uptoBulkEntries entries + 1
  | .held _ => 1
def uptoBulkAll {H : Type} : List (DataW H) → Nat
  | [] => 0
  | d :: r => uptoBulk d + uptoBulkAll r
def uptoBulkEntries {H : Type} : List (Lit × DataW H) → Nat
  | [] => 0
  | x :: r => uptoBulkEntry x + uptoBulkEntries r
def uptoBulkEntry {H : Type} : Lit × DataW H → Nat
  | (.string bytes, d) => bytes.length + uptoBulk d + 1
  | (_, d) => uptoBulk d + 1
 end
def uptoSmall : (H : Type) → List (DataW H) → Bool := fun _ ds => decide (uptoBulkAll ds ≤ 1048576)
def OpenSpec.upto (s : _root_.Go.ChangeSpec) : _root_.Go.OpenSpec := { _root_.Go.OpenSpec.ofChange s with cond := some uptoSmall }

/-- 'laws.FnExactAssigned', WHERE WHAT IT READS IS OF BULK AT MOST 1048576: true; the input reads as it did. -/
def fnExactAssignedUptoRow : OpenClaim := { program := "ythlhmhlphnjjkaa", sum := "61240a0cc3cf4f45526ad96c21b632eda3f9ba36911223bf007227f693c9b9f2", func := "loop.example/g00504/laws.FnExactAssigned", spec := "fnExactAssigned", apart := false, narrowed := true }
def FnExactAssignedUptoSaid : Prop := fnExactAssignedUptoRow.holds Try.pinned (OpenSpec.upto fnExactAssignedSpec)

/-- 'laws.FnAssigned', WHERE WHAT IT READS IS OF BULK AT MOST 1048576: true; the input reads as it did. -/
def fnAssignedUptoRow : OpenClaim := { program := "ythlhmhlphnjjkaa", sum := "61240a0cc3cf4f45526ad96c21b632eda3f9ba36911223bf007227f693c9b9f2", func := "loop.example/g00504/laws.FnAssigned", spec := "fnAssigned", unfollowed := true, recurses := true, apart := false, narrowed := true }
def FnAssignedUptoSaid : Prop := fnAssignedUptoRow.holds Try.pinned (OpenSpec.upto fnAssignedSpec)

/-- 'laws.FnExactReadTuple', WHERE WHAT IT READS IS OF BULK AT MOST 1048576: true; the input reads as it did. -/
def fnExactReadTupleUptoRow : OpenClaim := { program := "ythlhmhlphnjjkaa", sum := "61240a0cc3cf4f45526ad96c21b632eda3f9ba36911223bf007227f693c9b9f2", func := "loop.example/g00504/laws.FnExactReadTuple", spec := "fnExactReadTuple", apart := false, narrowed := true }
def FnExactReadTupleUptoSaid : Prop := fnExactReadTupleUptoRow.holds Try.pinned (OpenSpec.upto fnExactReadTupleSpec)

/-- 'laws.FnExactGuessInputs', WHERE WHAT IT READS IS OF BULK AT MOST 1048576: true; the input reads as it did. -/
def fnExactGuessInputsUptoRow : OpenClaim := { program := "ythlhmhlphnjjkaa", sum := "61240a0cc3cf4f45526ad96c21b632eda3f9ba36911223bf007227f693c9b9f2", func := "loop.example/g00504/laws.FnExactGuessInputs", spec := "fnExactGuessInputs", apart := false, narrowed := true }
def FnExactGuessInputsUptoSaid : Prop := fnExactGuessInputsUptoRow.holds Try.pinned (OpenSpec.upto fnExactGuessInputsSpec)

/-- 'laws.FnExactActOk', WHERE WHAT IT READS IS OF BULK AT MOST 1048576: true; the input reads as it did. -/
def fnExactActOkUptoRow : OpenClaim := { program := "ythlhmhlphnjjkaa", sum := "61240a0cc3cf4f45526ad96c21b632eda3f9ba36911223bf007227f693c9b9f2", func := "loop.example/g00504/laws.FnExactActOk", spec := "fnExactActOk", unfollowed := true, recurses := true, apart := false, narrowed := true }
def FnExactActOkUptoSaid : Prop := fnExactActOkUptoRow.holds Try.pinned (OpenSpec.upto fnExactActOkSpec)

/-- 'laws.FnExactShareOf', WHERE WHAT IT READS IS OF BULK AT MOST 1048576: true; the input reads as it did. -/
def fnExactShareOfUptoRow : OpenClaim := { program := "ythlhmhlphnjjkaa", sum := "61240a0cc3cf4f45526ad96c21b632eda3f9ba36911223bf007227f693c9b9f2", func := "loop.example/g00504/laws.FnExactShareOf", spec := "fnExactShareOf", unfollowed := true, recurses := true, apart := false, narrowed := true }
def FnExactShareOfUptoSaid : Prop := fnExactShareOfUptoRow.holds Try.pinned (OpenSpec.upto fnExactShareOfSpec)

/-- 'laws.FnExactHitBy', WHERE WHAT IT READS IS OF BULK AT MOST 1048576: true; the input reads as it did. -/
def fnExactHitByUptoRow : OpenClaim := { program := "ythlhmhlphnjjkaa", sum := "61240a0cc3cf4f45526ad96c21b632eda3f9ba36911223bf007227f693c9b9f2", func := "loop.example/g00504/laws.FnExactHitBy", spec := "fnExactHitBy", unfollowed := true, recurses := true, apart := false, narrowed := true }
def FnExactHitByUptoSaid : Prop := fnExactHitByUptoRow.holds Try.pinned (OpenSpec.upto fnExactHitBySpec)

/-- 'laws.FnShare', WHERE WHAT IT READS IS OF BULK AT MOST 1048576: true; the input reads as it did. -/
def fnShareUptoRow : OpenClaim := { program := "ythlhmhlphnjjkaa", sum := "61240a0cc3cf4f45526ad96c21b632eda3f9ba36911223bf007227f693c9b9f2", func := "loop.example/g00504/laws.FnShare", spec := "fnShare", unfollowed := true, recurses := true, apart := false, narrowed := true }
def FnShareUptoSaid : Prop := fnShareUptoRow.holds Try.pinned (OpenSpec.upto fnShareSpec)

/-- 'laws.FnShareOne', WHERE WHAT IT READS IS OF BULK AT MOST 1048576: true; the input reads as it did. -/
def fnShareOneUptoRow : OpenClaim := { program := "ythlhmhlphnjjkaa", sum := "61240a0cc3cf4f45526ad96c21b632eda3f9ba36911223bf007227f693c9b9f2", func := "loop.example/g00504/laws.FnShareOne", spec := "fnShareOne", unfollowed := true, recurses := true, apart := false, narrowed := true }
def FnShareOneUptoSaid : Prop := fnShareOneUptoRow.holds Try.pinned (OpenSpec.upto fnShareOneSpec)

end Rows
end Go.Proofs.Ythlhmhlphnjjkaa
