/-
  No cell of these rows narrows 'for every input' (looked for: loops, veiled, ifaces, maps, wideKeys, modest, calm, conditions, laid).
  DERIVED. THE GIVEN ROWS OF THIS SEAT. 7 by the template 'for every input the law returns true; each argument reads behind the call as it read before'; 0 by the template 'total and deterministic' (their statements: YteiiknfadjnmgaaGreatTotals.lean).
  GIVEN WITH THE SEED: the statements are not yours to turn. If you find one false, say at which input.
  Laid BY PROGRAM, IN A SANDBOX (cutbox-rows.mjs): the forced cells as the released guide's own fill.sh prints them over the translation 89416aa2722791ca… (all of the seat's roots in one cut). By AI agents, Wed Nov 11 2026. No macro, syntax, notation, axiom, sorry.
-/
import Derived.Test.YteiiknfadjnmgaaGreatChecked
import GoSem.Claim
import GoSem.ClaimJoined
import GoSem.ClaimMapViews
import Derived.JoinedTies
import Derived.KernelRfl
namespace Go.Proofs.YteiiknfadjnmgaaGreat
/- THE CELL 'sum', in the pinned program and in every row, IS THE sha256 OF THE DUMP (.gsa) THAT YteiiknfadjnmgaaGreatProg.lean LOADS. Nothing in Lean hashes anything: it is a label: what it is worth is what the hold of that sum in a sandbox is worth. -/
noncomputable def Tryz.pinned : Pinned := { name := "yteiiknfadjnmgaagreat", sum := "89416aa2722791ca5e0b4a84ed1362573dc7b82358260c09083cb4cbd4470d0b", checked := Tryz.checked }
namespace Rows
def none {H : Type} : Left H := { results := [], args := [] }

/-- 'laws.FnStep': WHATEVER THE INPUT: true; the input reads as it did. -/
def fnStepSpec : ChangeSpec := { name := "fnStep", fn := fun _ => fun
  | [d] => { results := [.lit (.bool true)], args := [d] }
  | _ => none }
def fnStepRow : OpenClaim := { program := "yteiiknfadjnmgaagreat", sum := "89416aa2722791ca5e0b4a84ed1362573dc7b82358260c09083cb4cbd4470d0b", func := "loop.example/g00504/laws.FnStep", spec := "fnStep", unfollowed := true, recurses := true, apart := false }
def FnStepSaid : Prop := fnStepRow.holds Tryz.pinned (OpenSpec.ofChange fnStepSpec)

/-- ITS FALSE NEIGHBOUR: 'it returns false'. Refute it at one input. -/
def fnStepWrong : ChangeSpec := { name := "fnStep", fn := fun _ => fun
  | [d] => { results := [.lit (.bool false)], args := [d] }
  | _ => none }
def FnStepWrongFalsely : Prop := fnStepRow.holds Tryz.pinned (OpenSpec.ofChange fnStepWrong)

/-- 'laws.FnCalls': WHATEVER THE INPUT: true; the input reads as it did. -/
def fnCallsSpec : ChangeSpec := { name := "fnCalls", fn := fun _ => fun
  | [d] => { results := [.lit (.bool true)], args := [d] }
  | _ => none }
def fnCallsRow : OpenClaim := { program := "yteiiknfadjnmgaagreat", sum := "89416aa2722791ca5e0b4a84ed1362573dc7b82358260c09083cb4cbd4470d0b", func := "loop.example/g00504/laws.FnCalls", spec := "fnCalls", unfollowed := true, recurses := true, apart := false }
def FnCallsSaid : Prop := fnCallsRow.holds Tryz.pinned (OpenSpec.ofChange fnCallsSpec)

/-- ITS FALSE NEIGHBOUR: 'it returns false'. Refute it at one input. -/
def fnCallsWrong : ChangeSpec := { name := "fnCalls", fn := fun _ => fun
  | [d] => { results := [.lit (.bool false)], args := [d] }
  | _ => none }
def FnCallsWrongFalsely : Prop := fnCallsRow.holds Tryz.pinned (OpenSpec.ofChange fnCallsWrong)

/-- 'laws.FnLived': WHATEVER THE INPUT: true; the input reads as it did. -/
def fnLivedSpec : ChangeSpec := { name := "fnLived", fn := fun _ => fun
  | [d] => { results := [.lit (.bool true)], args := [d] }
  | _ => none }
def fnLivedRow : OpenClaim := { program := "yteiiknfadjnmgaagreat", sum := "89416aa2722791ca5e0b4a84ed1362573dc7b82358260c09083cb4cbd4470d0b", func := "loop.example/g00504/laws.FnLived", spec := "fnLived", unfollowed := true, recurses := true, apart := false }
def FnLivedSaid : Prop := fnLivedRow.holds Tryz.pinned (OpenSpec.ofChange fnLivedSpec)

/-- ITS FALSE NEIGHBOUR: 'it returns false'. Refute it at one input. -/
def fnLivedWrong : ChangeSpec := { name := "fnLived", fn := fun _ => fun
  | [d] => { results := [.lit (.bool false)], args := [d] }
  | _ => none }
def FnLivedWrongFalsely : Prop := fnLivedRow.holds Tryz.pinned (OpenSpec.ofChange fnLivedWrong)

/-- 'laws.FnBelieved': WHATEVER THE INPUT: true; the input reads as it did. -/
def fnBelievedSpec : ChangeSpec := { name := "fnBelieved", fn := fun _ => fun
  | [d] => { results := [.lit (.bool true)], args := [d] }
  | _ => none }
def fnBelievedRow : OpenClaim := { program := "yteiiknfadjnmgaagreat", sum := "89416aa2722791ca5e0b4a84ed1362573dc7b82358260c09083cb4cbd4470d0b", func := "loop.example/g00504/laws.FnBelieved", spec := "fnBelieved", unfollowed := true, recurses := true, apart := false }
def FnBelievedSaid : Prop := fnBelievedRow.holds Tryz.pinned (OpenSpec.ofChange fnBelievedSpec)

/-- ITS FALSE NEIGHBOUR: 'it returns false'. Refute it at one input. -/
def fnBelievedWrong : ChangeSpec := { name := "fnBelieved", fn := fun _ => fun
  | [d] => { results := [.lit (.bool false)], args := [d] }
  | _ => none }
def FnBelievedWrongFalsely : Prop := fnBelievedRow.holds Tryz.pinned (OpenSpec.ofChange fnBelievedWrong)

/-- 'laws.FnTop': WHATEVER THE INPUT: true; the input reads as it did. -/
def fnTopSpec : ChangeSpec := { name := "fnTop", fn := fun _ => fun
  | [d] => { results := [.lit (.bool true)], args := [d] }
  | _ => none }
def fnTopRow : OpenClaim := { program := "yteiiknfadjnmgaagreat", sum := "89416aa2722791ca5e0b4a84ed1362573dc7b82358260c09083cb4cbd4470d0b", func := "loop.example/g00504/laws.FnTop", spec := "fnTop", unfollowed := true, recurses := true, apart := false }
def FnTopSaid : Prop := fnTopRow.holds Tryz.pinned (OpenSpec.ofChange fnTopSpec)

/-- ITS FALSE NEIGHBOUR: 'it returns false'. Refute it at one input. -/
def fnTopWrong : ChangeSpec := { name := "fnTop", fn := fun _ => fun
  | [d] => { results := [.lit (.bool false)], args := [d] }
  | _ => none }
def FnTopWrongFalsely : Prop := fnTopRow.holds Tryz.pinned (OpenSpec.ofChange fnTopWrong)

/-- 'laws.FnExactBelievedIn': WHATEVER THE INPUT: true; the input reads as it did. -/
def fnExactBelievedInSpec : ChangeSpec := { name := "fnExactBelievedIn", fn := fun _ => fun
  | [d1, d2] => { results := [.lit (.bool true)], args := [d1, d2] }
  | _ => none }
def fnExactBelievedInRow : OpenClaim := { program := "yteiiknfadjnmgaagreat", sum := "89416aa2722791ca5e0b4a84ed1362573dc7b82358260c09083cb4cbd4470d0b", func := "loop.example/g00504/laws.FnExactBelievedIn", spec := "fnExactBelievedIn", unfollowed := true, recurses := true, apart := false }
def FnExactBelievedInSaid : Prop := fnExactBelievedInRow.holds Tryz.pinned (OpenSpec.ofChange fnExactBelievedInSpec)

/-- ITS FALSE NEIGHBOUR: 'it returns false'. Refute it at one input. -/
def fnExactBelievedInWrong : ChangeSpec := { name := "fnExactBelievedIn", fn := fun _ => fun
  | [d1, d2] => { results := [.lit (.bool false)], args := [d1, d2] }
  | _ => none }
def FnExactBelievedInWrongFalsely : Prop := fnExactBelievedInRow.holds Tryz.pinned (OpenSpec.ofChange fnExactBelievedInWrong)

/-- 'laws.FnIssued': WHATEVER THE INPUT: true; the input reads as it did. -/
def fnIssuedSpec : ChangeSpec := { name := "fnIssued", fn := fun _ => fun
  | [d] => { results := [.lit (.bool true)], args := [d] }
  | _ => none }
def fnIssuedRow : OpenClaim := { program := "yteiiknfadjnmgaagreat", sum := "89416aa2722791ca5e0b4a84ed1362573dc7b82358260c09083cb4cbd4470d0b", func := "loop.example/g00504/laws.FnIssued", spec := "fnIssued", apart := false }
def FnIssuedSaid : Prop := fnIssuedRow.holds Tryz.pinned (OpenSpec.ofChange fnIssuedSpec)

/-- ITS FALSE NEIGHBOUR: 'it returns false'. Refute it at one input. -/
def fnIssuedWrong : ChangeSpec := { name := "fnIssued", fn := fun _ => fun
  | [d] => { results := [.lit (.bool false)], args := [d] }
  | _ => none }
def FnIssuedWrongFalsely : Prop := fnIssuedRow.holds Tryz.pinned (OpenSpec.ofChange fnIssuedWrong)

/- THE SECOND FORM. 'bulk': how many values and letters a reading holds, each counted each time it is reached (what is shared counts as often as it is met; a slice's spare places count too). A statement '..UptoSaid' is the law's where the arguments, and the package variables that the reading takes, are together of bulk at most 1048576: NARROWER than '..Said'. Prove '..Said' where nothing that the law and all that it calls make is longer than what came in: it says more and counts as full. Else prove '..UptoSaid'. A law counts once. -/
mutual
def uptoBulk {H : Type} : DataW H → Nat
  | .lit (.string bytes) => bytes.length + 1
  | .lit _ => 1
  | .nil => 1
  | .ptr d => uptoBulk d + 1
  | .slice elems spare => uptoBulkAll elems + uptoBulkAll spare + 1
  | .agg parts => uptoBulkAll parts + 1
  | .iface _ d => uptoBulk d + 1
  | .map entries => uptoBulkEntries entries + 1
  | .held _ => 1
def uptoBulkAll {H : Type} : List (DataW H) → Nat
  | [] => 0
  | d :: r => uptoBulk d + uptoBulkAll r
def uptoBulkEntries {H : Type} : List (Lit × DataW H) → Nat
  | [] => 0
  | x :: r => uptoBulkEntry x + uptoBulkEntries r
def uptoBulkEntry {H : Type} : Lit × DataW H → Nat
  | (.string bytes, d) => bytes.length + uptoBulk d + 1
  | (_, d) => uptoBulk d + 1
 end
def uptoSmall : (H : Type) → List (DataW H) → Bool := fun _ ds => decide (uptoBulkAll ds ≤ 1048576)
def OpenSpec.upto (s : _root_.Go.ChangeSpec) : _root_.Go.OpenSpec := { _root_.Go.OpenSpec.ofChange s with cond := some uptoSmall }

/-- 'laws.FnStep', WHERE WHAT IT READS IS OF BULK AT MOST 1048576: true; the input reads as it did. -/
def fnStepUptoRow : OpenClaim := { program := "yteiiknfadjnmgaagreat", sum := "89416aa2722791ca5e0b4a84ed1362573dc7b82358260c09083cb4cbd4470d0b", func := "loop.example/g00504/laws.FnStep", spec := "fnStep", unfollowed := true, recurses := true, apart := false, narrowed := true }
def FnStepUptoSaid : Prop := fnStepUptoRow.holds Tryz.pinned (OpenSpec.upto fnStepSpec)

/-- 'laws.FnCalls', WHERE WHAT IT READS IS OF BULK AT MOST 1048576: true; the input reads as it did. -/
def fnCallsUptoRow : OpenClaim := { program := "yteiiknfadjnmgaagreat", sum := "89416aa2722791ca5e0b4a84ed1362573dc7b82358260c09083cb4cbd4470d0b", func := "loop.example/g00504/laws.FnCalls", spec := "fnCalls", unfollowed := true, recurses := true, apart := false, narrowed := true }
def FnCallsUptoSaid : Prop := fnCallsUptoRow.holds Tryz.pinned (OpenSpec.upto fnCallsSpec)

/-- 'laws.FnLived', WHERE WHAT IT READS IS OF BULK AT MOST 1048576: true; the input reads as it did. -/
def fnLivedUptoRow : OpenClaim := { program := "yteiiknfadjnmgaagreat", sum := "89416aa2722791ca5e0b4a84ed1362573dc7b82358260c09083cb4cbd4470d0b", func := "loop.example/g00504/laws.FnLived", spec := "fnLived", unfollowed := true, recurses := true, apart := false, narrowed := true }
def FnLivedUptoSaid : Prop := fnLivedUptoRow.holds Tryz.pinned (OpenSpec.upto fnLivedSpec)

/-- 'laws.FnBelieved', WHERE WHAT IT READS IS OF BULK AT MOST 1048576: true; the input reads as it did. -/
def fnBelievedUptoRow : OpenClaim := { program := "yteiiknfadjnmgaagreat", sum := "89416aa2722791ca5e0b4a84ed1362573dc7b82358260c09083cb4cbd4470d0b", func := "loop.example/g00504/laws.FnBelieved", spec := "fnBelieved", unfollowed := true, recurses := true, apart := false, narrowed := true }
def FnBelievedUptoSaid : Prop := fnBelievedUptoRow.holds Tryz.pinned (OpenSpec.upto fnBelievedSpec)

/-- 'laws.FnTop', WHERE WHAT IT READS IS OF BULK AT MOST 1048576: true; the input reads as it did. -/
def fnTopUptoRow : OpenClaim := { program := "yteiiknfadjnmgaagreat", sum := "89416aa2722791ca5e0b4a84ed1362573dc7b82358260c09083cb4cbd4470d0b", func := "loop.example/g00504/laws.FnTop", spec := "fnTop", unfollowed := true, recurses := true, apart := false, narrowed := true }
def FnTopUptoSaid : Prop := fnTopUptoRow.holds Tryz.pinned (OpenSpec.upto fnTopSpec)

/-- 'laws.FnExactBelievedIn', WHERE WHAT IT READS IS OF BULK AT MOST 1048576: true; the input reads as it did. -/
def fnExactBelievedInUptoRow : OpenClaim := { program := "yteiiknfadjnmgaagreat", sum := "89416aa2722791ca5e0b4a84ed1362573dc7b82358260c09083cb4cbd4470d0b", func := "loop.example/g00504/laws.FnExactBelievedIn", spec := "fnExactBelievedIn", unfollowed := true, recurses := true, apart := false, narrowed := true }
def FnExactBelievedInUptoSaid : Prop := fnExactBelievedInUptoRow.holds Tryz.pinned (OpenSpec.upto fnExactBelievedInSpec)

/-- 'laws.FnIssued', WHERE WHAT IT READS IS OF BULK AT MOST 1048576: true; the input reads as it did. -/
def fnIssuedUptoRow : OpenClaim := { program := "yteiiknfadjnmgaagreat", sum := "89416aa2722791ca5e0b4a84ed1362573dc7b82358260c09083cb4cbd4470d0b", func := "loop.example/g00504/laws.FnIssued", spec := "fnIssued", apart := false, narrowed := true }
def FnIssuedUptoSaid : Prop := fnIssuedUptoRow.holds Tryz.pinned (OpenSpec.upto fnIssuedSpec)

end Rows
end Go.Proofs.YteiiknfadjnmgaaGreat
