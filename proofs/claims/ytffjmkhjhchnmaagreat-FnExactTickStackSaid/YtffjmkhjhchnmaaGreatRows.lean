/-
  No cell of these rows narrows 'for every input' (looked for: loops, veiled, ifaces, maps, wideKeys, modest, calm, conditions, laid).
  DERIVED. THE GIVEN ROWS OF THIS SEAT. 6 by the template 'for every input the law returns true; each argument reads behind the call as it read before'; 0 by the template 'total and deterministic' (their statements: YtffjmkhjhchnmaaGreatTotals.lean).
  GIVEN WITH THE SEED: the statements are not yours to turn. If you find one false, say at which input.
  Laid BY PROGRAM, IN A SANDBOX (cutbox-rows.mjs): the forced cells as the released guide's own fill.sh prints them over the translation b226eac245b5d414… (all of the seat's roots in one cut). By AI agents, Wed Nov 11 2026. No macro, syntax, notation, axiom, sorry.
-/
import Derived.Test.YtffjmkhjhchnmaaGreatChecked
import GoSem.Claim
import GoSem.ClaimJoined
import GoSem.ClaimMapViews
import Derived.JoinedTies
import Derived.KernelRfl
namespace Go.Proofs.YtffjmkhjhchnmaaGreat
/- THE CELL 'sum', in the pinned program and in every row, IS THE sha256 OF THE DUMP (.gsa) THAT YtffjmkhjhchnmaaGreatProg.lean LOADS. Nothing in Lean hashes anything: it is a label: what it is worth is what the hold of that sum in a sandbox is worth. -/
noncomputable def Tryz.pinned : Pinned := { name := "ytffjmkhjhchnmaagreat", sum := "b226eac245b5d4144ad7a3164a8226bf37dc7a4995aa6c7e02c640af11dc94a1", checked := Tryz.checked }
namespace Rows
def none {H : Type} : Left H := { results := [], args := [] }

/-- 'laws.FnExactTickDoor': WHATEVER THE INPUT: true; the input reads as it did. -/
def fnExactTickDoorSpec : ChangeSpec := { name := "fnExactTickDoor", fn := fun _ => fun
  | [d] => { results := [.lit (.bool true)], args := [d] }
  | _ => none }
def fnExactTickDoorRow : OpenClaim := { program := "ytffjmkhjhchnmaagreat", sum := "b226eac245b5d4144ad7a3164a8226bf37dc7a4995aa6c7e02c640af11dc94a1", func := "loop.example/g00504/laws.FnExactTickDoor", spec := "fnExactTickDoor", unfollowed := true, recurses := true, apart := false }
def FnExactTickDoorSaid : Prop := fnExactTickDoorRow.holds Tryz.pinned (OpenSpec.ofChange fnExactTickDoorSpec)

/-- ITS FALSE NEIGHBOUR: 'it returns false'. Refute it at one input. -/
def fnExactTickDoorWrong : ChangeSpec := { name := "fnExactTickDoor", fn := fun _ => fun
  | [d] => { results := [.lit (.bool false)], args := [d] }
  | _ => none }
def FnExactTickDoorWrongFalsely : Prop := fnExactTickDoorRow.holds Tryz.pinned (OpenSpec.ofChange fnExactTickDoorWrong)

/-- 'laws.FnExactTickStack': WHATEVER THE INPUT: true; the input reads as it did. -/
def fnExactTickStackSpec : ChangeSpec := { name := "fnExactTickStack", fn := fun _ => fun
  | [d] => { results := [.lit (.bool true)], args := [d] }
  | _ => none }
def fnExactTickStackRow : OpenClaim := { program := "ytffjmkhjhchnmaagreat", sum := "b226eac245b5d4144ad7a3164a8226bf37dc7a4995aa6c7e02c640af11dc94a1", func := "loop.example/g00504/laws.FnExactTickStack", spec := "fnExactTickStack", unfollowed := true, recurses := true, apart := false }
def FnExactTickStackSaid : Prop := fnExactTickStackRow.holds Tryz.pinned (OpenSpec.ofChange fnExactTickStackSpec)

/-- ITS FALSE NEIGHBOUR: 'it returns false'. Refute it at one input. -/
def fnExactTickStackWrong : ChangeSpec := { name := "fnExactTickStack", fn := fun _ => fun
  | [d] => { results := [.lit (.bool false)], args := [d] }
  | _ => none }
def FnExactTickStackWrongFalsely : Prop := fnExactTickStackRow.holds Tryz.pinned (OpenSpec.ofChange fnExactTickStackWrong)

/-- 'laws.FnExactStep': WHATEVER THE INPUT: true; the input reads as it did. -/
def fnExactStepSpec : ChangeSpec := { name := "fnExactStep", fn := fun _ => fun
  | [d1, d2] => { results := [.lit (.bool true)], args := [d1, d2] }
  | _ => none }
def fnExactStepRow : OpenClaim := { program := "ytffjmkhjhchnmaagreat", sum := "b226eac245b5d4144ad7a3164a8226bf37dc7a4995aa6c7e02c640af11dc94a1", func := "loop.example/g00504/laws.FnExactStep", spec := "fnExactStep", unfollowed := true, recurses := true, apart := false }
def FnExactStepSaid : Prop := fnExactStepRow.holds Tryz.pinned (OpenSpec.ofChange fnExactStepSpec)

/-- ITS FALSE NEIGHBOUR: 'it returns false'. Refute it at one input. -/
def fnExactStepWrong : ChangeSpec := { name := "fnExactStep", fn := fun _ => fun
  | [d1, d2] => { results := [.lit (.bool false)], args := [d1, d2] }
  | _ => none }
def FnExactStepWrongFalsely : Prop := fnExactStepRow.holds Tryz.pinned (OpenSpec.ofChange fnExactStepWrong)

/-- 'laws.FnExactLived': WHATEVER THE INPUT: true; the input reads as it did. -/
def fnExactLivedSpec : ChangeSpec := { name := "fnExactLived", fn := fun _ => fun
  | [d1, d2] => { results := [.lit (.bool true)], args := [d1, d2] }
  | _ => none }
def fnExactLivedRow : OpenClaim := { program := "ytffjmkhjhchnmaagreat", sum := "b226eac245b5d4144ad7a3164a8226bf37dc7a4995aa6c7e02c640af11dc94a1", func := "loop.example/g00504/laws.FnExactLived", spec := "fnExactLived", unfollowed := true, recurses := true, apart := false }
def FnExactLivedSaid : Prop := fnExactLivedRow.holds Tryz.pinned (OpenSpec.ofChange fnExactLivedSpec)

/-- ITS FALSE NEIGHBOUR: 'it returns false'. Refute it at one input. -/
def fnExactLivedWrong : ChangeSpec := { name := "fnExactLived", fn := fun _ => fun
  | [d1, d2] => { results := [.lit (.bool false)], args := [d1, d2] }
  | _ => none }
def FnExactLivedWrongFalsely : Prop := fnExactLivedRow.holds Tryz.pinned (OpenSpec.ofChange fnExactLivedWrong)

/-- 'laws.FnExactForged': WHATEVER THE INPUT: true; the input reads as it did. -/
def fnExactForgedSpec : ChangeSpec := { name := "fnExactForged", fn := fun _ => fun
  | [d1, d2] => { results := [.lit (.bool true)], args := [d1, d2] }
  | _ => none }
def fnExactForgedRow : OpenClaim := { program := "ytffjmkhjhchnmaagreat", sum := "b226eac245b5d4144ad7a3164a8226bf37dc7a4995aa6c7e02c640af11dc94a1", func := "loop.example/g00504/laws.FnExactForged", spec := "fnExactForged", unfollowed := true, recurses := true, apart := false }
def FnExactForgedSaid : Prop := fnExactForgedRow.holds Tryz.pinned (OpenSpec.ofChange fnExactForgedSpec)

/-- ITS FALSE NEIGHBOUR: 'it returns false'. Refute it at one input. -/
def fnExactForgedWrong : ChangeSpec := { name := "fnExactForged", fn := fun _ => fun
  | [d1, d2] => { results := [.lit (.bool false)], args := [d1, d2] }
  | _ => none }
def FnExactForgedWrongFalsely : Prop := fnExactForgedRow.holds Tryz.pinned (OpenSpec.ofChange fnExactForgedWrong)

/-- 'laws.FnPure': WHATEVER THE INPUT: true; the input reads as it did. -/
def fnPureSpec : ChangeSpec := { name := "fnPure", fn := fun _ => fun
  | [d] => { results := [.lit (.bool true)], args := [d] }
  | _ => none }
def fnPureRow : OpenClaim := { program := "ytffjmkhjhchnmaagreat", sum := "b226eac245b5d4144ad7a3164a8226bf37dc7a4995aa6c7e02c640af11dc94a1", func := "loop.example/g00504/laws.FnPure", spec := "fnPure", unfollowed := true, recurses := true, apart := false }
def FnPureSaid : Prop := fnPureRow.holds Tryz.pinned (OpenSpec.ofChange fnPureSpec)

/-- ITS FALSE NEIGHBOUR: 'it returns false'. Refute it at one input. -/
def fnPureWrong : ChangeSpec := { name := "fnPure", fn := fun _ => fun
  | [d] => { results := [.lit (.bool false)], args := [d] }
  | _ => none }
def FnPureWrongFalsely : Prop := fnPureRow.holds Tryz.pinned (OpenSpec.ofChange fnPureWrong)

/- THE SECOND FORM. 'bulk': how many values and letters a reading holds, each counted each time it is reached (what is shared counts as often as it is met; a slice's spare places count too). A statement '..UptoSaid' is the law's where the arguments, and the package variables that the reading takes, are together of bulk at most 1048576: NARROWER than '..Said'. Prove '..Said' where nothing that the law and all that it calls make is longer than what came in: it says more and counts as full. Else prove '..UptoSaid'. A law counts once. -/
mutual
def uptoBulk {H : Type} : DataW H → Nat
  | .lit (.string bytes) => bytes.length + 1
  | .lit _ => 1
  | .nil => 1
  | .ptr d => uptoBulk d + 1
  | .slice elems spare => uptoBulkAll elems + uptoBulkAll spare + 1
  | .agg parts => uptoBulkAll parts + 1
  | .iface _ d => uptoBulk d + 1
  | .map entries => uptoBulkEntries entries + 1
  | .held _ => 1
def uptoBulkAll {H : Type} : List (DataW H) → Nat
  | [] => 0
  | d :: r => uptoBulk d + uptoBulkAll r
def uptoBulkEntries {H : Type} : List (Lit × DataW H) → Nat
  | [] => 0
  | x :: r => uptoBulkEntry x + uptoBulkEntries r
def uptoBulkEntry {H : Type} : Lit × DataW H → Nat
  | (.string bytes, d) => bytes.length + uptoBulk d + 1
  | (_, d) => uptoBulk d + 1
 end
def uptoSmall : (H : Type) → List (DataW H) → Bool := fun _ ds => decide (uptoBulkAll ds ≤ 1048576)
def OpenSpec.upto (s : _root_.Go.ChangeSpec) : _root_.Go.OpenSpec := { _root_.Go.OpenSpec.ofChange s with cond := some uptoSmall }

/-- 'laws.FnExactTickDoor', WHERE WHAT IT READS IS OF BULK AT MOST 1048576: true; the input reads as it did. -/
def fnExactTickDoorUptoRow : OpenClaim := { program := "ytffjmkhjhchnmaagreat", sum := "b226eac245b5d4144ad7a3164a8226bf37dc7a4995aa6c7e02c640af11dc94a1", func := "loop.example/g00504/laws.FnExactTickDoor", spec := "fnExactTickDoor", unfollowed := true, recurses := true, apart := false, narrowed := true }
def FnExactTickDoorUptoSaid : Prop := fnExactTickDoorUptoRow.holds Tryz.pinned (OpenSpec.upto fnExactTickDoorSpec)

/-- 'laws.FnExactTickStack', WHERE WHAT IT READS IS OF BULK AT MOST 1048576: true; the input reads as it did. -/
def fnExactTickStackUptoRow : OpenClaim := { program := "ytffjmkhjhchnmaagreat", sum := "b226eac245b5d4144ad7a3164a8226bf37dc7a4995aa6c7e02c640af11dc94a1", func := "loop.example/g00504/laws.FnExactTickStack", spec := "fnExactTickStack", unfollowed := true, recurses := true, apart := false, narrowed := true }
def FnExactTickStackUptoSaid : Prop := fnExactTickStackUptoRow.holds Tryz.pinned (OpenSpec.upto fnExactTickStackSpec)

/-- 'laws.FnExactStep', WHERE WHAT IT READS IS OF BULK AT MOST 1048576: true; the input reads as it did. -/
def fnExactStepUptoRow : OpenClaim := { program := "ytffjmkhjhchnmaagreat", sum := "b226eac245b5d4144ad7a3164a8226bf37dc7a4995aa6c7e02c640af11dc94a1", func := "loop.example/g00504/laws.FnExactStep", spec := "fnExactStep", unfollowed := true, recurses := true, apart := false, narrowed := true }
def FnExactStepUptoSaid : Prop := fnExactStepUptoRow.holds Tryz.pinned (OpenSpec.upto fnExactStepSpec)

/-- 'laws.FnExactLived', WHERE WHAT IT READS IS OF BULK AT MOST 1048576: true; the input reads as it did. -/
def fnExactLivedUptoRow : OpenClaim := { program := "ytffjmkhjhchnmaagreat", sum := "b226eac245b5d4144ad7a3164a8226bf37dc7a4995aa6c7e02c640af11dc94a1", func := "loop.example/g00504/laws.FnExactLived", spec := "fnExactLived", unfollowed := true, recurses := true, apart := false, narrowed := true }
def FnExactLivedUptoSaid : Prop := fnExactLivedUptoRow.holds Tryz.pinned (OpenSpec.upto fnExactLivedSpec)

/-- 'laws.FnExactForged', WHERE WHAT IT READS IS OF BULK AT MOST 1048576: true; the input reads as it did. -/
def fnExactForgedUptoRow : OpenClaim := { program := "ytffjmkhjhchnmaagreat", sum := "b226eac245b5d4144ad7a3164a8226bf37dc7a4995aa6c7e02c640af11dc94a1", func := "loop.example/g00504/laws.FnExactForged", spec := "fnExactForged", unfollowed := true, recurses := true, apart := false, narrowed := true }
def FnExactForgedUptoSaid : Prop := fnExactForgedUptoRow.holds Tryz.pinned (OpenSpec.upto fnExactForgedSpec)

/-- 'laws.FnPure', WHERE WHAT IT READS IS OF BULK AT MOST 1048576: true; the input reads as it did. -/
def fnPureUptoRow : OpenClaim := { program := "ytffjmkhjhchnmaagreat", sum := "b226eac245b5d4144ad7a3164a8226bf37dc7a4995aa6c7e02c640af11dc94a1", func := "loop.example/g00504/laws.FnPure", spec := "fnPure", unfollowed := true, recurses := true, apart := false, narrowed := true }
def FnPureUptoSaid : Prop := fnPureUptoRow.holds Tryz.pinned (OpenSpec.upto fnPureSpec)

end Rows
end Go.Proofs.YtffjmkhjhchnmaaGreat
