/-
  No cell of these rows narrows 'for every input' (looked for: loops, veiled, ifaces, maps, wideKeys, modest, calm, conditions, laid).
  DERIVED. THE GIVEN ROWS OF THIS SEAT. 7 by the template 'for every input the law returns true; each argument reads behind the call as it read before'; 0 by the template 'total and deterministic' (their statements: YtbkjnlihfgkkaaaGreatTotals.lean).
  GIVEN WITH THE SEED: the statements are not yours to turn. If you find one false, say at which input.
  Laid BY PROGRAM, IN A SANDBOX (cutbox-rows.mjs): the forced cells as the released guide's own fill.sh prints them over the translation fd56ea22445c3bb2… (all of the seat's roots in one cut). By AI agents, Wed Nov 11 2026. No macro, syntax, notation, axiom, sorry.
-/
import Derived.Test.YtbkjnlihfgkkaaaGreatChecked
import GoSem.Claim
import GoSem.ClaimJoined
import GoSem.ClaimMapViews
import Derived.JoinedTies
import Derived.KernelRfl
namespace Go.Proofs.YtbkjnlihfgkkaaaGreat
/- THE CELL 'sum', in the pinned program and in every row, IS THE sha256 OF THE DUMP (.gsa) THAT YtbkjnlihfgkkaaaGreatProg.lean LOADS. Nothing in Lean hashes anything: it is a label: what it is worth is what the hold of that sum in a sandbox is worth. -/
noncomputable def Tryz.pinned : Pinned := { name := "ytbkjnlihfgkkaaagreat", sum := "fd56ea22445c3bb249e2a213dd677fb3dff3ae8b140a5425f0f90e051026beb0", checked := Tryz.checked }
namespace Rows
def none {H : Type} : Left H := { results := [], args := [] }

/-- 'laws.FnExactNewSecret': WHATEVER THE INPUT: true; the input reads as it did. -/
def fnExactNewSecretSpec : ChangeSpec := { name := "fnExactNewSecret", fn := fun _ => fun
  | [d1, d2] => { results := [.lit (.bool true)], args := [d1, d2] }
  | _ => none }
def fnExactNewSecretRow : OpenClaim := { program := "ytbkjnlihfgkkaaagreat", sum := "fd56ea22445c3bb249e2a213dd677fb3dff3ae8b140a5425f0f90e051026beb0", func := "loop.example/g00504/laws.FnExactNewSecret", spec := "fnExactNewSecret", unfollowed := true, recurses := true, apart := false }
def FnExactNewSecretSaid : Prop := fnExactNewSecretRow.holds Tryz.pinned (OpenSpec.ofChange fnExactNewSecretSpec)

/-- ITS FALSE NEIGHBOUR: 'it returns false'. Refute it at one input. -/
def fnExactNewSecretWrong : ChangeSpec := { name := "fnExactNewSecret", fn := fun _ => fun
  | [d1, d2] => { results := [.lit (.bool false)], args := [d1, d2] }
  | _ => none }
def FnExactNewSecretWrongFalsely : Prop := fnExactNewSecretRow.holds Tryz.pinned (OpenSpec.ofChange fnExactNewSecretWrong)

/-- 'laws.FnExactIssuedIn': WHATEVER THE INPUT: true; the input reads as it did. -/
def fnExactIssuedInSpec : ChangeSpec := { name := "fnExactIssuedIn", fn := fun _ => fun
  | [d1, d2] => { results := [.lit (.bool true)], args := [d1, d2] }
  | _ => none }
def fnExactIssuedInRow : OpenClaim := { program := "ytbkjnlihfgkkaaagreat", sum := "fd56ea22445c3bb249e2a213dd677fb3dff3ae8b140a5425f0f90e051026beb0", func := "loop.example/g00504/laws.FnExactIssuedIn", spec := "fnExactIssuedIn", apart := false }
def FnExactIssuedInSaid : Prop := fnExactIssuedInRow.holds Tryz.pinned (OpenSpec.ofChange fnExactIssuedInSpec)

/-- ITS FALSE NEIGHBOUR: 'it returns false'. Refute it at one input. -/
def fnExactIssuedInWrong : ChangeSpec := { name := "fnExactIssuedIn", fn := fun _ => fun
  | [d1, d2] => { results := [.lit (.bool false)], args := [d1, d2] }
  | _ => none }
def FnExactIssuedInWrongFalsely : Prop := fnExactIssuedInRow.holds Tryz.pinned (OpenSpec.ofChange fnExactIssuedInWrong)

/-- 'laws.FnExactSynIn': WHATEVER THE INPUT: true; the input reads as it did. -/
def fnExactSynInSpec : ChangeSpec := { name := "fnExactSynIn", fn := fun _ => fun
  | [d1, d2, d3] => { results := [.lit (.bool true)], args := [d1, d2, d3] }
  | _ => none }
def fnExactSynInRow : OpenClaim := { program := "ytbkjnlihfgkkaaagreat", sum := "fd56ea22445c3bb249e2a213dd677fb3dff3ae8b140a5425f0f90e051026beb0", func := "loop.example/g00504/laws.FnExactSynIn", spec := "fnExactSynIn", unfollowed := true, recurses := true, apart := false }
def FnExactSynInSaid : Prop := fnExactSynInRow.holds Tryz.pinned (OpenSpec.ofChange fnExactSynInSpec)

/-- ITS FALSE NEIGHBOUR: 'it returns false'. Refute it at one input. -/
def fnExactSynInWrong : ChangeSpec := { name := "fnExactSynIn", fn := fun _ => fun
  | [d1, d2, d3] => { results := [.lit (.bool false)], args := [d1, d2, d3] }
  | _ => none }
def FnExactSynInWrongFalsely : Prop := fnExactSynInRow.holds Tryz.pinned (OpenSpec.ofChange fnExactSynInWrong)

/-- 'laws.FnExactAckIn': WHATEVER THE INPUT: true; the input reads as it did. -/
def fnExactAckInSpec : ChangeSpec := { name := "fnExactAckIn", fn := fun _ => fun
  | [d1, d2, d3] => { results := [.lit (.bool true)], args := [d1, d2, d3] }
  | _ => none }
def fnExactAckInRow : OpenClaim := { program := "ytbkjnlihfgkkaaagreat", sum := "fd56ea22445c3bb249e2a213dd677fb3dff3ae8b140a5425f0f90e051026beb0", func := "loop.example/g00504/laws.FnExactAckIn", spec := "fnExactAckIn", unfollowed := true, recurses := true, apart := false }
def FnExactAckInSaid : Prop := fnExactAckInRow.holds Tryz.pinned (OpenSpec.ofChange fnExactAckInSpec)

/-- ITS FALSE NEIGHBOUR: 'it returns false'. Refute it at one input. -/
def fnExactAckInWrong : ChangeSpec := { name := "fnExactAckIn", fn := fun _ => fun
  | [d1, d2, d3] => { results := [.lit (.bool false)], args := [d1, d2, d3] }
  | _ => none }
def FnExactAckInWrongFalsely : Prop := fnExactAckInRow.holds Tryz.pinned (OpenSpec.ofChange fnExactAckInWrong)

/-- 'laws.FnExactSegIn': WHATEVER THE INPUT: true; the input reads as it did. -/
def fnExactSegInSpec : ChangeSpec := { name := "fnExactSegIn", fn := fun _ => fun
  | [d1, d2, d3] => { results := [.lit (.bool true)], args := [d1, d2, d3] }
  | _ => none }
def fnExactSegInRow : OpenClaim := { program := "ytbkjnlihfgkkaaagreat", sum := "fd56ea22445c3bb249e2a213dd677fb3dff3ae8b140a5425f0f90e051026beb0", func := "loop.example/g00504/laws.FnExactSegIn", spec := "fnExactSegIn", unfollowed := true, recurses := true, apart := false }
def FnExactSegInSaid : Prop := fnExactSegInRow.holds Tryz.pinned (OpenSpec.ofChange fnExactSegInSpec)

/-- ITS FALSE NEIGHBOUR: 'it returns false'. Refute it at one input. -/
def fnExactSegInWrong : ChangeSpec := { name := "fnExactSegIn", fn := fun _ => fun
  | [d1, d2, d3] => { results := [.lit (.bool false)], args := [d1, d2, d3] }
  | _ => none }
def FnExactSegInWrongFalsely : Prop := fnExactSegInRow.holds Tryz.pinned (OpenSpec.ofChange fnExactSegInWrong)

/-- 'laws.FnExactFrameIn': WHATEVER THE INPUT: true; the input reads as it did. -/
def fnExactFrameInSpec : ChangeSpec := { name := "fnExactFrameIn", fn := fun _ => fun
  | [d1, d2] => { results := [.lit (.bool true)], args := [d1, d2] }
  | _ => none }
def fnExactFrameInRow : OpenClaim := { program := "ytbkjnlihfgkkaaagreat", sum := "fd56ea22445c3bb249e2a213dd677fb3dff3ae8b140a5425f0f90e051026beb0", func := "loop.example/g00504/laws.FnExactFrameIn", spec := "fnExactFrameIn", unfollowed := true, recurses := true, apart := false }
def FnExactFrameInSaid : Prop := fnExactFrameInRow.holds Tryz.pinned (OpenSpec.ofChange fnExactFrameInSpec)

/-- ITS FALSE NEIGHBOUR: 'it returns false'. Refute it at one input. -/
def fnExactFrameInWrong : ChangeSpec := { name := "fnExactFrameIn", fn := fun _ => fun
  | [d1, d2] => { results := [.lit (.bool false)], args := [d1, d2] }
  | _ => none }
def FnExactFrameInWrongFalsely : Prop := fnExactFrameInRow.holds Tryz.pinned (OpenSpec.ofChange fnExactFrameInWrong)

/-- 'laws.FnExactWelcome': WHATEVER THE INPUT: true; the input reads as it did. -/
def fnExactWelcomeSpec : ChangeSpec := { name := "fnExactWelcome", fn := fun _ => fun
  | [d1, d2, d3] => { results := [.lit (.bool true)], args := [d1, d2, d3] }
  | _ => none }
def fnExactWelcomeRow : OpenClaim := { program := "ytbkjnlihfgkkaaagreat", sum := "fd56ea22445c3bb249e2a213dd677fb3dff3ae8b140a5425f0f90e051026beb0", func := "loop.example/g00504/laws.FnExactWelcome", spec := "fnExactWelcome", unfollowed := true, recurses := true, apart := false }
def FnExactWelcomeSaid : Prop := fnExactWelcomeRow.holds Tryz.pinned (OpenSpec.ofChange fnExactWelcomeSpec)

/-- ITS FALSE NEIGHBOUR: 'it returns false'. Refute it at one input. -/
def fnExactWelcomeWrong : ChangeSpec := { name := "fnExactWelcome", fn := fun _ => fun
  | [d1, d2, d3] => { results := [.lit (.bool false)], args := [d1, d2, d3] }
  | _ => none }
def FnExactWelcomeWrongFalsely : Prop := fnExactWelcomeRow.holds Tryz.pinned (OpenSpec.ofChange fnExactWelcomeWrong)

/- THE SECOND FORM. 'bulk': how many values and letters a reading holds, each counted each time it is reached (what is shared counts as often as it is met; a slice's spare places count too). A statement '..UptoSaid' is the law's where the arguments, and the package variables that the reading takes, are together of bulk at most 1048576: NARROWER than '..Said'. Prove '..Said' where nothing that the law and all that it calls make is longer than what came in: it says more and counts as full. Else prove '..UptoSaid'. A law counts once. -/
mutual
def uptoBulk {H : Type} : DataW H → Nat
  | .lit (.string bytes) => bytes.length + 1
  | .lit _ => 1
  | .nil => 1
  | .ptr d => uptoBulk d + 1
  | .slice elems spare => uptoBulkAll elems + uptoBulkAll spare + 1
  | .agg parts => uptoBulkAll parts + 1
  | .iface _ d => uptoBulk d + 1
  | .map entries => uptoBulkEntries entries + 1
  | .held _ => 1
def uptoBulkAll {H : Type} : List (DataW H) → Nat
  | [] => 0
  | d :: r => uptoBulk d + uptoBulkAll r
def uptoBulkEntries {H : Type} : List (Lit × DataW H) → Nat
  | [] => 0
  | x :: r => uptoBulkEntry x + uptoBulkEntries r
def uptoBulkEntry {H : Type} : Lit × DataW H → Nat
  | (.string bytes, d) => bytes.length + uptoBulk d + 1
  | (_, d) => uptoBulk d + 1
 end
def uptoSmall : (H : Type) → List (DataW H) → Bool := fun _ ds => decide (uptoBulkAll ds ≤ 1048576)
def OpenSpec.upto (s : _root_.Go.ChangeSpec) : _root_.Go.OpenSpec := { _root_.Go.OpenSpec.ofChange s with cond := some uptoSmall }

/-- 'laws.FnExactNewSecret', WHERE WHAT IT READS IS OF BULK AT MOST 1048576: true; the input reads as it did. -/
def fnExactNewSecretUptoRow : OpenClaim := { program := "ytbkjnlihfgkkaaagreat", sum := "fd56ea22445c3bb249e2a213dd677fb3dff3ae8b140a5425f0f90e051026beb0", func := "loop.example/g00504/laws.FnExactNewSecret", spec := "fnExactNewSecret", unfollowed := true, recurses := true, apart := false, narrowed := true }
def FnExactNewSecretUptoSaid : Prop := fnExactNewSecretUptoRow.holds Tryz.pinned (OpenSpec.upto fnExactNewSecretSpec)

/-- 'laws.FnExactIssuedIn', WHERE WHAT IT READS IS OF BULK AT MOST 1048576: true; the input reads as it did. -/
def fnExactIssuedInUptoRow : OpenClaim := { program := "ytbkjnlihfgkkaaagreat", sum := "fd56ea22445c3bb249e2a213dd677fb3dff3ae8b140a5425f0f90e051026beb0", func := "loop.example/g00504/laws.FnExactIssuedIn", spec := "fnExactIssuedIn", apart := false, narrowed := true }
def FnExactIssuedInUptoSaid : Prop := fnExactIssuedInUptoRow.holds Tryz.pinned (OpenSpec.upto fnExactIssuedInSpec)

/-- 'laws.FnExactSynIn', WHERE WHAT IT READS IS OF BULK AT MOST 1048576: true; the input reads as it did. -/
def fnExactSynInUptoRow : OpenClaim := { program := "ytbkjnlihfgkkaaagreat", sum := "fd56ea22445c3bb249e2a213dd677fb3dff3ae8b140a5425f0f90e051026beb0", func := "loop.example/g00504/laws.FnExactSynIn", spec := "fnExactSynIn", unfollowed := true, recurses := true, apart := false, narrowed := true }
def FnExactSynInUptoSaid : Prop := fnExactSynInUptoRow.holds Tryz.pinned (OpenSpec.upto fnExactSynInSpec)

/-- 'laws.FnExactAckIn', WHERE WHAT IT READS IS OF BULK AT MOST 1048576: true; the input reads as it did. -/
def fnExactAckInUptoRow : OpenClaim := { program := "ytbkjnlihfgkkaaagreat", sum := "fd56ea22445c3bb249e2a213dd677fb3dff3ae8b140a5425f0f90e051026beb0", func := "loop.example/g00504/laws.FnExactAckIn", spec := "fnExactAckIn", unfollowed := true, recurses := true, apart := false, narrowed := true }
def FnExactAckInUptoSaid : Prop := fnExactAckInUptoRow.holds Tryz.pinned (OpenSpec.upto fnExactAckInSpec)

/-- 'laws.FnExactSegIn', WHERE WHAT IT READS IS OF BULK AT MOST 1048576: true; the input reads as it did. -/
def fnExactSegInUptoRow : OpenClaim := { program := "ytbkjnlihfgkkaaagreat", sum := "fd56ea22445c3bb249e2a213dd677fb3dff3ae8b140a5425f0f90e051026beb0", func := "loop.example/g00504/laws.FnExactSegIn", spec := "fnExactSegIn", unfollowed := true, recurses := true, apart := false, narrowed := true }
def FnExactSegInUptoSaid : Prop := fnExactSegInUptoRow.holds Tryz.pinned (OpenSpec.upto fnExactSegInSpec)

/-- 'laws.FnExactFrameIn', WHERE WHAT IT READS IS OF BULK AT MOST 1048576: true; the input reads as it did. -/
def fnExactFrameInUptoRow : OpenClaim := { program := "ytbkjnlihfgkkaaagreat", sum := "fd56ea22445c3bb249e2a213dd677fb3dff3ae8b140a5425f0f90e051026beb0", func := "loop.example/g00504/laws.FnExactFrameIn", spec := "fnExactFrameIn", unfollowed := true, recurses := true, apart := false, narrowed := true }
def FnExactFrameInUptoSaid : Prop := fnExactFrameInUptoRow.holds Tryz.pinned (OpenSpec.upto fnExactFrameInSpec)

/-- 'laws.FnExactWelcome', WHERE WHAT IT READS IS OF BULK AT MOST 1048576: true; the input reads as it did. -/
def fnExactWelcomeUptoRow : OpenClaim := { program := "ytbkjnlihfgkkaaagreat", sum := "fd56ea22445c3bb249e2a213dd677fb3dff3ae8b140a5425f0f90e051026beb0", func := "loop.example/g00504/laws.FnExactWelcome", spec := "fnExactWelcome", unfollowed := true, recurses := true, apart := false, narrowed := true }
def FnExactWelcomeUptoSaid : Prop := fnExactWelcomeUptoRow.holds Tryz.pinned (OpenSpec.upto fnExactWelcomeSpec)

end Rows
end Go.Proofs.YtbkjnlihfgkkaaaGreat
