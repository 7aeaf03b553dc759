/-
  No cell of these rows narrows 'for every input' (looked for: loops, veiled, ifaces, maps, wideKeys, modest, calm, conditions, laid).
  DERIVED. THE GIVEN ROWS OF THIS SEAT. 5 by the template 'for every input the law returns true; each argument reads behind the call as it read before'; 0 by the template 'total and deterministic' (their statements: YtgbgljgnblkffaaGreatTotals.lean).
  GIVEN WITH THE SEED: the statements are not yours to turn. If you find one false, say at which input.
  Laid BY PROGRAM, IN A SANDBOX (cutbox-rows.mjs): the forced cells as the released guide's own fill.sh prints them over the translation 69efb27855e74932… (all of the seat's roots in one cut). By AI agents, Wed Nov 11 2026. No macro, syntax, notation, axiom, sorry.
-/
import Derived.Test.YtgbgljgnblkffaaGreatChecked
import GoSem.Claim
import GoSem.ClaimJoined
import GoSem.ClaimMapViews
import Derived.JoinedTies
import Derived.KernelRfl
namespace Go.Proofs.YtgbgljgnblkffaaGreat
/- THE CELL 'sum', in the pinned program and in every row, IS THE sha256 OF THE DUMP (.gsa) THAT YtgbgljgnblkffaaGreatProg.lean LOADS. Nothing in Lean hashes anything: it is a label: what it is worth is what the hold of that sum in a sandbox is worth. -/
noncomputable def Tryz.pinned : Pinned := { name := "ytgbgljgnblkffaagreat", sum := "69efb27855e7493295ed5ea624f46524eee95969bb5ac2327061add265269000", checked := Tryz.checked }
namespace Rows
def none {H : Type} : Left H := { results := [], args := [] }

/-- 'laws.FnIssued': WHATEVER THE INPUT: true; the input reads as it did. -/
def fnIssuedSpec : ChangeSpec := { name := "fnIssued", fn := fun _ => fun
  | [d] => { results := [.lit (.bool true)], args := [d] }
  | _ => none }
def fnIssuedRow : OpenClaim := { program := "ytgbgljgnblkffaagreat", sum := "69efb27855e7493295ed5ea624f46524eee95969bb5ac2327061add265269000", func := "loop.example/g00504/laws.FnIssued", spec := "fnIssued", apart := false }
def FnIssuedSaid : Prop := fnIssuedRow.holds Tryz.pinned (OpenSpec.ofChange fnIssuedSpec)

/-- ITS FALSE NEIGHBOUR: 'it returns false'. Refute it at one input. -/
def fnIssuedWrong : ChangeSpec := { name := "fnIssued", fn := fun _ => fun
  | [d] => { results := [.lit (.bool false)], args := [d] }
  | _ => none }
def FnIssuedWrongFalsely : Prop := fnIssuedRow.holds Tryz.pinned (OpenSpec.ofChange fnIssuedWrong)

/-- 'laws.FnWelcome': WHATEVER THE INPUT: true; the input reads as it did. -/
def fnWelcomeSpec : ChangeSpec := { name := "fnWelcome", fn := fun _ => fun
  | [d] => { results := [.lit (.bool true)], args := [d] }
  | _ => none }
def fnWelcomeRow : OpenClaim := { program := "ytgbgljgnblkffaagreat", sum := "69efb27855e7493295ed5ea624f46524eee95969bb5ac2327061add265269000", func := "loop.example/g00504/laws.FnWelcome", spec := "fnWelcome", unfollowed := true, recurses := true, apart := false }
def FnWelcomeSaid : Prop := fnWelcomeRow.holds Tryz.pinned (OpenSpec.ofChange fnWelcomeSpec)

/-- ITS FALSE NEIGHBOUR: 'it returns false'. Refute it at one input. -/
def fnWelcomeWrong : ChangeSpec := { name := "fnWelcome", fn := fun _ => fun
  | [d] => { results := [.lit (.bool false)], args := [d] }
  | _ => none }
def FnWelcomeWrongFalsely : Prop := fnWelcomeRow.holds Tryz.pinned (OpenSpec.ofChange fnWelcomeWrong)

/-- 'laws.FnFrameIn': WHATEVER THE INPUT: true; the input reads as it did. -/
def fnFrameInSpec : ChangeSpec := { name := "fnFrameIn", fn := fun _ => fun
  | [d] => { results := [.lit (.bool true)], args := [d] }
  | _ => none }
def fnFrameInRow : OpenClaim := { program := "ytgbgljgnblkffaagreat", sum := "69efb27855e7493295ed5ea624f46524eee95969bb5ac2327061add265269000", func := "loop.example/g00504/laws.FnFrameIn", spec := "fnFrameIn", unfollowed := true, recurses := true, apart := false }
def FnFrameInSaid : Prop := fnFrameInRow.holds Tryz.pinned (OpenSpec.ofChange fnFrameInSpec)

/-- ITS FALSE NEIGHBOUR: 'it returns false'. Refute it at one input. -/
def fnFrameInWrong : ChangeSpec := { name := "fnFrameIn", fn := fun _ => fun
  | [d] => { results := [.lit (.bool false)], args := [d] }
  | _ => none }
def FnFrameInWrongFalsely : Prop := fnFrameInRow.holds Tryz.pinned (OpenSpec.ofChange fnFrameInWrong)

/-- 'laws.FnAnswered': WHATEVER THE INPUT: true; the input reads as it did. -/
def fnAnsweredSpec : ChangeSpec := { name := "fnAnswered", fn := fun _ => fun
  | [d] => { results := [.lit (.bool true)], args := [d] }
  | _ => none }
def fnAnsweredRow : OpenClaim := { program := "ytgbgljgnblkffaagreat", sum := "69efb27855e7493295ed5ea624f46524eee95969bb5ac2327061add265269000", func := "loop.example/g00504/laws.FnAnswered", spec := "fnAnswered", unfollowed := true, recurses := true, apart := false }
def FnAnsweredSaid : Prop := fnAnsweredRow.holds Tryz.pinned (OpenSpec.ofChange fnAnsweredSpec)

/-- ITS FALSE NEIGHBOUR: 'it returns false'. Refute it at one input. -/
def fnAnsweredWrong : ChangeSpec := { name := "fnAnswered", fn := fun _ => fun
  | [d] => { results := [.lit (.bool false)], args := [d] }
  | _ => none }
def FnAnsweredWrongFalsely : Prop := fnAnsweredRow.holds Tryz.pinned (OpenSpec.ofChange fnAnsweredWrong)

/-- 'laws.FnExactStackNew': WHATEVER THE INPUT: true; the input reads as it did. -/
def fnExactStackNewSpec : ChangeSpec := { name := "fnExactStackNew", fn := fun _ => fun
  | [d1, d2, d3, d4, d5] => { results := [.lit (.bool true)], args := [d1, d2, d3, d4, d5] }
  | _ => none }
def fnExactStackNewRow : OpenClaim := { program := "ytgbgljgnblkffaagreat", sum := "69efb27855e7493295ed5ea624f46524eee95969bb5ac2327061add265269000", func := "loop.example/g00504/laws.FnExactStackNew", spec := "fnExactStackNew", unfollowed := true, recurses := true, apart := false }
def FnExactStackNewSaid : Prop := fnExactStackNewRow.holds Tryz.pinned (OpenSpec.ofChange fnExactStackNewSpec)

/-- ITS FALSE NEIGHBOUR: 'it returns false'. Refute it at one input. -/
def fnExactStackNewWrong : ChangeSpec := { name := "fnExactStackNew", fn := fun _ => fun
  | [d1, d2, d3, d4, d5] => { results := [.lit (.bool false)], args := [d1, d2, d3, d4, d5] }
  | _ => none }
def FnExactStackNewWrongFalsely : Prop := fnExactStackNewRow.holds Tryz.pinned (OpenSpec.ofChange fnExactStackNewWrong)

/- THE SECOND FORM. 'bulk': how many values and letters a reading holds, each counted each time it is reached (what is shared counts as often as it is met; a slice's spare places count too). A statement '..UptoSaid' is the law's where the arguments, and the package variables that the reading takes, are together of bulk at most 1048576: NARROWER than '..Said'. Prove '..Said' where nothing that the law and all that it calls make is longer than what came in: it says more and counts as full. Else prove '..UptoSaid'. A law counts once. -/
mutual
def uptoBulk {H : Type} : DataW H → Nat
  | .lit (.string bytes) => bytes.length + 1
  | .lit _ => 1
  | .nil => 1
  | .ptr d => uptoBulk d + 1
  | .slice elems spare => uptoBulkAll elems + uptoBulkAll spare + 1
  | .agg parts => uptoBulkAll parts + 1
  | .iface _ d => uptoBulk d + 1
  | .map entries => uptoBulkEntries entries + 1
  | .held _ => 1
def uptoBulkAll {H : Type} : List (DataW H) → Nat
  | [] => 0
  | d :: r => uptoBulk d + uptoBulkAll r
def uptoBulkEntries {H : Type} : List (Lit × DataW H) → Nat
  | [] => 0
  | x :: r => uptoBulkEntry x + uptoBulkEntries r
def uptoBulkEntry {H : Type} : Lit × DataW H → Nat
  | (.string bytes, d) => bytes.length + uptoBulk d + 1
  | (_, d) => uptoBulk d + 1
 end
def uptoSmall : (H : Type) → List (DataW H) → Bool := fun _ ds => decide (uptoBulkAll ds ≤ 1048576)
def OpenSpec.upto (s : _root_.Go.ChangeSpec) : _root_.Go.OpenSpec := { _root_.Go.OpenSpec.ofChange s with cond := some uptoSmall }

/-- 'laws.FnIssued', WHERE WHAT IT READS IS OF BULK AT MOST 1048576: true; the input reads as it did. -/
def fnIssuedUptoRow : OpenClaim := { program := "ytgbgljgnblkffaagreat", sum := "69efb27855e7493295ed5ea624f46524eee95969bb5ac2327061add265269000", func := "loop.example/g00504/laws.FnIssued", spec := "fnIssued", apart := false, narrowed := true }
def FnIssuedUptoSaid : Prop := fnIssuedUptoRow.holds Tryz.pinned (OpenSpec.upto fnIssuedSpec)

/-- 'laws.FnWelcome', WHERE WHAT IT READS IS OF BULK AT MOST 1048576: true; the input reads as it did. -/
def fnWelcomeUptoRow : OpenClaim := { program := "ytgbgljgnblkffaagreat", sum := "69efb27855e7493295ed5ea624f46524eee95969bb5ac2327061add265269000", func := "loop.example/g00504/laws.FnWelcome", spec := "fnWelcome", unfollowed := true, recurses := true, apart := false, narrowed := true }
def FnWelcomeUptoSaid : Prop := fnWelcomeUptoRow.holds Tryz.pinned (OpenSpec.upto fnWelcomeSpec)

/-- 'laws.FnFrameIn', WHERE WHAT IT READS IS OF BULK AT MOST 1048576: true; the input reads as it did. -/
def fnFrameInUptoRow : OpenClaim := { program := "ytgbgljgnblkffaagreat", sum := "69efb27855e7493295ed5ea624f46524eee95969bb5ac2327061add265269000", func := "loop.example/g00504/laws.FnFrameIn", spec := "fnFrameIn", unfollowed := true, recurses := true, apart := false, narrowed := true }
def FnFrameInUptoSaid : Prop := fnFrameInUptoRow.holds Tryz.pinned (OpenSpec.upto fnFrameInSpec)

/-- 'laws.FnAnswered', WHERE WHAT IT READS IS OF BULK AT MOST 1048576: true; the input reads as it did. -/
def fnAnsweredUptoRow : OpenClaim := { program := "ytgbgljgnblkffaagreat", sum := "69efb27855e7493295ed5ea624f46524eee95969bb5ac2327061add265269000", func := "loop.example/g00504/laws.FnAnswered", spec := "fnAnswered", unfollowed := true, recurses := true, apart := false, narrowed := true }
def FnAnsweredUptoSaid : Prop := fnAnsweredUptoRow.holds Tryz.pinned (OpenSpec.upto fnAnsweredSpec)

/-- 'laws.FnExactStackNew', WHERE WHAT IT READS IS OF BULK AT MOST 1048576: true; the input reads as it did. -/
def fnExactStackNewUptoRow : OpenClaim := { program := "ytgbgljgnblkffaagreat", sum := "69efb27855e7493295ed5ea624f46524eee95969bb5ac2327061add265269000", func := "loop.example/g00504/laws.FnExactStackNew", spec := "fnExactStackNew", unfollowed := true, recurses := true, apart := false, narrowed := true }
def FnExactStackNewUptoSaid : Prop := fnExactStackNewUptoRow.holds Tryz.pinned (OpenSpec.upto fnExactStackNewSpec)

end Rows
end Go.Proofs.YtgbgljgnblkffaaGreat
