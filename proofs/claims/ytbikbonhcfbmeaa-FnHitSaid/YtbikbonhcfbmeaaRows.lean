/-
  No cell of these rows narrows 'for every input' (looked for: loops, veiled, ifaces, maps, wideKeys, modest, calm, conditions, laid).
  DERIVED. THE GIVEN ROWS OF THIS SEAT. 5 by the template 'for every input the law returns true; each argument reads behind the call as it read before'; 0 by the template 'total and deterministic' (their statements: YtbikbonhcfbmeaaTotals.lean).
  GIVEN WITH THE SEED: the statements are not yours to turn. If you find one false, say at which input.
  Laid BY PROGRAM, IN A SANDBOX (cutbox-rows.mjs): the forced cells as the released guide's own fill.sh prints them over the translation d98e548a63dfdf71… (all of the seat's roots in one cut). By AI agents, Wed Nov 11 2026. No macro, syntax, notation, axiom, sorry.
-/
import Derived.Test.YtbikbonhcfbmeaaChecked
import GoSem.Claim
import GoSem.ClaimJoined
import GoSem.ClaimMapViews
import Derived.JoinedTies
import Derived.KernelRfl
namespace Go.Proofs.Ytbikbonhcfbmeaa
/- THE CELL 'sum', in the pinned program and in every row, IS THE sha256 OF THE DUMP (.gsa) THAT YtbikbonhcfbmeaaProg.lean LOADS. Nothing in Lean hashes anything: it is a label: what it is worth is what the hold of that sum in a sandbox is worth. -/
noncomputable def Try.pinned : Pinned := { name := "ytbikbonhcfbmeaa", sum := "d98e548a63dfdf7146355226e04898fb3d88e9f80bf736ee529a7b7fcaccffae", checked := Try.checked }
namespace Rows
def none {H : Type} : Left H := { results := [], args := [] }

/-- 'laws.FnClient': WHATEVER THE INPUT: true; the input reads as it did. -/
def fnClientSpec : ChangeSpec := { name := "fnClient", fn := fun _ => fun
  | [d] => { results := [.lit (.bool true)], args := [d] }
  | _ => none }
def fnClientRow : OpenClaim := { program := "ytbikbonhcfbmeaa", sum := "d98e548a63dfdf7146355226e04898fb3d88e9f80bf736ee529a7b7fcaccffae", func := "loop.example/g00504/laws.FnClient", spec := "fnClient", apart := false }
def FnClientSaid : Prop := fnClientRow.holds Try.pinned (OpenSpec.ofChange fnClientSpec)

/-- ITS FALSE NEIGHBOUR: 'it returns false'. Refute it at one input. -/
def fnClientWrong : ChangeSpec := { name := "fnClient", fn := fun _ => fun
  | [d] => { results := [.lit (.bool false)], args := [d] }
  | _ => none }
def FnClientWrongFalsely : Prop := fnClientRow.holds Try.pinned (OpenSpec.ofChange fnClientWrong)

/-- 'laws.FnHit': WHATEVER THE INPUT: true; the input reads as it did. -/
def fnHitSpec : ChangeSpec := { name := "fnHit", fn := fun _ => fun
  | [d] => { results := [.lit (.bool true)], args := [d] }
  | _ => none }
def fnHitRow : OpenClaim := { program := "ytbikbonhcfbmeaa", sum := "d98e548a63dfdf7146355226e04898fb3d88e9f80bf736ee529a7b7fcaccffae", func := "loop.example/g00504/laws.FnHit", spec := "fnHit", unfollowed := true, recurses := true, apart := false }
def FnHitSaid : Prop := fnHitRow.holds Try.pinned (OpenSpec.ofChange fnHitSpec)

/-- ITS FALSE NEIGHBOUR: 'it returns false'. Refute it at one input. -/
def fnHitWrong : ChangeSpec := { name := "fnHit", fn := fun _ => fun
  | [d] => { results := [.lit (.bool false)], args := [d] }
  | _ => none }
def FnHitWrongFalsely : Prop := fnHitRow.holds Try.pinned (OpenSpec.ofChange fnHitWrong)

/-- 'laws.FnExactRetained': WHATEVER THE INPUT: true; the input reads as it did. -/
def fnExactRetainedSpec : ChangeSpec := { name := "fnExactRetained", fn := fun _ => fun
  | [d] => { results := [.lit (.bool true)], args := [d] }
  | _ => none }
def fnExactRetainedRow : OpenClaim := { program := "ytbikbonhcfbmeaa", sum := "d98e548a63dfdf7146355226e04898fb3d88e9f80bf736ee529a7b7fcaccffae", func := "loop.example/g00504/laws.FnExactRetained", spec := "fnExactRetained", apart := false }
def FnExactRetainedSaid : Prop := fnExactRetainedRow.holds Try.pinned (OpenSpec.ofChange fnExactRetainedSpec)

/-- ITS FALSE NEIGHBOUR: 'it returns false'. Refute it at one input. -/
def fnExactRetainedWrong : ChangeSpec := { name := "fnExactRetained", fn := fun _ => fun
  | [d] => { results := [.lit (.bool false)], args := [d] }
  | _ => none }
def FnExactRetainedWrongFalsely : Prop := fnExactRetainedRow.holds Try.pinned (OpenSpec.ofChange fnExactRetainedWrong)

/-- 'laws.FnExactSameStack': WHATEVER THE INPUT: true; the input reads as it did. -/
def fnExactSameStackSpec : ChangeSpec := { name := "fnExactSameStack", fn := fun _ => fun
  | [d1, d2] => { results := [.lit (.bool true)], args := [d1, d2] }
  | _ => none }
def fnExactSameStackRow : OpenClaim := { program := "ytbikbonhcfbmeaa", sum := "d98e548a63dfdf7146355226e04898fb3d88e9f80bf736ee529a7b7fcaccffae", func := "loop.example/g00504/laws.FnExactSameStack", spec := "fnExactSameStack", unfollowed := true, recurses := true, apart := false }
def FnExactSameStackSaid : Prop := fnExactSameStackRow.holds Try.pinned (OpenSpec.ofChange fnExactSameStackSpec)

/-- ITS FALSE NEIGHBOUR: 'it returns false'. Refute it at one input. -/
def fnExactSameStackWrong : ChangeSpec := { name := "fnExactSameStack", fn := fun _ => fun
  | [d1, d2] => { results := [.lit (.bool false)], args := [d1, d2] }
  | _ => none }
def FnExactSameStackWrongFalsely : Prop := fnExactSameStackRow.holds Try.pinned (OpenSpec.ofChange fnExactSameStackWrong)

/-- 'laws.FnExactSynAck': WHATEVER THE INPUT: true; the input reads as it did. -/
def fnExactSynAckSpec : ChangeSpec := { name := "fnExactSynAck", fn := fun _ => fun
  | [d1, d2, d3] => { results := [.lit (.bool true)], args := [d1, d2, d3] }
  | _ => none }
def fnExactSynAckRow : OpenClaim := { program := "ytbikbonhcfbmeaa", sum := "d98e548a63dfdf7146355226e04898fb3d88e9f80bf736ee529a7b7fcaccffae", func := "loop.example/g00504/laws.FnExactSynAck", spec := "fnExactSynAck", apart := false }
def FnExactSynAckSaid : Prop := fnExactSynAckRow.holds Try.pinned (OpenSpec.ofChange fnExactSynAckSpec)

/-- ITS FALSE NEIGHBOUR: 'it returns false'. Refute it at one input. -/
def fnExactSynAckWrong : ChangeSpec := { name := "fnExactSynAck", fn := fun _ => fun
  | [d1, d2, d3] => { results := [.lit (.bool false)], args := [d1, d2, d3] }
  | _ => none }
def FnExactSynAckWrongFalsely : Prop := fnExactSynAckRow.holds Try.pinned (OpenSpec.ofChange fnExactSynAckWrong)

/- THE SECOND FORM. 'bulk': how many values and letters a reading holds, each counted each time it is reached (what is shared counts as often as it is met; a slice's spare places count too). A statement '..UptoSaid' is the law's where the arguments, and the package variables that the reading takes, are together of bulk at most 1048576: NARROWER than '..Said'. Prove '..Said' where nothing that the law and all that it calls make is longer than what came in: it says more and counts as full. Else prove '..UptoSaid'. A law counts once. -/
mutual
def uptoBulk {H : Type} : DataW H → Nat
  | .lit (.string bytes) => bytes.length + 1
  | .lit _ => 1
  | .nil => 1
  | .ptr d => uptoBulk d + 1
  | .slice elems spare => uptoBulkAll elems + uptoBulkAll spare + 1
  | .agg parts => uptoBulkAll parts + 1
  | .iface _ d => uptoBulk d + 1
  | .map entries => uptoBulkEntries entries + 1
  | .held _ => 1
def uptoBulkAll {H : Type} : List (DataW H) → Nat
  | [] => 0
  | d :: r => uptoBulk d + uptoBulkAll r
def uptoBulkEntries {H : Type} : List (Lit × DataW H) → Nat
  | [] => 0
  | x :: r => uptoBulkEntry x + uptoBulkEntries r
def uptoBulkEntry {H : Type} : Lit × DataW H → Nat
  | (.string bytes, d) => bytes.length + uptoBulk d + 1
  | (_, d) => uptoBulk d + 1
 end
def uptoSmall : (H : Type) → List (DataW H) → Bool := fun _ ds => decide (uptoBulkAll ds ≤ 1048576)
def OpenSpec.upto (s : _root_.Go.ChangeSpec) : _root_.Go.OpenSpec := { _root_.Go.OpenSpec.ofChange s with cond := some uptoSmall }

/-- 'laws.FnClient', WHERE WHAT IT READS IS OF BULK AT MOST 1048576: true; the input reads as it did. -/
def fnClientUptoRow : OpenClaim := { program := "ytbikbonhcfbmeaa", sum := "d98e548a63dfdf7146355226e04898fb3d88e9f80bf736ee529a7b7fcaccffae", func := "loop.example/g00504/laws.FnClient", spec := "fnClient", apart := false, narrowed := true }
def FnClientUptoSaid : Prop := fnClientUptoRow.holds Try.pinned (OpenSpec.upto fnClientSpec)

/-- 'laws.FnHit', WHERE WHAT IT READS IS OF BULK AT MOST 1048576: true; the input reads as it did. -/
def fnHitUptoRow : OpenClaim := { program := "ytbikbonhcfbmeaa", sum := "d98e548a63dfdf7146355226e04898fb3d88e9f80bf736ee529a7b7fcaccffae", func := "loop.example/g00504/laws.FnHit", spec := "fnHit", unfollowed := true, recurses := true, apart := false, narrowed := true }
def FnHitUptoSaid : Prop := fnHitUptoRow.holds Try.pinned (OpenSpec.upto fnHitSpec)

/-- 'laws.FnExactRetained', WHERE WHAT IT READS IS OF BULK AT MOST 1048576: true; the input reads as it did. -/
def fnExactRetainedUptoRow : OpenClaim := { program := "ytbikbonhcfbmeaa", sum := "d98e548a63dfdf7146355226e04898fb3d88e9f80bf736ee529a7b7fcaccffae", func := "loop.example/g00504/laws.FnExactRetained", spec := "fnExactRetained", apart := false, narrowed := true }
def FnExactRetainedUptoSaid : Prop := fnExactRetainedUptoRow.holds Try.pinned (OpenSpec.upto fnExactRetainedSpec)

/-- 'laws.FnExactSameStack', WHERE WHAT IT READS IS OF BULK AT MOST 1048576: true; the input reads as it did. -/
def fnExactSameStackUptoRow : OpenClaim := { program := "ytbikbonhcfbmeaa", sum := "d98e548a63dfdf7146355226e04898fb3d88e9f80bf736ee529a7b7fcaccffae", func := "loop.example/g00504/laws.FnExactSameStack", spec := "fnExactSameStack", unfollowed := true, recurses := true, apart := false, narrowed := true }
def FnExactSameStackUptoSaid : Prop := fnExactSameStackUptoRow.holds Try.pinned (OpenSpec.upto fnExactSameStackSpec)

/-- 'laws.FnExactSynAck', WHERE WHAT IT READS IS OF BULK AT MOST 1048576: true; the input reads as it did. -/
def fnExactSynAckUptoRow : OpenClaim := { program := "ytbikbonhcfbmeaa", sum := "d98e548a63dfdf7146355226e04898fb3d88e9f80bf736ee529a7b7fcaccffae", func := "loop.example/g00504/laws.FnExactSynAck", spec := "fnExactSynAck", apart := false, narrowed := true }
def FnExactSynAckUptoSaid : Prop := fnExactSynAckUptoRow.holds Try.pinned (OpenSpec.upto fnExactSynAckSpec)

end Rows
end Go.Proofs.Ytbikbonhcfbmeaa
