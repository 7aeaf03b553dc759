/-
  No cell of these rows narrows 'for every input' (looked for: loops, veiled, ifaces, maps, wideKeys, modest, calm, conditions, laid).
  DERIVED. THE GIVEN ROWS OF THIS SEAT. 6 by the template 'for every input the law returns true; each argument reads behind the call as it read before'; 0 by the template 'total and deterministic' (their statements: YtjejapbinelgeaaGreatTotals.lean).
  GIVEN WITH THE SEED: the statements are not yours to turn. If you find one false, say at which input.
  Laid BY PROGRAM, IN A SANDBOX (cutbox-rows.mjs): the forced cells as the released guide's own fill.sh prints them over the translation c596d92cabd44683… (all of the seat's roots in one cut). By AI agents, Wed Nov 11 2026. No macro, syntax, notation, axiom, sorry.
-/
import Derived.Test.YtjejapbinelgeaaGreatChecked
import GoSem.Claim
import GoSem.ClaimJoined
import GoSem.ClaimMapViews
import Derived.JoinedTies
import Derived.KernelRfl
namespace Go.Proofs.YtjejapbinelgeaaGreat
/- THE CELL 'sum', in the pinned program and in every row, IS THE sha256 OF THE DUMP (.gsa) THAT YtjejapbinelgeaaGreatProg.lean LOADS. Nothing in Lean hashes anything: it is a label: what it is worth is what the hold of that sum in a sandbox is worth. -/
noncomputable def Tryz.pinned : Pinned := { name := "ytjejapbinelgeaagreat", sum := "c596d92cabd44683c2057a940696119058fa8d9fc7547b59a6ceb6e1c2208f10", checked := Tryz.checked }
namespace Rows
def none {H : Type} : Left H := { results := [], args := [] }

/-- 'laws.FnAckIn': WHATEVER THE INPUT: true; the input reads as it did. -/
def fnAckInSpec : ChangeSpec := { name := "fnAckIn", fn := fun _ => fun
  | [d] => { results := [.lit (.bool true)], args := [d] }
  | _ => none }
def fnAckInRow : OpenClaim := { program := "ytjejapbinelgeaagreat", sum := "c596d92cabd44683c2057a940696119058fa8d9fc7547b59a6ceb6e1c2208f10", func := "loop.example/g00504/laws.FnAckIn", spec := "fnAckIn", unfollowed := true, recurses := true, apart := false }
def FnAckInSaid : Prop := fnAckInRow.holds Tryz.pinned (OpenSpec.ofChange fnAckInSpec)

/-- ITS FALSE NEIGHBOUR: 'it returns false'. Refute it at one input. -/
def fnAckInWrong : ChangeSpec := { name := "fnAckIn", fn := fun _ => fun
  | [d] => { results := [.lit (.bool false)], args := [d] }
  | _ => none }
def FnAckInWrongFalsely : Prop := fnAckInRow.holds Tryz.pinned (OpenSpec.ofChange fnAckInWrong)

/-- 'laws.FnSegIn': WHATEVER THE INPUT: true; the input reads as it did. -/
def fnSegInSpec : ChangeSpec := { name := "fnSegIn", fn := fun _ => fun
  | [d] => { results := [.lit (.bool true)], args := [d] }
  | _ => none }
def fnSegInRow : OpenClaim := { program := "ytjejapbinelgeaagreat", sum := "c596d92cabd44683c2057a940696119058fa8d9fc7547b59a6ceb6e1c2208f10", func := "loop.example/g00504/laws.FnSegIn", spec := "fnSegIn", unfollowed := true, recurses := true, apart := false }
def FnSegInSaid : Prop := fnSegInRow.holds Tryz.pinned (OpenSpec.ofChange fnSegInSpec)

/-- ITS FALSE NEIGHBOUR: 'it returns false'. Refute it at one input. -/
def fnSegInWrong : ChangeSpec := { name := "fnSegIn", fn := fun _ => fun
  | [d] => { results := [.lit (.bool false)], args := [d] }
  | _ => none }
def FnSegInWrongFalsely : Prop := fnSegInRow.holds Tryz.pinned (OpenSpec.ofChange fnSegInWrong)

/-- 'laws.FnTickStack': WHATEVER THE INPUT: true; the input reads as it did. -/
def fnTickStackSpec : ChangeSpec := { name := "fnTickStack", fn := fun _ => fun
  | [d] => { results := [.lit (.bool true)], args := [d] }
  | _ => none }
def fnTickStackRow : OpenClaim := { program := "ytjejapbinelgeaagreat", sum := "c596d92cabd44683c2057a940696119058fa8d9fc7547b59a6ceb6e1c2208f10", func := "loop.example/g00504/laws.FnTickStack", spec := "fnTickStack", unfollowed := true, recurses := true, apart := false }
def FnTickStackSaid : Prop := fnTickStackRow.holds Tryz.pinned (OpenSpec.ofChange fnTickStackSpec)

/-- ITS FALSE NEIGHBOUR: 'it returns false'. Refute it at one input. -/
def fnTickStackWrong : ChangeSpec := { name := "fnTickStack", fn := fun _ => fun
  | [d] => { results := [.lit (.bool false)], args := [d] }
  | _ => none }
def FnTickStackWrongFalsely : Prop := fnTickStackRow.holds Tryz.pinned (OpenSpec.ofChange fnTickStackWrong)

/-- 'laws.FnChallenges': WHATEVER THE INPUT: true; the input reads as it did. -/
def fnChallengesSpec : ChangeSpec := { name := "fnChallenges", fn := fun _ => fun
  | [d] => { results := [.lit (.bool true)], args := [d] }
  | _ => none }
def fnChallengesRow : OpenClaim := { program := "ytjejapbinelgeaagreat", sum := "c596d92cabd44683c2057a940696119058fa8d9fc7547b59a6ceb6e1c2208f10", func := "loop.example/g00504/laws.FnChallenges", spec := "fnChallenges", unfollowed := true, recurses := true, apart := false }
def FnChallengesSaid : Prop := fnChallengesRow.holds Tryz.pinned (OpenSpec.ofChange fnChallengesSpec)

/-- ITS FALSE NEIGHBOUR: 'it returns false'. Refute it at one input. -/
def fnChallengesWrong : ChangeSpec := { name := "fnChallenges", fn := fun _ => fun
  | [d] => { results := [.lit (.bool false)], args := [d] }
  | _ => none }
def FnChallengesWrongFalsely : Prop := fnChallengesRow.holds Tryz.pinned (OpenSpec.ofChange fnChallengesWrong)

/-- 'laws.FnApart': WHATEVER THE INPUT: true; the input reads as it did. -/
def fnApartSpec : ChangeSpec := { name := "fnApart", fn := fun _ => fun
  | [d] => { results := [.lit (.bool true)], args := [d] }
  | _ => none }
def fnApartRow : OpenClaim := { program := "ytjejapbinelgeaagreat", sum := "c596d92cabd44683c2057a940696119058fa8d9fc7547b59a6ceb6e1c2208f10", func := "loop.example/g00504/laws.FnApart", spec := "fnApart", unfollowed := true, recurses := true, apart := false }
def FnApartSaid : Prop := fnApartRow.holds Tryz.pinned (OpenSpec.ofChange fnApartSpec)

/-- ITS FALSE NEIGHBOUR: 'it returns false'. Refute it at one input. -/
def fnApartWrong : ChangeSpec := { name := "fnApart", fn := fun _ => fun
  | [d] => { results := [.lit (.bool false)], args := [d] }
  | _ => none }
def FnApartWrongFalsely : Prop := fnApartRow.holds Tryz.pinned (OpenSpec.ofChange fnApartWrong)

/-- 'laws.FnReset': WHATEVER THE INPUT: true; the input reads as it did. -/
def fnResetSpec : ChangeSpec := { name := "fnReset", fn := fun _ => fun
  | [d] => { results := [.lit (.bool true)], args := [d] }
  | _ => none }
def fnResetRow : OpenClaim := { program := "ytjejapbinelgeaagreat", sum := "c596d92cabd44683c2057a940696119058fa8d9fc7547b59a6ceb6e1c2208f10", func := "loop.example/g00504/laws.FnReset", spec := "fnReset", unfollowed := true, recurses := true, apart := false }
def FnResetSaid : Prop := fnResetRow.holds Tryz.pinned (OpenSpec.ofChange fnResetSpec)

/-- ITS FALSE NEIGHBOUR: 'it returns false'. Refute it at one input. -/
def fnResetWrong : ChangeSpec := { name := "fnReset", fn := fun _ => fun
  | [d] => { results := [.lit (.bool false)], args := [d] }
  | _ => none }
def FnResetWrongFalsely : Prop := fnResetRow.holds Tryz.pinned (OpenSpec.ofChange fnResetWrong)

/- THE SECOND FORM. 'bulk': how many values and letters a reading holds, each counted each time it is reached (what is shared counts as often as it is met; a slice's spare places count too). A statement '..UptoSaid' is the law's where the arguments, and the package variables that the reading takes, are together of bulk at most 1048576: NARROWER than '..Said'. Prove '..Said' where nothing that the law and all that it calls make is longer than what came in: it says more and counts as full. Else prove '..UptoSaid'. A law counts once. -/
mutual
def uptoBulk {H : Type} : DataW H → Nat
  | .lit (.string bytes) => bytes.length + 1
  | .lit _ => 1
  | .nil => 1
  | .ptr d => uptoBulk d + 1
  | .slice elems spare => uptoBulkAll elems + uptoBulkAll spare + 1
  | .agg parts => uptoBulkAll parts + 1
  | .iface _ d => uptoBulk d + 1
  | .map entries => uptoBulkEntries entries + 1
  | .held _ => 1
def uptoBulkAll {H : Type} : List (DataW H) → Nat
  | [] => 0
  | d :: r => uptoBulk d + uptoBulkAll r
def uptoBulkEntries {H : Type} : List (Lit × DataW H) → Nat
  | [] => 0
  | x :: r => uptoBulkEntry x + uptoBulkEntries r
def uptoBulkEntry {H : Type} : Lit × DataW H → Nat
  | (.string bytes, d) => bytes.length + uptoBulk d + 1
  | (_, d) => uptoBulk d + 1
 end
def uptoSmall : (H : Type) → List (DataW H) → Bool := fun _ ds => decide (uptoBulkAll ds ≤ 1048576)
def OpenSpec.upto (s : _root_.Go.ChangeSpec) : _root_.Go.OpenSpec := { _root_.Go.OpenSpec.ofChange s with cond := some uptoSmall }

/-- 'laws.FnAckIn', WHERE WHAT IT READS IS OF BULK AT MOST 1048576: true; the input reads as it did. -/
def fnAckInUptoRow : OpenClaim := { program := "ytjejapbinelgeaagreat", sum := "c596d92cabd44683c2057a940696119058fa8d9fc7547b59a6ceb6e1c2208f10", func := "loop.example/g00504/laws.FnAckIn", spec := "fnAckIn", unfollowed := true, recurses := true, apart := false, narrowed := true }
def FnAckInUptoSaid : Prop := fnAckInUptoRow.holds Tryz.pinned (OpenSpec.upto fnAckInSpec)

/-- 'laws.FnSegIn', WHERE WHAT IT READS IS OF BULK AT MOST 1048576: true; the input reads as it did. -/
def fnSegInUptoRow : OpenClaim := { program := "ytjejapbinelgeaagreat", sum := "c596d92cabd44683c2057a940696119058fa8d9fc7547b59a6ceb6e1c2208f10", func := "loop.example/g00504/laws.FnSegIn", spec := "fnSegIn", unfollowed := true, recurses := true, apart := false, narrowed := true }
def FnSegInUptoSaid : Prop := fnSegInUptoRow.holds Tryz.pinned (OpenSpec.upto fnSegInSpec)

/-- 'laws.FnTickStack', WHERE WHAT IT READS IS OF BULK AT MOST 1048576: true; the input reads as it did. -/
def fnTickStackUptoRow : OpenClaim := { program := "ytjejapbinelgeaagreat", sum := "c596d92cabd44683c2057a940696119058fa8d9fc7547b59a6ceb6e1c2208f10", func := "loop.example/g00504/laws.FnTickStack", spec := "fnTickStack", unfollowed := true, recurses := true, apart := false, narrowed := true }
def FnTickStackUptoSaid : Prop := fnTickStackUptoRow.holds Tryz.pinned (OpenSpec.upto fnTickStackSpec)

/-- 'laws.FnChallenges', WHERE WHAT IT READS IS OF BULK AT MOST 1048576: true; the input reads as it did. -/
def fnChallengesUptoRow : OpenClaim := { program := "ytjejapbinelgeaagreat", sum := "c596d92cabd44683c2057a940696119058fa8d9fc7547b59a6ceb6e1c2208f10", func := "loop.example/g00504/laws.FnChallenges", spec := "fnChallenges", unfollowed := true, recurses := true, apart := false, narrowed := true }
def FnChallengesUptoSaid : Prop := fnChallengesUptoRow.holds Tryz.pinned (OpenSpec.upto fnChallengesSpec)

/-- 'laws.FnApart', WHERE WHAT IT READS IS OF BULK AT MOST 1048576: true; the input reads as it did. -/
def fnApartUptoRow : OpenClaim := { program := "ytjejapbinelgeaagreat", sum := "c596d92cabd44683c2057a940696119058fa8d9fc7547b59a6ceb6e1c2208f10", func := "loop.example/g00504/laws.FnApart", spec := "fnApart", unfollowed := true, recurses := true, apart := false, narrowed := true }
def FnApartUptoSaid : Prop := fnApartUptoRow.holds Tryz.pinned (OpenSpec.upto fnApartSpec)

/-- 'laws.FnReset', WHERE WHAT IT READS IS OF BULK AT MOST 1048576: true; the input reads as it did. -/
def fnResetUptoRow : OpenClaim := { program := "ytjejapbinelgeaagreat", sum := "c596d92cabd44683c2057a940696119058fa8d9fc7547b59a6ceb6e1c2208f10", func := "loop.example/g00504/laws.FnReset", spec := "fnReset", unfollowed := true, recurses := true, apart := false, narrowed := true }
def FnResetUptoSaid : Prop := fnResetUptoRow.holds Tryz.pinned (OpenSpec.upto fnResetSpec)

end Rows
end Go.Proofs.YtjejapbinelgeaaGreat
