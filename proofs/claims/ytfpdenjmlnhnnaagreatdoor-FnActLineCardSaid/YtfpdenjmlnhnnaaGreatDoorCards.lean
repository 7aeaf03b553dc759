/-
  DERIVED. GIVEN WITH THE SEED: THE CARDS: each row of YtfpdenjmlnhnnaaGreatDoorRows.lean that lists a variable, with what it lists TIED to the program's text (the seventh form; the later family's looks); each row that meets fmt, with fmt's text TOLD by the authors' own Lean function (tested against real Go, not proved from fmt's source: count such statements apart). THE CARD IS WHAT COUNTS. Prove the row's statement (the work); the ties are given (YtfpdenjmlnhnnaaGreatDoorTie.lean); close each card by the builder's one call (the guide's Derived/Test/ToyasCard.lean, 'card_holds'). Laid BY PROGRAM, IN A SANDBOX (cutbox-door.mjs). By AI agents, Wed Nov 11 2026. No macro, syntax, notation, axiom, sorry.
-/
import Derived.Test.YtfpdenjmlnhnnaaGreatDoorRows
import GoSem.ClaimSeven
namespace Go.Proofs.YtfpdenjmlnhnnaaGreatDoor
namespace Rows

/-- THE TIED CARD OF 'laws.FnActLine'. -/
def fnActLineCard : Claim7 := { stood := { row := fnActLineRow, standIns := [], harness := (true, "36b73a6977f49924e891380dd2c34ef512716c1372460d577a63ced3171d0da9"), looks := false }, kinds := [], alts := [], laidByText := true, laidKinds := [.data, .data, .data], laidTests := true, laidLooks := .later }
def FnActLineCardSaid : Prop := Claim7.holds Tryz.pinned (.plain (OpenSpec.ofChange fnActLineSpec)) fnActLineCard

/-- THE TIED CARD OF 'laws.FnScript'. -/
def fnScriptCard : Claim7 := { stood := { row := fnScriptRow, standIns := [], harness := (true, "36b73a6977f49924e891380dd2c34ef512716c1372460d577a63ced3171d0da9"), looks := false }, kinds := [], alts := [], laidByText := true, laidKinds := [.data, .data, .data], laidTests := true, laidLooks := .later }
def FnScriptCardSaid : Prop := Claim7.holds Tryz.pinned (.plain (OpenSpec.ofChange fnScriptSpec)) fnScriptCard

/-- THE SECOND FORM's CARD OF 'laws.FnActLine'. -/
def fnActLineUptoCard : Claim7 := { stood := { row := fnActLineUptoRow, standIns := [], harness := (true, "36b73a6977f49924e891380dd2c34ef512716c1372460d577a63ced3171d0da9"), looks := false }, kinds := [], alts := [], laidByText := true, laidKinds := [.data, .data, .data], laidTests := true, laidLooks := .later }
def FnActLineUptoCardSaid : Prop := Claim7.holds Tryz.pinned (.plain (OpenSpec.upto fnActLineSpec)) fnActLineUptoCard

/-- THE SECOND FORM's CARD OF 'laws.FnScript'. -/
def fnScriptUptoCard : Claim7 := { stood := { row := fnScriptUptoRow, standIns := [], harness := (true, "36b73a6977f49924e891380dd2c34ef512716c1372460d577a63ced3171d0da9"), looks := false }, kinds := [], alts := [], laidByText := true, laidKinds := [.data, .data, .data], laidTests := true, laidLooks := .later }
def FnScriptUptoCardSaid : Prop := Claim7.holds Tryz.pinned (.plain (OpenSpec.upto fnScriptSpec)) fnScriptUptoCard
end Rows
end Go.Proofs.YtfpdenjmlnhnnaaGreatDoor
