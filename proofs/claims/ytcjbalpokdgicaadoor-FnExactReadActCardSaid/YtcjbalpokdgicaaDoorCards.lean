/-
  DERIVED. GIVEN WITH THE SEED: THE CARDS: each row of YtcjbalpokdgicaaDoorRows.lean that lists a variable, with what it lists TIED to the program's text (the seventh form; the later family's looks); each row that meets fmt, with fmt's text TOLD by the authors' own Lean function (tested against real Go, not proved from fmt's source: count such statements apart). THE CARD IS WHAT COUNTS. Prove the row's statement (the work); the ties are given (YtcjbalpokdgicaaDoorTie.lean); close each card by the builder's one call (the guide's Derived/Test/ToyasCard.lean, 'card_holds'). Laid BY PROGRAM, IN A SANDBOX (cutbox-door.mjs). By AI agents, Wed Nov 11 2026. No macro, syntax, notation, axiom, sorry.
-/
import Derived.Test.YtcjbalpokdgicaaDoorRows
import GoSem.ClaimSeven
namespace Go.Proofs.YtcjbalpokdgicaaDoor
namespace Rows

/-- THE TIED CARD OF 'laws.FnExactTupleText'. -/
def fnExactTupleTextCard : Claim7 := { stood := { row := fnExactTupleTextRow, standIns := [], harness := (true, "79ba0ca11df7fc5eb94db7050fcb381e6320ceb2035f93f5159b7bf5e5f112e6"), looks := false }, kinds := [], alts := [], laidByText := true, laidKinds := [.data, .data, .data], laidTests := true, laidLooks := .later }
def FnExactTupleTextCardSaid : Prop := Claim7.holds Tryd.pinned (.plain (OpenSpec.ofChange fnExactTupleTextSpec)) fnExactTupleTextCard

/-- THE TIED CARD OF 'laws.FnExactActLine'. -/
def fnExactActLineCard : Claim7 := { stood := { row := fnExactActLineRow, standIns := [], harness := (true, "79ba0ca11df7fc5eb94db7050fcb381e6320ceb2035f93f5159b7bf5e5f112e6"), looks := false }, kinds := [], alts := [], laidByText := true, laidKinds := [.data, .data, .data], laidTests := true, laidLooks := .later }
def FnExactActLineCardSaid : Prop := Claim7.holds Tryd.pinned (.plain (OpenSpec.ofChange fnExactActLineSpec)) fnExactActLineCard

/-- THE TIED CARD OF 'laws.FnExactReadAct'. -/
def fnExactReadActCard : Claim7 := { stood := { row := fnExactReadActRow, standIns := [], harness := (true, "79ba0ca11df7fc5eb94db7050fcb381e6320ceb2035f93f5159b7bf5e5f112e6"), looks := false }, kinds := [], alts := [], laidByText := true, laidKinds := [.data, .data, .data], laidTests := true, laidLooks := .later }
def FnExactReadActCardSaid : Prop := Claim7.holds Tryd.pinned (.plain (OpenSpec.ofChange fnExactReadActSpec)) fnExactReadActCard

/-- THE TIED CARD OF 'laws.FnExactScriptText'. -/
def fnExactScriptTextCard : Claim7 := { stood := { row := fnExactScriptTextRow, standIns := [], harness := (true, "79ba0ca11df7fc5eb94db7050fcb381e6320ceb2035f93f5159b7bf5e5f112e6"), looks := false }, kinds := [], alts := [], laidByText := true, laidKinds := [.data, .data, .data], laidTests := true, laidLooks := .later }
def FnExactScriptTextCardSaid : Prop := Claim7.holds Tryd.pinned (.plain (OpenSpec.ofChange fnExactScriptTextSpec)) fnExactScriptTextCard

/-- THE TIED CARD OF 'laws.FnExactReadScript'. -/
def fnExactReadScriptCard : Claim7 := { stood := { row := fnExactReadScriptRow, standIns := [], harness := (true, "79ba0ca11df7fc5eb94db7050fcb381e6320ceb2035f93f5159b7bf5e5f112e6"), looks := false }, kinds := [], alts := [], laidByText := true, laidKinds := [.data, .data, .data], laidTests := true, laidLooks := .later }
def FnExactReadScriptCardSaid : Prop := Claim7.holds Tryd.pinned (.plain (OpenSpec.ofChange fnExactReadScriptSpec)) fnExactReadScriptCard

/-- THE SECOND FORM's CARD OF 'laws.FnExactTupleText'. -/
def fnExactTupleTextUptoCard : Claim7 := { stood := { row := fnExactTupleTextUptoRow, standIns := [], harness := (true, "79ba0ca11df7fc5eb94db7050fcb381e6320ceb2035f93f5159b7bf5e5f112e6"), looks := false }, kinds := [], alts := [], laidByText := true, laidKinds := [.data, .data, .data], laidTests := true, laidLooks := .later }
def FnExactTupleTextUptoCardSaid : Prop := Claim7.holds Tryd.pinned (.plain (OpenSpec.upto fnExactTupleTextSpec)) fnExactTupleTextUptoCard

/-- THE SECOND FORM's CARD OF 'laws.FnExactActLine'. -/
def fnExactActLineUptoCard : Claim7 := { stood := { row := fnExactActLineUptoRow, standIns := [], harness := (true, "79ba0ca11df7fc5eb94db7050fcb381e6320ceb2035f93f5159b7bf5e5f112e6"), looks := false }, kinds := [], alts := [], laidByText := true, laidKinds := [.data, .data, .data], laidTests := true, laidLooks := .later }
def FnExactActLineUptoCardSaid : Prop := Claim7.holds Tryd.pinned (.plain (OpenSpec.upto fnExactActLineSpec)) fnExactActLineUptoCard

/-- THE SECOND FORM's CARD OF 'laws.FnExactReadAct'. -/
def fnExactReadActUptoCard : Claim7 := { stood := { row := fnExactReadActUptoRow, standIns := [], harness := (true, "79ba0ca11df7fc5eb94db7050fcb381e6320ceb2035f93f5159b7bf5e5f112e6"), looks := false }, kinds := [], alts := [], laidByText := true, laidKinds := [.data, .data, .data], laidTests := true, laidLooks := .later }
def FnExactReadActUptoCardSaid : Prop := Claim7.holds Tryd.pinned (.plain (OpenSpec.upto fnExactReadActSpec)) fnExactReadActUptoCard

/-- THE SECOND FORM's CARD OF 'laws.FnExactScriptText'. -/
def fnExactScriptTextUptoCard : Claim7 := { stood := { row := fnExactScriptTextUptoRow, standIns := [], harness := (true, "79ba0ca11df7fc5eb94db7050fcb381e6320ceb2035f93f5159b7bf5e5f112e6"), looks := false }, kinds := [], alts := [], laidByText := true, laidKinds := [.data, .data, .data], laidTests := true, laidLooks := .later }
def FnExactScriptTextUptoCardSaid : Prop := Claim7.holds Tryd.pinned (.plain (OpenSpec.upto fnExactScriptTextSpec)) fnExactScriptTextUptoCard

/-- THE SECOND FORM's CARD OF 'laws.FnExactReadScript'. -/
def fnExactReadScriptUptoCard : Claim7 := { stood := { row := fnExactReadScriptUptoRow, standIns := [], harness := (true, "79ba0ca11df7fc5eb94db7050fcb381e6320ceb2035f93f5159b7bf5e5f112e6"), looks := false }, kinds := [], alts := [], laidByText := true, laidKinds := [.data, .data, .data], laidTests := true, laidLooks := .later }
def FnExactReadScriptUptoCardSaid : Prop := Claim7.holds Tryd.pinned (.plain (OpenSpec.upto fnExactReadScriptSpec)) fnExactReadScriptUptoCard
end Rows
end Go.Proofs.YtcjbalpokdgicaaDoor
