/-
  DERIVED. GIVEN WITH THE SEED: THE CARDS: each row of YtmpeolimleladaaDoorRows.lean that lists a variable, with what it lists TIED to the program's text (the seventh form; the later family's looks); each row that meets fmt, with fmt's text TOLD by the authors' own Lean function (tested against real Go, not proved from fmt's source: count such statements apart). THE CARD IS WHAT COUNTS. Prove the row's statement (the work); the ties are given (YtmpeolimleladaaDoorTie.lean); close each card by the builder's one call (the guide's Derived/Test/ToyasCard.lean, 'card_holds'). Laid BY PROGRAM, IN A SANDBOX (cutbox-door.mjs). By AI agents, Wed Nov 11 2026. No macro, syntax, notation, axiom, sorry.
-/
import Derived.Test.YtmpeolimleladaaDoorRows
import GoSem.ClaimSeven
namespace Go.Proofs.YtmpeolimleladaaDoor
namespace Rows

/-- THE TIED CARD OF 'laws.FnExactProgText'. -/
def fnExactProgTextCard : Claim7 := { stood := { row := fnExactProgTextRow, standIns := [], harness := (true, "59f11bb02ec5e92af1fdc05357cd02ca2cef9330d5453786106adf2184ea6d57"), looks := false }, kinds := [], alts := [], laidByText := true, laidKinds := [.data, .data, .data], laidTests := true, laidLooks := .later }
def FnExactProgTextCardSaid : Prop := Claim7.holds Tryd.pinned (.plain (OpenSpec.ofChange fnExactProgTextSpec)) fnExactProgTextCard

/-- THE TIED CARD OF 'laws.FnExactLexText'. -/
def fnExactLexTextCard : Claim7 := { stood := { row := fnExactLexTextRow, standIns := [], harness := (true, "59f11bb02ec5e92af1fdc05357cd02ca2cef9330d5453786106adf2184ea6d57"), looks := false }, kinds := [], alts := [], laidByText := true, laidKinds := [.data, .data, .data], laidTests := true, laidLooks := .later }
def FnExactLexTextCardSaid : Prop := Claim7.holds Tryd.pinned (.plain (OpenSpec.ofChange fnExactLexTextSpec)) fnExactLexTextCard

/-- THE TIED CARD OF 'laws.FnExactRulesText'. -/
def fnExactRulesTextCard : Claim7 := { stood := { row := fnExactRulesTextRow, standIns := [], harness := (true, "59f11bb02ec5e92af1fdc05357cd02ca2cef9330d5453786106adf2184ea6d57"), looks := false }, kinds := [], alts := [], laidByText := true, laidKinds := [.data, .data, .data], laidTests := true, laidLooks := .later }
def FnExactRulesTextCardSaid : Prop := Claim7.holds Tryd.pinned (.plain (OpenSpec.ofChange fnExactRulesTextSpec)) fnExactRulesTextCard

/-- THE TIED CARD OF 'laws.FnExactRulesRead'. -/
def fnExactRulesReadCard : Claim7 := { stood := { row := fnExactRulesReadRow, standIns := [], harness := (true, "59f11bb02ec5e92af1fdc05357cd02ca2cef9330d5453786106adf2184ea6d57"), looks := false }, kinds := [], alts := [], laidByText := true, laidKinds := [.data, .data, .data, .data, .pinned], laidTests := true, laidLooks := .later }
def FnExactRulesReadCardSaid : Prop := Claim7.holds Tryd.pinned (.plain (OpenSpec.ofChange fnExactRulesReadSpec)) fnExactRulesReadCard

/-- THE SECOND FORM's CARD OF 'laws.FnExactProgText'. -/
def fnExactProgTextUptoCard : Claim7 := { stood := { row := fnExactProgTextUptoRow, standIns := [], harness := (true, "59f11bb02ec5e92af1fdc05357cd02ca2cef9330d5453786106adf2184ea6d57"), looks := false }, kinds := [], alts := [], laidByText := true, laidKinds := [.data, .data, .data], laidTests := true, laidLooks := .later }
def FnExactProgTextUptoCardSaid : Prop := Claim7.holds Tryd.pinned (.plain (OpenSpec.upto fnExactProgTextSpec)) fnExactProgTextUptoCard

/-- THE SECOND FORM's CARD OF 'laws.FnExactLexText'. -/
def fnExactLexTextUptoCard : Claim7 := { stood := { row := fnExactLexTextUptoRow, standIns := [], harness := (true, "59f11bb02ec5e92af1fdc05357cd02ca2cef9330d5453786106adf2184ea6d57"), looks := false }, kinds := [], alts := [], laidByText := true, laidKinds := [.data, .data, .data], laidTests := true, laidLooks := .later }
def FnExactLexTextUptoCardSaid : Prop := Claim7.holds Tryd.pinned (.plain (OpenSpec.upto fnExactLexTextSpec)) fnExactLexTextUptoCard

/-- THE SECOND FORM's CARD OF 'laws.FnExactRulesText'. -/
def fnExactRulesTextUptoCard : Claim7 := { stood := { row := fnExactRulesTextUptoRow, standIns := [], harness := (true, "59f11bb02ec5e92af1fdc05357cd02ca2cef9330d5453786106adf2184ea6d57"), looks := false }, kinds := [], alts := [], laidByText := true, laidKinds := [.data, .data, .data], laidTests := true, laidLooks := .later }
def FnExactRulesTextUptoCardSaid : Prop := Claim7.holds Tryd.pinned (.plain (OpenSpec.upto fnExactRulesTextSpec)) fnExactRulesTextUptoCard

/-- THE SECOND FORM's CARD OF 'laws.FnExactRulesRead'. -/
def fnExactRulesReadUptoCard : Claim7 := { stood := { row := fnExactRulesReadUptoRow, standIns := [], harness := (true, "59f11bb02ec5e92af1fdc05357cd02ca2cef9330d5453786106adf2184ea6d57"), looks := false }, kinds := [], alts := [], laidByText := true, laidKinds := [.data, .data, .data, .data, .pinned], laidTests := true, laidLooks := .later }
def FnExactRulesReadUptoCardSaid : Prop := Claim7.holds Tryd.pinned (.plain (OpenSpec.upto fnExactRulesReadSpec)) fnExactRulesReadUptoCard
end Rows
end Go.Proofs.YtmpeolimleladaaDoor
