/-
  DERIVED. GIVEN WITH THE SEED: THE CARDS: each row of YtdomnlnanbekaaaGreatDoorRows.lean that lists a variable, with what it lists TIED to the program's text (the seventh form; the later family's looks); each row that meets fmt, with fmt's text TOLD by the authors' own Lean function (tested against real Go, not proved from fmt's source: count such statements apart). THE CARD IS WHAT COUNTS. Prove the row's statement (the work); the ties are given (YtdomnlnanbekaaaGreatDoorTie.lean); close each card by the builder's one call (the guide's Derived/Test/ToyasCard.lean, 'card_holds'). Laid BY PROGRAM, IN A SANDBOX (cutbox-door.mjs). By AI agents, Wed Nov 11 2026. No macro, syntax, notation, axiom, sorry.
-/
import Derived.Test.YtdomnlnanbekaaaGreatDoorRows
import GoSem.ClaimSeven
namespace Go.Proofs.YtdomnlnanbekaaaGreatDoor
namespace Rows

/-- THE TIED CARD OF 'laws.FnDfaReach'. -/
def fnDfaReachCard : Claim7 := { stood := { row := fnDfaReachRow, standIns := [], harness := (true, "93361a82d4b814a351381d9297464e7347b715fda4119bf449e6904e298fdbe3"), looks := false }, kinds := [], alts := [], laidByText := true, laidKinds := [.data, .data, .data], laidTests := true, laidLooks := .later }
def FnDfaReachCardSaid : Prop := Claim7.holds Tryz.pinned (.plain (OpenSpec.ofChange fnDfaReachSpec)) fnDfaReachCard

/-- THE TIED CARD OF 'laws.FnExactDfaOf'. -/
def fnExactDfaOfCard : Claim7 := { stood := { row := fnExactDfaOfRow, standIns := [], harness := (true, "93361a82d4b814a351381d9297464e7347b715fda4119bf449e6904e298fdbe3"), looks := false }, kinds := [], alts := [], laidByText := true, laidKinds := [.data, .data, .data], laidTests := true, laidLooks := .later }
def FnExactDfaOfCardSaid : Prop := Claim7.holds Tryz.pinned (.plain (OpenSpec.ofChange fnExactDfaOfSpec)) fnExactDfaOfCard

/-- THE TIED CARD OF 'laws.FnLeastRules'. -/
def fnLeastRulesCard : Claim7 := { stood := { row := fnLeastRulesRow, standIns := [], harness := (true, "93361a82d4b814a351381d9297464e7347b715fda4119bf449e6904e298fdbe3"), looks := false }, kinds := [], alts := [], laidByText := true, laidKinds := [.data, .data, .data], laidTests := true, laidLooks := .later }
def FnLeastRulesCardSaid : Prop := Claim7.holds Tryz.pinned (.plain (OpenSpec.ofChange fnLeastRulesSpec)) fnLeastRulesCard

/-- THE TIED CARD OF 'laws.FnDeriv'. -/
def fnDerivCard : Claim7 := { stood := { row := fnDerivRow, standIns := [], harness := (true, "93361a82d4b814a351381d9297464e7347b715fda4119bf449e6904e298fdbe3"), looks := false }, kinds := [], alts := [], laidByText := true, laidKinds := [.data, .data, .data], laidTests := true, laidLooks := .later }
def FnDerivCardSaid : Prop := Claim7.holds Tryz.pinned (.plain (OpenSpec.ofChange fnDerivSpec)) fnDerivCard

/-- THE TIED CARD OF 'laws.FnDerivText'. -/
def fnDerivTextCard : Claim7 := { stood := { row := fnDerivTextRow, standIns := [], harness := (true, "93361a82d4b814a351381d9297464e7347b715fda4119bf449e6904e298fdbe3"), looks := false }, kinds := [], alts := [], laidByText := true, laidKinds := [.data, .data, .data], laidTests := true, laidLooks := .later }
def FnDerivTextCardSaid : Prop := Claim7.holds Tryz.pinned (.plain (OpenSpec.ofChange fnDerivTextSpec)) fnDerivTextCard

/-- THE TIED CARD OF 'laws.FnDerivAll'. -/
def fnDerivAllCard : Claim7 := { stood := { row := fnDerivAllRow, standIns := [], harness := (true, "93361a82d4b814a351381d9297464e7347b715fda4119bf449e6904e298fdbe3"), looks := false }, kinds := [], alts := [], laidByText := true, laidKinds := [.data, .data, .data], laidTests := true, laidLooks := .later }
def FnDerivAllCardSaid : Prop := Claim7.holds Tryz.pinned (.plain (OpenSpec.ofChange fnDerivAllSpec)) fnDerivAllCard

/-- THE TIED CARD OF 'laws.FnExactDerivAll'. -/
def fnExactDerivAllCard : Claim7 := { stood := { row := fnExactDerivAllRow, standIns := [], harness := (true, "93361a82d4b814a351381d9297464e7347b715fda4119bf449e6904e298fdbe3"), looks := false }, kinds := [], alts := [], laidByText := true, laidKinds := [.data, .data, .data], laidTests := true, laidLooks := .later }
def FnExactDerivAllCardSaid : Prop := Claim7.holds Tryz.pinned (.plain (OpenSpec.ofChange fnExactDerivAllSpec)) fnExactDerivAllCard

/-- THE TIED CARD OF 'laws.FnLex'. -/
def fnLexCard : Claim7 := { stood := { row := fnLexRow, standIns := [], harness := (true, "93361a82d4b814a351381d9297464e7347b715fda4119bf449e6904e298fdbe3"), looks := false }, kinds := [], alts := [], laidByText := true, laidKinds := [.data, .data, .data], laidTests := true, laidLooks := .later }
def FnLexCardSaid : Prop := Claim7.holds Tryz.pinned (.plain (OpenSpec.ofChange fnLexSpec)) fnLexCard

/-- THE TIED CARD OF 'laws.FnDfa'. -/
def fnDfaCard : Claim7 := { stood := { row := fnDfaRow, standIns := [], harness := (true, "93361a82d4b814a351381d9297464e7347b715fda4119bf449e6904e298fdbe3"), looks := false }, kinds := [], alts := [], laidByText := true, laidKinds := [.data, .data, .data], laidTests := true, laidLooks := .later }
def FnDfaCardSaid : Prop := Claim7.holds Tryz.pinned (.plain (OpenSpec.ofChange fnDfaSpec)) fnDfaCard

/-- THE SECOND FORM's CARD OF 'laws.FnDfaReach'. -/
def fnDfaReachUptoCard : Claim7 := { stood := { row := fnDfaReachUptoRow, standIns := [], harness := (true, "93361a82d4b814a351381d9297464e7347b715fda4119bf449e6904e298fdbe3"), looks := false }, kinds := [], alts := [], laidByText := true, laidKinds := [.data, .data, .data], laidTests := true, laidLooks := .later }
def FnDfaReachUptoCardSaid : Prop := Claim7.holds Tryz.pinned (.plain (OpenSpec.upto fnDfaReachSpec)) fnDfaReachUptoCard

/-- THE SECOND FORM's CARD OF 'laws.FnExactDfaOf'. -/
def fnExactDfaOfUptoCard : Claim7 := { stood := { row := fnExactDfaOfUptoRow, standIns := [], harness := (true, "93361a82d4b814a351381d9297464e7347b715fda4119bf449e6904e298fdbe3"), looks := false }, kinds := [], alts := [], laidByText := true, laidKinds := [.data, .data, .data], laidTests := true, laidLooks := .later }
def FnExactDfaOfUptoCardSaid : Prop := Claim7.holds Tryz.pinned (.plain (OpenSpec.upto fnExactDfaOfSpec)) fnExactDfaOfUptoCard

/-- THE SECOND FORM's CARD OF 'laws.FnLeastRules'. -/
def fnLeastRulesUptoCard : Claim7 := { stood := { row := fnLeastRulesUptoRow, standIns := [], harness := (true, "93361a82d4b814a351381d9297464e7347b715fda4119bf449e6904e298fdbe3"), looks := false }, kinds := [], alts := [], laidByText := true, laidKinds := [.data, .data, .data], laidTests := true, laidLooks := .later }
def FnLeastRulesUptoCardSaid : Prop := Claim7.holds Tryz.pinned (.plain (OpenSpec.upto fnLeastRulesSpec)) fnLeastRulesUptoCard

/-- THE SECOND FORM's CARD OF 'laws.FnDeriv'. -/
def fnDerivUptoCard : Claim7 := { stood := { row := fnDerivUptoRow, standIns := [], harness := (true, "93361a82d4b814a351381d9297464e7347b715fda4119bf449e6904e298fdbe3"), looks := false }, kinds := [], alts := [], laidByText := true, laidKinds := [.data, .data, .data], laidTests := true, laidLooks := .later }
def FnDerivUptoCardSaid : Prop := Claim7.holds Tryz.pinned (.plain (OpenSpec.upto fnDerivSpec)) fnDerivUptoCard

/-- THE SECOND FORM's CARD OF 'laws.FnDerivText'. -/
def fnDerivTextUptoCard : Claim7 := { stood := { row := fnDerivTextUptoRow, standIns := [], harness := (true, "93361a82d4b814a351381d9297464e7347b715fda4119bf449e6904e298fdbe3"), looks := false }, kinds := [], alts := [], laidByText := true, laidKinds := [.data, .data, .data], laidTests := true, laidLooks := .later }
def FnDerivTextUptoCardSaid : Prop := Claim7.holds Tryz.pinned (.plain (OpenSpec.upto fnDerivTextSpec)) fnDerivTextUptoCard

/-- THE SECOND FORM's CARD OF 'laws.FnDerivAll'. -/
def fnDerivAllUptoCard : Claim7 := { stood := { row := fnDerivAllUptoRow, standIns := [], harness := (true, "93361a82d4b814a351381d9297464e7347b715fda4119bf449e6904e298fdbe3"), looks := false }, kinds := [], alts := [], laidByText := true, laidKinds := [.data, .data, .data], laidTests := true, laidLooks := .later }
def FnDerivAllUptoCardSaid : Prop := Claim7.holds Tryz.pinned (.plain (OpenSpec.upto fnDerivAllSpec)) fnDerivAllUptoCard

/-- THE SECOND FORM's CARD OF 'laws.FnExactDerivAll'. -/
def fnExactDerivAllUptoCard : Claim7 := { stood := { row := fnExactDerivAllUptoRow, standIns := [], harness := (true, "93361a82d4b814a351381d9297464e7347b715fda4119bf449e6904e298fdbe3"), looks := false }, kinds := [], alts := [], laidByText := true, laidKinds := [.data, .data, .data], laidTests := true, laidLooks := .later }
def FnExactDerivAllUptoCardSaid : Prop := Claim7.holds Tryz.pinned (.plain (OpenSpec.upto fnExactDerivAllSpec)) fnExactDerivAllUptoCard

/-- THE SECOND FORM's CARD OF 'laws.FnLex'. -/
def fnLexUptoCard : Claim7 := { stood := { row := fnLexUptoRow, standIns := [], harness := (true, "93361a82d4b814a351381d9297464e7347b715fda4119bf449e6904e298fdbe3"), looks := false }, kinds := [], alts := [], laidByText := true, laidKinds := [.data, .data, .data], laidTests := true, laidLooks := .later }
def FnLexUptoCardSaid : Prop := Claim7.holds Tryz.pinned (.plain (OpenSpec.upto fnLexSpec)) fnLexUptoCard

/-- THE SECOND FORM's CARD OF 'laws.FnDfa'. -/
def fnDfaUptoCard : Claim7 := { stood := { row := fnDfaUptoRow, standIns := [], harness := (true, "93361a82d4b814a351381d9297464e7347b715fda4119bf449e6904e298fdbe3"), looks := false }, kinds := [], alts := [], laidByText := true, laidKinds := [.data, .data, .data], laidTests := true, laidLooks := .later }
def FnDfaUptoCardSaid : Prop := Claim7.holds Tryz.pinned (.plain (OpenSpec.upto fnDfaSpec)) fnDfaUptoCard
end Rows
end Go.Proofs.YtdomnlnanbekaaaGreatDoor
