/-
  DERIVED. GIVEN WITH THE SEED: THE CARDS: each row of YtibeeohnjabhkaaGreatDoorRows.lean that lists a variable, with what it lists TIED to the program's text (the seventh form; the later family's looks); each row that meets fmt, with fmt's text TOLD by the authors' own Lean function (tested against real Go, not proved from fmt's source: count such statements apart). THE CARD IS WHAT COUNTS. Prove the row's statement (the work); the ties are given (YtibeeohnjabhkaaGreatDoorTie.lean); close each card by the builder's one call (the guide's Derived/Test/ToyasCard.lean, 'card_holds'). Laid BY PROGRAM, IN A SANDBOX (cutbox-door.mjs). By AI agents, Wed Nov 11 2026. No macro, syntax, notation, axiom, sorry.
-/
import Derived.Test.YtibeeohnjabhkaaGreatDoorRows
import GoSem.ClaimSeven
namespace Go.Proofs.YtibeeohnjabhkaaGreatDoor
namespace Rows

/-- THE TIED CARD OF 'laws.FnLexRun'. -/
def fnLexRunCard : Claim7 := { stood := { row := fnLexRunRow, standIns := [], harness := (true, "69857ebad04febc4f4cd28b61d65bee8293fd792119b0c484c818cb11f9a8bc0"), looks := false }, kinds := [], alts := [], laidByText := true, laidKinds := [.data, .data, .data], laidTests := true, laidLooks := .later }
def FnLexRunCardSaid : Prop := Claim7.holds Tryz.pinned (.plain (OpenSpec.ofChange fnLexRunSpec)) fnLexRunCard

/-- THE TIED CARD OF 'laws.FnLexSame'. -/
def fnLexSameCard : Claim7 := { stood := { row := fnLexSameRow, standIns := [], harness := (true, "69857ebad04febc4f4cd28b61d65bee8293fd792119b0c484c818cb11f9a8bc0"), looks := false }, kinds := [], alts := [], laidByText := true, laidKinds := [.data, .data, .data], laidTests := true, laidLooks := .later }
def FnLexSameCardSaid : Prop := Claim7.holds Tryz.pinned (.plain (OpenSpec.ofChange fnLexSameSpec)) fnLexSameCard

/-- THE SECOND FORM's CARD OF 'laws.FnLexRun'. -/
def fnLexRunUptoCard : Claim7 := { stood := { row := fnLexRunUptoRow, standIns := [], harness := (true, "69857ebad04febc4f4cd28b61d65bee8293fd792119b0c484c818cb11f9a8bc0"), looks := false }, kinds := [], alts := [], laidByText := true, laidKinds := [.data, .data, .data], laidTests := true, laidLooks := .later }
def FnLexRunUptoCardSaid : Prop := Claim7.holds Tryz.pinned (.plain (OpenSpec.upto fnLexRunSpec)) fnLexRunUptoCard

/-- THE SECOND FORM's CARD OF 'laws.FnLexSame'. -/
def fnLexSameUptoCard : Claim7 := { stood := { row := fnLexSameUptoRow, standIns := [], harness := (true, "69857ebad04febc4f4cd28b61d65bee8293fd792119b0c484c818cb11f9a8bc0"), looks := false }, kinds := [], alts := [], laidByText := true, laidKinds := [.data, .data, .data], laidTests := true, laidLooks := .later }
def FnLexSameUptoCardSaid : Prop := Claim7.holds Tryz.pinned (.plain (OpenSpec.upto fnLexSameSpec)) fnLexSameUptoCard
end Rows
end Go.Proofs.YtibeeohnjabhkaaGreatDoor
