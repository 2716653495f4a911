/-
  DERIVED. GIVEN WITH THE SEED: THE CARDS: each row of YtcjmocldhjfgoaaDoorRows.lean that lists a variable, with what it lists TIED to the program's text (the seventh form; the later family's looks); each row that meets fmt, with fmt's text TOLD by the authors' own Lean function (tested against real Go, not proved from fmt's source: count such statements apart). THE CARD IS WHAT COUNTS. Prove the row's statement (the work); the ties are given (YtcjmocldhjfgoaaDoorTie.lean); close each card by the builder's one call (the guide's Derived/Test/ToyasCard.lean, 'card_holds'). Laid BY PROGRAM, IN A SANDBOX (cutbox-door.mjs). By AI agents, Wed Nov 11 2026. No macro, syntax, notation, axiom, sorry.
-/
import Derived.Test.YtcjmocldhjfgoaaDoorRows
import GoSem.ClaimSeven
namespace Go.Proofs.YtcjmocldhjfgoaaDoor
namespace Rows

/-- THE TIED CARD OF 'laws.FnRuleWord'. -/
def fnRuleWordCard : Claim7 := { stood := { row := fnRuleWordRow, standIns := [], harness := (true, "2dda9e4eac101cfca506c12ce3b9ec3e47157e35a76265a83ae16d513d5ffe2d"), looks := false }, kinds := [], alts := [], laidByText := true, laidKinds := [.data, .data, .data], laidTests := true, laidLooks := .later }
def FnRuleWordCardSaid : Prop := Claim7.holds Tryd.pinned (.plain (OpenSpec.ofChange fnRuleWordSpec)) fnRuleWordCard

/-- THE SECOND FORM's CARD OF 'laws.FnRuleWord'. -/
def fnRuleWordUptoCard : Claim7 := { stood := { row := fnRuleWordUptoRow, standIns := [], harness := (true, "2dda9e4eac101cfca506c12ce3b9ec3e47157e35a76265a83ae16d513d5ffe2d"), looks := false }, kinds := [], alts := [], laidByText := true, laidKinds := [.data, .data, .data], laidTests := true, laidLooks := .later }
def FnRuleWordUptoCardSaid : Prop := Claim7.holds Tryd.pinned (.plain (OpenSpec.upto fnRuleWordSpec)) fnRuleWordUptoCard
end Rows
end Go.Proofs.YtcjmocldhjfgoaaDoor
