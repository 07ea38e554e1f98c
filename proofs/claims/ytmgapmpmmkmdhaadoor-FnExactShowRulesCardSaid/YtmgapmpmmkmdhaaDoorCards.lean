/-
  DERIVED. GIVEN WITH THE SEED: THE CARDS: each row of YtmgapmpmmkmdhaaDoorRows.lean that lists a variable, with what it lists TIED to the program's text (the seventh form; the later family's looks); each row that meets fmt, with fmt's text TOLD by the authors' own Lean function (tested against real Go, not proved from fmt's source: count such statements apart). THE CARD IS WHAT COUNTS. Prove the row's statement (the work); the ties are given (YtmgapmpmmkmdhaaDoorTie.lean); close each card by the builder's one call (the guide's Derived/Test/ToyasCard.lean, 'card_holds'). Laid BY PROGRAM, IN A SANDBOX (cutbox-door.mjs). By AI agents, Wed Nov 11 2026. No macro, syntax, notation, axiom, sorry.
-/
import Derived.Test.YtmgapmpmmkmdhaaDoorRows
import GoSem.ClaimSeven
namespace Go.Proofs.YtmgapmpmmkmdhaaDoor
namespace Rows

/-- THE TIED CARD OF 'laws.FnExactShowRules'. -/
def fnExactShowRulesCard : Claim7 := { stood := { row := fnExactShowRulesRow, standIns := [], harness := (true, "5d7d67643744bfe033e3eb7332dfa71200f018cfc146595609d12e7c80bf3550"), looks := false }, kinds := [], alts := [], laidByText := true, laidKinds := [.data, .data, .data, .data, .widerDeep, .widerDeep, .widerDeep, .mapped], laidTests := true, laidLooks := .later }
def FnExactShowRulesCardSaid : Prop := Claim7.holds Tryd.pinned (.plain (OpenSpec.ofChange fnExactShowRulesSpec)) fnExactShowRulesCard

/-- THE SECOND FORM's CARD OF 'laws.FnExactShowRules'. -/
def fnExactShowRulesUptoCard : Claim7 := { stood := { row := fnExactShowRulesUptoRow, standIns := [], harness := (true, "5d7d67643744bfe033e3eb7332dfa71200f018cfc146595609d12e7c80bf3550"), looks := false }, kinds := [], alts := [], laidByText := true, laidKinds := [.data, .data, .data, .data, .widerDeep, .widerDeep, .widerDeep, .mapped], laidTests := true, laidLooks := .later }
def FnExactShowRulesUptoCardSaid : Prop := Claim7.holds Tryd.pinned (.plain (OpenSpec.upto fnExactShowRulesSpec)) fnExactShowRulesUptoCard
end Rows
end Go.Proofs.YtmgapmpmmkmdhaaDoor
