/-
  DERIVED. GIVEN WITH THE SEED: THE CARDS: each row of YtnnplkhjmdbmbaaDoorRows.lean that lists a variable, with what it lists TIED to the program's text (the seventh form; the later family's looks); each row that meets fmt, with fmt's text TOLD by the authors' own Lean function (tested against real Go, not proved from fmt's source: count such statements apart). THE CARD IS WHAT COUNTS. Prove the row's statement (the work); the ties are given (YtnnplkhjmdbmbaaDoorTie.lean); close each card by the builder's one call (the guide's Derived/Test/ToyasCard.lean, 'card_holds'). Laid BY PROGRAM, IN A SANDBOX (cutbox-door.mjs). By AI agents, Wed Nov 11 2026. No macro, syntax, notation, axiom, sorry.
-/
import Derived.Test.YtnnplkhjmdbmbaaDoorRows
import GoSem.ClaimSeven
namespace Go.Proofs.YtnnplkhjmdbmbaaDoor
namespace Rows

/-- THE TIED CARD OF 'laws.FnAddrText'. -/
def fnAddrTextCard : Claim7 := { stood := { row := fnAddrTextRow, standIns := [], harness := (true, "0a9a69516068c5273087ac8bf3a7681bf4dae7530db5dd7aa7a54d4f2db52082"), looks := false }, kinds := [], alts := [], laidByText := true, laidKinds := [.data, .data, .data, .data, .pinned], laidTests := true, laidLooks := .later }
def FnAddrTextCardSaid : Prop := Claim7.holds Tryd.pinned (.plain (OpenSpec.ofChange fnAddrTextSpec)) fnAddrTextCard

/-- THE TIED CARD OF 'laws.FnExactReadMac'. -/
def fnExactReadMacCard : Claim7 := { stood := { row := fnExactReadMacRow, standIns := [], harness := (true, "0a9a69516068c5273087ac8bf3a7681bf4dae7530db5dd7aa7a54d4f2db52082"), looks := false }, kinds := [], alts := [], laidByText := true, laidKinds := [.data, .pinned], laidTests := true, laidLooks := .later }
def FnExactReadMacCardSaid : Prop := Claim7.holds Tryd.pinned (.plain (OpenSpec.ofChange fnExactReadMacSpec)) fnExactReadMacCard

/-- THE TIED CARD OF 'laws.FnExactShowAddr'. -/
def fnExactShowAddrCard : Claim7 := { stood := { row := fnExactShowAddrRow, standIns := [], harness := (true, "0a9a69516068c5273087ac8bf3a7681bf4dae7530db5dd7aa7a54d4f2db52082"), looks := false }, kinds := [], alts := [], laidByText := true, laidKinds := [.data, .data, .data], laidTests := true, laidLooks := .later }
def FnExactShowAddrCardSaid : Prop := Claim7.holds Tryd.pinned (.plain (OpenSpec.ofChange fnExactShowAddrSpec)) fnExactShowAddrCard

/-- THE TIED CARD OF 'laws.FnExactReadAddr'. -/
def fnExactReadAddrCard : Claim7 := { stood := { row := fnExactReadAddrRow, standIns := [], harness := (true, "0a9a69516068c5273087ac8bf3a7681bf4dae7530db5dd7aa7a54d4f2db52082"), looks := false }, kinds := [], alts := [], laidByText := true, laidKinds := [.data, .pinned], laidTests := true, laidLooks := .later }
def FnExactReadAddrCardSaid : Prop := Claim7.holds Tryd.pinned (.plain (OpenSpec.ofChange fnExactReadAddrSpec)) fnExactReadAddrCard

/-- THE TIED CARD OF 'laws.FnExactShowMac'. -/
def fnExactShowMacCard : Claim7 := { stood := { row := fnExactShowMacRow, standIns := [], harness := (true, "0a9a69516068c5273087ac8bf3a7681bf4dae7530db5dd7aa7a54d4f2db52082"), looks := false }, kinds := [], alts := [], laidByText := true, laidKinds := [.data, .data, .data], laidTests := true, laidLooks := .later }
def FnExactShowMacCardSaid : Prop := Claim7.holds Tryd.pinned (.plain (OpenSpec.ofChange fnExactShowMacSpec)) fnExactShowMacCard

/-- THE TIED CARD OF 'laws.FnExactShowPrefix'. -/
def fnExactShowPrefixCard : Claim7 := { stood := { row := fnExactShowPrefixRow, standIns := [], harness := (true, "0a9a69516068c5273087ac8bf3a7681bf4dae7530db5dd7aa7a54d4f2db52082"), looks := false }, kinds := [], alts := [], laidByText := true, laidKinds := [.data, .data, .data], laidTests := true, laidLooks := .later }
def FnExactShowPrefixCardSaid : Prop := Claim7.holds Tryd.pinned (.plain (OpenSpec.ofChange fnExactShowPrefixSpec)) fnExactShowPrefixCard

/-- THE TIED CARD OF 'laws.FnExactReadPrefix'. -/
def fnExactReadPrefixCard : Claim7 := { stood := { row := fnExactReadPrefixRow, standIns := [], harness := (true, "0a9a69516068c5273087ac8bf3a7681bf4dae7530db5dd7aa7a54d4f2db52082"), looks := false }, kinds := [], alts := [], laidByText := true, laidKinds := [.data, .pinned], laidTests := true, laidLooks := .later }
def FnExactReadPrefixCardSaid : Prop := Claim7.holds Tryd.pinned (.plain (OpenSpec.ofChange fnExactReadPrefixSpec)) fnExactReadPrefixCard

/-- THE TIED CARD OF 'laws.FnExactShowRoutes'. -/
def fnExactShowRoutesCard : Claim7 := { stood := { row := fnExactShowRoutesRow, standIns := [], harness := (true, "0a9a69516068c5273087ac8bf3a7681bf4dae7530db5dd7aa7a54d4f2db52082"), looks := false }, kinds := [], alts := [], laidByText := true, laidKinds := [.data, .data, .data], laidTests := true, laidLooks := .later }
def FnExactShowRoutesCardSaid : Prop := Claim7.holds Tryd.pinned (.plain (OpenSpec.ofChange fnExactShowRoutesSpec)) fnExactShowRoutesCard

/-- THE SECOND FORM's CARD OF 'laws.FnAddrText'. -/
def fnAddrTextUptoCard : Claim7 := { stood := { row := fnAddrTextUptoRow, standIns := [], harness := (true, "0a9a69516068c5273087ac8bf3a7681bf4dae7530db5dd7aa7a54d4f2db52082"), looks := false }, kinds := [], alts := [], laidByText := true, laidKinds := [.data, .data, .data, .data, .pinned], laidTests := true, laidLooks := .later }
def FnAddrTextUptoCardSaid : Prop := Claim7.holds Tryd.pinned (.plain (OpenSpec.upto fnAddrTextSpec)) fnAddrTextUptoCard

/-- THE SECOND FORM's CARD OF 'laws.FnExactReadMac'. -/
def fnExactReadMacUptoCard : Claim7 := { stood := { row := fnExactReadMacUptoRow, standIns := [], harness := (true, "0a9a69516068c5273087ac8bf3a7681bf4dae7530db5dd7aa7a54d4f2db52082"), looks := false }, kinds := [], alts := [], laidByText := true, laidKinds := [.data, .pinned], laidTests := true, laidLooks := .later }
def FnExactReadMacUptoCardSaid : Prop := Claim7.holds Tryd.pinned (.plain (OpenSpec.upto fnExactReadMacSpec)) fnExactReadMacUptoCard

/-- THE SECOND FORM's CARD OF 'laws.FnExactShowAddr'. -/
def fnExactShowAddrUptoCard : Claim7 := { stood := { row := fnExactShowAddrUptoRow, standIns := [], harness := (true, "0a9a69516068c5273087ac8bf3a7681bf4dae7530db5dd7aa7a54d4f2db52082"), looks := false }, kinds := [], alts := [], laidByText := true, laidKinds := [.data, .data, .data], laidTests := true, laidLooks := .later }
def FnExactShowAddrUptoCardSaid : Prop := Claim7.holds Tryd.pinned (.plain (OpenSpec.upto fnExactShowAddrSpec)) fnExactShowAddrUptoCard

/-- THE SECOND FORM's CARD OF 'laws.FnExactReadAddr'. -/
def fnExactReadAddrUptoCard : Claim7 := { stood := { row := fnExactReadAddrUptoRow, standIns := [], harness := (true, "0a9a69516068c5273087ac8bf3a7681bf4dae7530db5dd7aa7a54d4f2db52082"), looks := false }, kinds := [], alts := [], laidByText := true, laidKinds := [.data, .pinned], laidTests := true, laidLooks := .later }
def FnExactReadAddrUptoCardSaid : Prop := Claim7.holds Tryd.pinned (.plain (OpenSpec.upto fnExactReadAddrSpec)) fnExactReadAddrUptoCard

/-- THE SECOND FORM's CARD OF 'laws.FnExactShowMac'. -/
def fnExactShowMacUptoCard : Claim7 := { stood := { row := fnExactShowMacUptoRow, standIns := [], harness := (true, "0a9a69516068c5273087ac8bf3a7681bf4dae7530db5dd7aa7a54d4f2db52082"), looks := false }, kinds := [], alts := [], laidByText := true, laidKinds := [.data, .data, .data], laidTests := true, laidLooks := .later }
def FnExactShowMacUptoCardSaid : Prop := Claim7.holds Tryd.pinned (.plain (OpenSpec.upto fnExactShowMacSpec)) fnExactShowMacUptoCard

/-- THE SECOND FORM's CARD OF 'laws.FnExactShowPrefix'. -/
def fnExactShowPrefixUptoCard : Claim7 := { stood := { row := fnExactShowPrefixUptoRow, standIns := [], harness := (true, "0a9a69516068c5273087ac8bf3a7681bf4dae7530db5dd7aa7a54d4f2db52082"), looks := false }, kinds := [], alts := [], laidByText := true, laidKinds := [.data, .data, .data], laidTests := true, laidLooks := .later }
def FnExactShowPrefixUptoCardSaid : Prop := Claim7.holds Tryd.pinned (.plain (OpenSpec.upto fnExactShowPrefixSpec)) fnExactShowPrefixUptoCard

/-- THE SECOND FORM's CARD OF 'laws.FnExactReadPrefix'. -/
def fnExactReadPrefixUptoCard : Claim7 := { stood := { row := fnExactReadPrefixUptoRow, standIns := [], harness := (true, "0a9a69516068c5273087ac8bf3a7681bf4dae7530db5dd7aa7a54d4f2db52082"), looks := false }, kinds := [], alts := [], laidByText := true, laidKinds := [.data, .pinned], laidTests := true, laidLooks := .later }
def FnExactReadPrefixUptoCardSaid : Prop := Claim7.holds Tryd.pinned (.plain (OpenSpec.upto fnExactReadPrefixSpec)) fnExactReadPrefixUptoCard

/-- THE SECOND FORM's CARD OF 'laws.FnExactShowRoutes'. -/
def fnExactShowRoutesUptoCard : Claim7 := { stood := { row := fnExactShowRoutesUptoRow, standIns := [], harness := (true, "0a9a69516068c5273087ac8bf3a7681bf4dae7530db5dd7aa7a54d4f2db52082"), looks := false }, kinds := [], alts := [], laidByText := true, laidKinds := [.data, .data, .data], laidTests := true, laidLooks := .later }
def FnExactShowRoutesUptoCardSaid : Prop := Claim7.holds Tryd.pinned (.plain (OpenSpec.upto fnExactShowRoutesSpec)) fnExactShowRoutesUptoCard
end Rows
end Go.Proofs.YtnnplkhjmdbmbaaDoor
