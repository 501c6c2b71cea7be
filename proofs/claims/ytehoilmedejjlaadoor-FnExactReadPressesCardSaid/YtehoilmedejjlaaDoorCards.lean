/-
  DERIVED. GIVEN WITH THE SEED: THE CARDS: each row of YtehoilmedejjlaaDoorRows.lean that lists a variable, with what it lists TIED to the program's text (the seventh form; the later family's looks); each row that meets fmt, with fmt's text TOLD by the authors' own Lean function (tested against real Go, not proved from fmt's source: count such statements apart). THE CARD IS WHAT COUNTS. Prove the row's statement (the work); the ties are given (YtehoilmedejjlaaDoorTie.lean); close each card by the builder's one call (the guide's Derived/Test/ToyasCard.lean, 'card_holds'). Laid BY PROGRAM, IN A SANDBOX (cutbox-door.mjs). By AI agents, Wed Nov 11 2026. No macro, syntax, notation, axiom, sorry.
-/
import Derived.Test.YtehoilmedejjlaaDoorRows
import GoSem.ClaimSeven
namespace Go.Proofs.YtehoilmedejjlaaDoor
namespace Rows

/-- THE TIED CARD OF 'laws.FnExactWaitsIn'. -/
def fnExactWaitsInCard : Claim7 := { stood := { row := fnExactWaitsInRow, standIns := [], harness := (true, "d2b551c26eea63c0822e6c922c4c75635c59bc6dbf040b66b71373d1fba663f4"), looks := false }, kinds := [], alts := [], laidByText := true, laidKinds := [.data, .pinned], laidTests := true, laidLooks := .later }
def FnExactWaitsInCardSaid : Prop := Claim7.holds Tryd.pinned (.plain (OpenSpec.ofChange fnExactWaitsInSpec)) fnExactWaitsInCard

/-- THE TIED CARD OF 'laws.FnExactTimeFor'. -/
def fnExactTimeForCard : Claim7 := { stood := { row := fnExactTimeForRow, standIns := [], harness := (true, "d2b551c26eea63c0822e6c922c4c75635c59bc6dbf040b66b71373d1fba663f4"), looks := false }, kinds := [], alts := [], laidByText := true, laidKinds := [.data, .pinned], laidTests := true, laidLooks := .later }
def FnExactTimeForCardSaid : Prop := Claim7.holds Tryd.pinned (.plain (OpenSpec.ofChange fnExactTimeForSpec)) fnExactTimeForCard

/-- THE TIED CARD OF 'laws.FnExactReadPresses'. -/
def fnExactReadPressesCard : Claim7 := { stood := { row := fnExactReadPressesRow, standIns := [], harness := (true, "d2b551c26eea63c0822e6c922c4c75635c59bc6dbf040b66b71373d1fba663f4"), looks := false }, kinds := [], alts := [], laidByText := true, laidKinds := [.data, .pinned], laidTests := true, laidLooks := .later }
def FnExactReadPressesCardSaid : Prop := Claim7.holds Tryd.pinned (.plain (OpenSpec.ofChange fnExactReadPressesSpec)) fnExactReadPressesCard

/-- THE SECOND FORM's CARD OF 'laws.FnExactWaitsIn'. -/
def fnExactWaitsInUptoCard : Claim7 := { stood := { row := fnExactWaitsInUptoRow, standIns := [], harness := (true, "d2b551c26eea63c0822e6c922c4c75635c59bc6dbf040b66b71373d1fba663f4"), looks := false }, kinds := [], alts := [], laidByText := true, laidKinds := [.data, .pinned], laidTests := true, laidLooks := .later }
def FnExactWaitsInUptoCardSaid : Prop := Claim7.holds Tryd.pinned (.plain (OpenSpec.upto fnExactWaitsInSpec)) fnExactWaitsInUptoCard

/-- THE SECOND FORM's CARD OF 'laws.FnExactTimeFor'. -/
def fnExactTimeForUptoCard : Claim7 := { stood := { row := fnExactTimeForUptoRow, standIns := [], harness := (true, "d2b551c26eea63c0822e6c922c4c75635c59bc6dbf040b66b71373d1fba663f4"), looks := false }, kinds := [], alts := [], laidByText := true, laidKinds := [.data, .pinned], laidTests := true, laidLooks := .later }
def FnExactTimeForUptoCardSaid : Prop := Claim7.holds Tryd.pinned (.plain (OpenSpec.upto fnExactTimeForSpec)) fnExactTimeForUptoCard

/-- THE SECOND FORM's CARD OF 'laws.FnExactReadPresses'. -/
def fnExactReadPressesUptoCard : Claim7 := { stood := { row := fnExactReadPressesUptoRow, standIns := [], harness := (true, "d2b551c26eea63c0822e6c922c4c75635c59bc6dbf040b66b71373d1fba663f4"), looks := false }, kinds := [], alts := [], laidByText := true, laidKinds := [.data, .pinned], laidTests := true, laidLooks := .later }
def FnExactReadPressesUptoCardSaid : Prop := Claim7.holds Tryd.pinned (.plain (OpenSpec.upto fnExactReadPressesSpec)) fnExactReadPressesUptoCard
end Rows
end Go.Proofs.YtehoilmedejjlaaDoor
