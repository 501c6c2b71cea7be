/-
  DERIVED. GIVEN WITH THE SEED: THE CARDS: each row of YtemfmdgjdifooaaDoorRows.lean that lists a variable, with what it lists TIED to the program's text (the seventh form; the later family's looks); each row that meets fmt, with fmt's text TOLD by the authors' own Lean function (tested against real Go, not proved from fmt's source: count such statements apart). THE CARD IS WHAT COUNTS. Prove the row's statement (the work); the ties are given (YtemfmdgjdifooaaDoorTie.lean); close each card by the builder's one call (the guide's Derived/Test/ToyasCard.lean, 'card_holds'). Laid BY PROGRAM, IN A SANDBOX (cutbox-door.mjs). By AI agents, Wed Nov 11 2026. No macro, syntax, notation, axiom, sorry.
-/
import Derived.Test.YtemfmdgjdifooaaDoorRows
import GoSem.ClaimSeven
namespace Go.Proofs.YtemfmdgjdifooaaDoor
namespace Rows

/-- THE TIED CARD OF 'laws.FnExactKeysWithin'. -/
def fnExactKeysWithinCard : Claim7 := { stood := { row := fnExactKeysWithinRow, standIns := [], harness := (true, "7b2db195ec6480abe007a401d38ca623dec225ae2ac4327ca243cd34d8c9e1b5"), looks := false }, kinds := [], alts := [], laidByText := true, laidKinds := [.data, .pinned], laidTests := true, laidLooks := .later }
def FnExactKeysWithinCardSaid : Prop := Claim7.holds Tryd.pinned (.plain (OpenSpec.ofChange fnExactKeysWithinSpec)) fnExactKeysWithinCard

/-- THE SECOND FORM's CARD OF 'laws.FnExactKeysWithin'. -/
def fnExactKeysWithinUptoCard : Claim7 := { stood := { row := fnExactKeysWithinUptoRow, standIns := [], harness := (true, "7b2db195ec6480abe007a401d38ca623dec225ae2ac4327ca243cd34d8c9e1b5"), looks := false }, kinds := [], alts := [], laidByText := true, laidKinds := [.data, .pinned], laidTests := true, laidLooks := .later }
def FnExactKeysWithinUptoCardSaid : Prop := Claim7.holds Tryd.pinned (.plain (OpenSpec.upto fnExactKeysWithinSpec)) fnExactKeysWithinUptoCard
end Rows
end Go.Proofs.YtemfmdgjdifooaaDoor
