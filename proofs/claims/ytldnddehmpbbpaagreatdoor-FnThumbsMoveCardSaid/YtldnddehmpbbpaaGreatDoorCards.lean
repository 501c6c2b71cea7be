/-
  DERIVED. GIVEN WITH THE SEED: THE CARDS: each row of YtldnddehmpbbpaaGreatDoorRows.lean that lists a variable, with what it lists TIED to the program's text (the seventh form; the later family's looks); each row that meets fmt, with fmt's text TOLD by the authors' own Lean function (tested against real Go, not proved from fmt's source: count such statements apart). THE CARD IS WHAT COUNTS. Prove the row's statement (the work); the ties are given (YtldnddehmpbbpaaGreatDoorTie.lean); close each card by the builder's one call (the guide's Derived/Test/ToyasCard.lean, 'card_holds'). Laid BY PROGRAM, IN A SANDBOX (cutbox-door.mjs). By AI agents, Wed Nov 11 2026. No macro, syntax, notation, axiom, sorry.
-/
import Derived.Test.YtldnddehmpbbpaaGreatDoorRows
import GoSem.ClaimSeven
namespace Go.Proofs.YtldnddehmpbbpaaGreatDoor
namespace Rows

/-- THE TIED CARD OF 'laws.FnThumbsMove'. -/
def fnThumbsMoveCard : Claim7 := { stood := { row := fnThumbsMoveRow, standIns := [], harness := (true, "544312cc6a8a434e9574213c00dc98cbb6411ad82ffd31932e07d3233e342a95"), looks := false }, kinds := [], alts := [], laidByText := true, laidKinds := [.data, .pinned], laidTests := true, laidLooks := .later }
def FnThumbsMoveCardSaid : Prop := Claim7.holds Tryz.pinned (.plain (OpenSpec.ofChange fnThumbsMoveSpec)) fnThumbsMoveCard

/-- THE SECOND FORM's CARD OF 'laws.FnThumbsMove'. -/
def fnThumbsMoveUptoCard : Claim7 := { stood := { row := fnThumbsMoveUptoRow, standIns := [], harness := (true, "544312cc6a8a434e9574213c00dc98cbb6411ad82ffd31932e07d3233e342a95"), looks := false }, kinds := [], alts := [], laidByText := true, laidKinds := [.data, .pinned], laidTests := true, laidLooks := .later }
def FnThumbsMoveUptoCardSaid : Prop := Claim7.holds Tryz.pinned (.plain (OpenSpec.upto fnThumbsMoveSpec)) fnThumbsMoveUptoCard
end Rows
end Go.Proofs.YtldnddehmpbbpaaGreatDoor
