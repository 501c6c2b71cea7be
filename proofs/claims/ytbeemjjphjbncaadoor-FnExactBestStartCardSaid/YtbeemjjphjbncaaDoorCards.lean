/-
  DERIVED. GIVEN WITH THE SEED: THE CARDS: each row of YtbeemjjphjbncaaDoorRows.lean that lists a variable, with what it lists TIED to the program's text (the seventh form; the later family's looks); each row that meets fmt, with fmt's text TOLD by the authors' own Lean function (tested against real Go, not proved from fmt's source: count such statements apart). THE CARD IS WHAT COUNTS. Prove the row's statement (the work); the ties are given (YtbeemjjphjbncaaDoorTie.lean); close each card by the builder's one call (the guide's Derived/Test/ToyasCard.lean, 'card_holds'). Laid BY PROGRAM, IN A SANDBOX (cutbox-door.mjs). By AI agents, Wed Nov 11 2026. No macro, syntax, notation, axiom, sorry.
-/
import Derived.Test.YtbeemjjphjbncaaDoorRows
import GoSem.ClaimSeven
namespace Go.Proofs.YtbeemjjphjbncaaDoor
namespace Rows

/-- THE TIED CARD OF 'laws.FnExactBestStart'. -/
def fnExactBestStartCard : Claim7 := { stood := { row := fnExactBestStartRow, standIns := [], harness := (true, "c03716893e457a7085bdce8791a6c0289fad8f8b23703977de3b337c9bf966aa"), looks := false }, kinds := [], alts := [], laidByText := true, laidKinds := [.data, .pinned], laidTests := true, laidLooks := .later }
def FnExactBestStartCardSaid : Prop := Claim7.holds Tryd.pinned (.plain (OpenSpec.ofChange fnExactBestStartSpec)) fnExactBestStartCard

/-- THE SECOND FORM's CARD OF 'laws.FnExactBestStart'. -/
def fnExactBestStartUptoCard : Claim7 := { stood := { row := fnExactBestStartUptoRow, standIns := [], harness := (true, "c03716893e457a7085bdce8791a6c0289fad8f8b23703977de3b337c9bf966aa"), looks := false }, kinds := [], alts := [], laidByText := true, laidKinds := [.data, .pinned], laidTests := true, laidLooks := .later }
def FnExactBestStartUptoCardSaid : Prop := Claim7.holds Tryd.pinned (.plain (OpenSpec.upto fnExactBestStartSpec)) fnExactBestStartUptoCard
end Rows
end Go.Proofs.YtbeemjjphjbncaaDoor
