/-
  DERIVED. GIVEN WITH THE SEED: THE CARDS: each row of YtehnomgjpnkfnaaDoorRows.lean that lists a variable, with what it lists TIED to the program's text (the seventh form; the later family's looks); each row that meets fmt, with fmt's text TOLD by the authors' own Lean function (tested against real Go, not proved from fmt's source: count such statements apart). THE CARD IS WHAT COUNTS. Prove the row's statement (the work); the ties are given (YtehnomgjpnkfnaaDoorTie.lean); close each card by the builder's one call (the guide's Derived/Test/ToyasCard.lean, 'card_holds'). Laid BY PROGRAM, IN A SANDBOX (cutbox-door.mjs). By AI agents, Wed Nov 11 2026. No macro, syntax, notation, axiom, sorry.
-/
import Derived.Test.YtehnomgjpnkfnaaDoorRows
import GoSem.ClaimSeven
namespace Go.Proofs.YtehnomgjpnkfnaaDoor
namespace Rows

/-- THE TIED CARD OF 'laws.FnExactMovesOf'. -/
def fnExactMovesOfCard : Claim7 := { stood := { row := fnExactMovesOfRow, standIns := [], harness := (true, "529a643ed696261aa21173a4fa160e0f959ce546204616cf041d057441846791"), looks := false }, kinds := [], alts := [], laidByText := true, laidKinds := [.data, .pinned], laidTests := true, laidLooks := .later }
def FnExactMovesOfCardSaid : Prop := Claim7.holds Tryd.pinned (.plain (OpenSpec.ofChange fnExactMovesOfSpec)) fnExactMovesOfCard

/-- THE SECOND FORM's CARD OF 'laws.FnExactMovesOf'. -/
def fnExactMovesOfUptoCard : Claim7 := { stood := { row := fnExactMovesOfUptoRow, standIns := [], harness := (true, "529a643ed696261aa21173a4fa160e0f959ce546204616cf041d057441846791"), looks := false }, kinds := [], alts := [], laidByText := true, laidKinds := [.data, .pinned], laidTests := true, laidLooks := .later }
def FnExactMovesOfUptoCardSaid : Prop := Claim7.holds Tryd.pinned (.plain (OpenSpec.upto fnExactMovesOfSpec)) fnExactMovesOfUptoCard
end Rows
end Go.Proofs.YtehnomgjpnkfnaaDoor
