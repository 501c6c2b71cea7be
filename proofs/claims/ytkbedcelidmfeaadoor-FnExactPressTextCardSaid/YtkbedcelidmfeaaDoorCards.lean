/-
  DERIVED. GIVEN WITH THE SEED: THE CARDS: each row of YtkbedcelidmfeaaDoorRows.lean that lists a variable, with what it lists TIED to the program's text (the seventh form; the later family's looks); each row that meets fmt, with fmt's text TOLD by the authors' own Lean function (tested against real Go, not proved from fmt's source: count such statements apart). THE CARD IS WHAT COUNTS. Prove the row's statement (the work); the ties are given (YtkbedcelidmfeaaDoorTie.lean); close each card by the builder's one call (the guide's Derived/Test/ToyasCard.lean, 'card_holds'). Laid BY PROGRAM, IN A SANDBOX (cutbox-door.mjs). By AI agents, Wed Nov 11 2026. No macro, syntax, notation, axiom, sorry.
-/
import Derived.Test.YtkbedcelidmfeaaDoorRows
import GoSem.ClaimSeven
namespace Go.Proofs.YtkbedcelidmfeaaDoor
namespace Rows

/-- THE TIED CARD OF 'laws.FnExactPressText'. -/
def fnExactPressTextCard : Claim7 := { stood := { row := fnExactPressTextRow, standIns := [], harness := (true, "4ff4c2bbf077b441a1019140b252065bd450de82d9a89a9469a818a94439adce"), looks := false }, kinds := [], alts := [], laidByText := true, laidKinds := [.data, .pinned], laidTests := true, laidLooks := .later }
def FnExactPressTextCardSaid : Prop := Claim7.holds Tryd.pinned (.plain (OpenSpec.ofChange fnExactPressTextSpec)) fnExactPressTextCard

/-- THE SECOND FORM's CARD OF 'laws.FnExactPressText'. -/
def fnExactPressTextUptoCard : Claim7 := { stood := { row := fnExactPressTextUptoRow, standIns := [], harness := (true, "4ff4c2bbf077b441a1019140b252065bd450de82d9a89a9469a818a94439adce"), looks := false }, kinds := [], alts := [], laidByText := true, laidKinds := [.data, .pinned], laidTests := true, laidLooks := .later }
def FnExactPressTextUptoCardSaid : Prop := Claim7.holds Tryd.pinned (.plain (OpenSpec.upto fnExactPressTextSpec)) fnExactPressTextUptoCard
end Rows
end Go.Proofs.YtkbedcelidmfeaaDoor
