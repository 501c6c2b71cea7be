/-
  DERIVED. GIVEN WITH THE SEED: THE CARDS: each row of YtmbnchgfjijobaaGreatDoorRows.lean that lists a variable, with what it lists TIED to the program's text (the seventh form; the later family's looks); each row that meets fmt, with fmt's text TOLD by the authors' own Lean function (tested against real Go, not proved from fmt's source: count such statements apart). THE CARD IS WHAT COUNTS. Prove the row's statement (the work); the ties are given (YtmbnchgfjijobaaGreatDoorTie.lean); close each card by the builder's one call (the guide's Derived/Test/ToyasCard.lean, 'card_holds'). Laid BY PROGRAM, IN A SANDBOX (cutbox-door.mjs). By AI agents, Wed Nov 11 2026. No macro, syntax, notation, axiom, sorry.
-/
import Derived.Test.YtmbnchgfjijobaaGreatDoorRows
import GoSem.ClaimSeven
namespace Go.Proofs.YtmbnchgfjijobaaGreatDoor
namespace Rows

/-- THE TIED CARD OF 'laws.FnPressesTold'. -/
def fnPressesToldCard : Claim7 := { stood := { row := fnPressesToldRow, standIns := [], harness := (true, "26ba0ea0c093e32fa4381ad8fb4bd02754011761b710e752df6a5b743dd23bbb"), looks := false }, kinds := [], alts := [], laidByText := true, laidKinds := [.data, .pinned], laidTests := true, laidLooks := .later }
def FnPressesToldCardSaid : Prop := Claim7.holds Tryz.pinned (.plain (OpenSpec.ofChange fnPressesToldSpec)) fnPressesToldCard

/-- THE SECOND FORM's CARD OF 'laws.FnPressesTold'. -/
def fnPressesToldUptoCard : Claim7 := { stood := { row := fnPressesToldUptoRow, standIns := [], harness := (true, "26ba0ea0c093e32fa4381ad8fb4bd02754011761b710e752df6a5b743dd23bbb"), looks := false }, kinds := [], alts := [], laidByText := true, laidKinds := [.data, .pinned], laidTests := true, laidLooks := .later }
def FnPressesToldUptoCardSaid : Prop := Claim7.holds Tryz.pinned (.plain (OpenSpec.upto fnPressesToldSpec)) fnPressesToldUptoCard
end Rows
end Go.Proofs.YtmbnchgfjijobaaGreatDoor
