/-
  DERIVED. GIVEN WITH THE SEED: THE CARDS: each row of YtcgkpdmejjgopaaDoorRows.lean that lists a variable, with what it lists TIED to the program's text (the seventh form; the later family's looks); each row that meets fmt, with fmt's text TOLD by the authors' own Lean function (tested against real Go, not proved from fmt's source: count such statements apart). THE CARD IS WHAT COUNTS. Prove the row's statement (the work); the ties are given (YtcgkpdmejjgopaaDoorTie.lean); close each card by the builder's one call (the guide's Derived/Test/ToyasCard.lean, 'card_holds'). Laid BY PROGRAM, IN A SANDBOX (cutbox-door.mjs). By AI agents, Wed Nov 11 2026. No macro, syntax, notation, axiom, sorry.
-/
import Derived.Test.YtcgkpdmejjgopaaDoorRows
import GoSem.ClaimSeven
namespace Go.Proofs.YtcgkpdmejjgopaaDoor
namespace Rows

/-- THE TIED CARD OF 'laws.FnExactSharedKeys'. -/
def fnExactSharedKeysCard : Claim7 := { stood := { row := fnExactSharedKeysRow, standIns := [], harness := (true, "d3c692ef6cf54c346dc5aaa9ad667c1b5d4b96f38c55d299af874d86f79cb416"), looks := false }, kinds := [], alts := [], laidByText := true, laidKinds := [.data, .pinned], laidTests := true, laidLooks := .later }
def FnExactSharedKeysCardSaid : Prop := Claim7.holds Tryd.pinned (.plain (OpenSpec.ofChange fnExactSharedKeysSpec)) fnExactSharedKeysCard

/-- THE SECOND FORM's CARD OF 'laws.FnExactSharedKeys'. -/
def fnExactSharedKeysUptoCard : Claim7 := { stood := { row := fnExactSharedKeysUptoRow, standIns := [], harness := (true, "d3c692ef6cf54c346dc5aaa9ad667c1b5d4b96f38c55d299af874d86f79cb416"), looks := false }, kinds := [], alts := [], laidByText := true, laidKinds := [.data, .pinned], laidTests := true, laidLooks := .later }
def FnExactSharedKeysUptoCardSaid : Prop := Claim7.holds Tryd.pinned (.plain (OpenSpec.upto fnExactSharedKeysSpec)) fnExactSharedKeysUptoCard
end Rows
end Go.Proofs.YtcgkpdmejjgopaaDoor
