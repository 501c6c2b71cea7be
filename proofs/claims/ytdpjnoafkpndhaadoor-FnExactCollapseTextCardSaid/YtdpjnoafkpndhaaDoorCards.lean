/-
  DERIVED. GIVEN WITH THE SEED: THE CARDS: each row of YtdpjnoafkpndhaaDoorRows.lean that lists a variable, with what it lists TIED to the program's text (the seventh form; the later family's looks); each row that meets fmt, with fmt's text TOLD by the authors' own Lean function (tested against real Go, not proved from fmt's source: count such statements apart). THE CARD IS WHAT COUNTS. Prove the row's statement (the work); the ties are given (YtdpjnoafkpndhaaDoorTie.lean); close each card by the builder's one call (the guide's Derived/Test/ToyasCard.lean, 'card_holds'). Laid BY PROGRAM, IN A SANDBOX (cutbox-door.mjs). By AI agents, Wed Nov 11 2026. No macro, syntax, notation, axiom, sorry.
-/
import Derived.Test.YtdpjnoafkpndhaaDoorRows
import GoSem.ClaimSeven
namespace Go.Proofs.YtdpjnoafkpndhaaDoor
namespace Rows

/-- THE TIED CARD OF 'laws.FnExactCollapseText'. -/
def fnExactCollapseTextCard : Claim7 := { stood := { row := fnExactCollapseTextRow, standIns := [], harness := (true, "6c288e66dd2cc8c8d045aa0d1f1e60d6ccc9f076c7226bf7027bf7942d79a604"), looks := false }, kinds := [], alts := [], laidByText := true, laidKinds := [.data, .pinned], laidTests := true, laidLooks := .later }
def FnExactCollapseTextCardSaid : Prop := Claim7.holds Tryd.pinned (.plain (OpenSpec.ofChange fnExactCollapseTextSpec)) fnExactCollapseTextCard

/-- THE SECOND FORM's CARD OF 'laws.FnExactCollapseText'. -/
def fnExactCollapseTextUptoCard : Claim7 := { stood := { row := fnExactCollapseTextUptoRow, standIns := [], harness := (true, "6c288e66dd2cc8c8d045aa0d1f1e60d6ccc9f076c7226bf7027bf7942d79a604"), looks := false }, kinds := [], alts := [], laidByText := true, laidKinds := [.data, .pinned], laidTests := true, laidLooks := .later }
def FnExactCollapseTextUptoCardSaid : Prop := Claim7.holds Tryd.pinned (.plain (OpenSpec.upto fnExactCollapseTextSpec)) fnExactCollapseTextUptoCard
end Rows
end Go.Proofs.YtdpjnoafkpndhaaDoor
