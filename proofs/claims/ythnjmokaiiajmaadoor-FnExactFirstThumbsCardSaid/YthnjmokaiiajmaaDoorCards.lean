/-
  DERIVED. GIVEN WITH THE SEED: THE CARDS: each row of YthnjmokaiiajmaaDoorRows.lean that lists a variable, with what it lists TIED to the program's text (the seventh form; the later family's looks); each row that meets fmt, with fmt's text TOLD by the authors' own Lean function (tested against real Go, not proved from fmt's source: count such statements apart). THE CARD IS WHAT COUNTS. Prove the row's statement (the work); the ties are given (YthnjmokaiiajmaaDoorTie.lean); close each card by the builder's one call (the guide's Derived/Test/ToyasCard.lean, 'card_holds'). Laid BY PROGRAM, IN A SANDBOX (cutbox-door.mjs). By AI agents, Wed Nov 11 2026. No macro, syntax, notation, axiom, sorry.
-/
import Derived.Test.YthnjmokaiiajmaaDoorRows
import GoSem.ClaimSeven
namespace Go.Proofs.YthnjmokaiiajmaaDoor
namespace Rows

/-- THE TIED CARD OF 'laws.FnExactTwoThumbs'. -/
def fnExactTwoThumbsCard : Claim7 := { stood := { row := fnExactTwoThumbsRow, standIns := [], harness := (true, "0dccdc69d4c8262a361b88cd9f144ef46f01016af28f7b4865f902621f1341fb"), looks := false }, kinds := [], alts := [], laidByText := true, laidKinds := [.data, .pinned], laidTests := true, laidLooks := .later }
def FnExactTwoThumbsCardSaid : Prop := Claim7.holds Tryd.pinned (.plain (OpenSpec.ofChange fnExactTwoThumbsSpec)) fnExactTwoThumbsCard

/-- THE TIED CARD OF 'laws.FnExactCountThumbs'. -/
def fnExactCountThumbsCard : Claim7 := { stood := { row := fnExactCountThumbsRow, standIns := [], harness := (true, "0dccdc69d4c8262a361b88cd9f144ef46f01016af28f7b4865f902621f1341fb"), looks := false }, kinds := [], alts := [], laidByText := true, laidKinds := [.data, .pinned], laidTests := true, laidLooks := .later }
def FnExactCountThumbsCardSaid : Prop := Claim7.holds Tryd.pinned (.plain (OpenSpec.ofChange fnExactCountThumbsSpec)) fnExactCountThumbsCard

/-- THE TIED CARD OF 'laws.FnExactBestStarts'. -/
def fnExactBestStartsCard : Claim7 := { stood := { row := fnExactBestStartsRow, standIns := [], harness := (true, "0dccdc69d4c8262a361b88cd9f144ef46f01016af28f7b4865f902621f1341fb"), looks := false }, kinds := [], alts := [], laidByText := true, laidKinds := [.data, .pinned], laidTests := true, laidLooks := .later }
def FnExactBestStartsCardSaid : Prop := Claim7.holds Tryd.pinned (.plain (OpenSpec.ofChange fnExactBestStartsSpec)) fnExactBestStartsCard

/-- THE TIED CARD OF 'laws.FnExactFirstThumbs'. -/
def fnExactFirstThumbsCard : Claim7 := { stood := { row := fnExactFirstThumbsRow, standIns := [], harness := (true, "0dccdc69d4c8262a361b88cd9f144ef46f01016af28f7b4865f902621f1341fb"), looks := false }, kinds := [], alts := [], laidByText := true, laidKinds := [.data, .pinned], laidTests := true, laidLooks := .later }
def FnExactFirstThumbsCardSaid : Prop := Claim7.holds Tryd.pinned (.plain (OpenSpec.ofChange fnExactFirstThumbsSpec)) fnExactFirstThumbsCard

/-- THE SECOND FORM's CARD OF 'laws.FnExactTwoThumbs'. -/
def fnExactTwoThumbsUptoCard : Claim7 := { stood := { row := fnExactTwoThumbsUptoRow, standIns := [], harness := (true, "0dccdc69d4c8262a361b88cd9f144ef46f01016af28f7b4865f902621f1341fb"), looks := false }, kinds := [], alts := [], laidByText := true, laidKinds := [.data, .pinned], laidTests := true, laidLooks := .later }
def FnExactTwoThumbsUptoCardSaid : Prop := Claim7.holds Tryd.pinned (.plain (OpenSpec.upto fnExactTwoThumbsSpec)) fnExactTwoThumbsUptoCard

/-- THE SECOND FORM's CARD OF 'laws.FnExactCountThumbs'. -/
def fnExactCountThumbsUptoCard : Claim7 := { stood := { row := fnExactCountThumbsUptoRow, standIns := [], harness := (true, "0dccdc69d4c8262a361b88cd9f144ef46f01016af28f7b4865f902621f1341fb"), looks := false }, kinds := [], alts := [], laidByText := true, laidKinds := [.data, .pinned], laidTests := true, laidLooks := .later }
def FnExactCountThumbsUptoCardSaid : Prop := Claim7.holds Tryd.pinned (.plain (OpenSpec.upto fnExactCountThumbsSpec)) fnExactCountThumbsUptoCard

/-- THE SECOND FORM's CARD OF 'laws.FnExactBestStarts'. -/
def fnExactBestStartsUptoCard : Claim7 := { stood := { row := fnExactBestStartsUptoRow, standIns := [], harness := (true, "0dccdc69d4c8262a361b88cd9f144ef46f01016af28f7b4865f902621f1341fb"), looks := false }, kinds := [], alts := [], laidByText := true, laidKinds := [.data, .pinned], laidTests := true, laidLooks := .later }
def FnExactBestStartsUptoCardSaid : Prop := Claim7.holds Tryd.pinned (.plain (OpenSpec.upto fnExactBestStartsSpec)) fnExactBestStartsUptoCard

/-- THE SECOND FORM's CARD OF 'laws.FnExactFirstThumbs'. -/
def fnExactFirstThumbsUptoCard : Claim7 := { stood := { row := fnExactFirstThumbsUptoRow, standIns := [], harness := (true, "0dccdc69d4c8262a361b88cd9f144ef46f01016af28f7b4865f902621f1341fb"), looks := false }, kinds := [], alts := [], laidByText := true, laidKinds := [.data, .pinned], laidTests := true, laidLooks := .later }
def FnExactFirstThumbsUptoCardSaid : Prop := Claim7.holds Tryd.pinned (.plain (OpenSpec.upto fnExactFirstThumbsSpec)) fnExactFirstThumbsUptoCard
end Rows
end Go.Proofs.YthnjmokaiiajmaaDoor
