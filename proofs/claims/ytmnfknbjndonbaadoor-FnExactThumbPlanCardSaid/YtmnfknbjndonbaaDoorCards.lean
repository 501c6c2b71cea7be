/-
  DERIVED. GIVEN WITH THE SEED: THE CARDS: each row of YtmnfknbjndonbaaDoorRows.lean that lists a variable, with what it lists TIED to the program's text (the seventh form; the later family's looks); each row that meets fmt, with fmt's text TOLD by the authors' own Lean function (tested against real Go, not proved from fmt's source: count such statements apart). THE CARD IS WHAT COUNTS. Prove the row's statement (the work); the ties are given (YtmnfknbjndonbaaDoorTie.lean); close each card by the builder's one call (the guide's Derived/Test/ToyasCard.lean, 'card_holds'). Laid BY PROGRAM, IN A SANDBOX (cutbox-door.mjs). By AI agents, Wed Nov 11 2026. No macro, syntax, notation, axiom, sorry.
-/
import Derived.Test.YtmnfknbjndonbaaDoorRows
import GoSem.ClaimSeven
namespace Go.Proofs.YtmnfknbjndonbaaDoor
namespace Rows

/-- THE TIED CARD OF 'laws.FnExactIsDialed'. -/
def fnExactIsDialedCard : Claim7 := { stood := { row := fnExactIsDialedRow, standIns := [], harness := (true, "70d4a44b656238a2e73e7d2829169277caee4e42608ac00ddb180ee51f8de0d6"), looks := false }, kinds := [], alts := [], laidByText := true, laidKinds := [.data, .pinned], laidTests := true, laidLooks := .later }
def FnExactIsDialedCardSaid : Prop := Claim7.holds Tryd.pinned (.plain (OpenSpec.ofChange fnExactIsDialedSpec)) fnExactIsDialedCard

/-- THE TIED CARD OF 'laws.FnExactKeyDistance'. -/
def fnExactKeyDistanceCard : Claim7 := { stood := { row := fnExactKeyDistanceRow, standIns := [], harness := (true, "70d4a44b656238a2e73e7d2829169277caee4e42608ac00ddb180ee51f8de0d6"), looks := false }, kinds := [], alts := [], laidByText := true, laidKinds := [.data, .pinned], laidTests := true, laidLooks := .later }
def FnExactKeyDistanceCardSaid : Prop := Claim7.holds Tryd.pinned (.plain (OpenSpec.ofChange fnExactKeyDistanceSpec)) fnExactKeyDistanceCard

/-- THE TIED CARD OF 'laws.FnExactMirrorKeys'. -/
def fnExactMirrorKeysCard : Claim7 := { stood := { row := fnExactMirrorKeysRow, standIns := [], harness := (true, "70d4a44b656238a2e73e7d2829169277caee4e42608ac00ddb180ee51f8de0d6"), looks := false }, kinds := [], alts := [], laidByText := true, laidKinds := [.data, .pinned], laidTests := true, laidLooks := .later }
def FnExactMirrorKeysCardSaid : Prop := Claim7.holds Tryd.pinned (.plain (OpenSpec.ofChange fnExactMirrorKeysSpec)) fnExactMirrorKeysCard

/-- THE TIED CARD OF 'laws.FnExactTurnKeys'. -/
def fnExactTurnKeysCard : Claim7 := { stood := { row := fnExactTurnKeysRow, standIns := [], harness := (true, "70d4a44b656238a2e73e7d2829169277caee4e42608ac00ddb180ee51f8de0d6"), looks := false }, kinds := [], alts := [], laidByText := true, laidKinds := [.data, .pinned], laidTests := true, laidLooks := .later }
def FnExactTurnKeysCardSaid : Prop := Claim7.holds Tryd.pinned (.plain (OpenSpec.ofChange fnExactTurnKeysSpec)) fnExactTurnKeysCard

/-- THE TIED CARD OF 'laws.FnExactFarthestNext'. -/
def fnExactFarthestNextCard : Claim7 := { stood := { row := fnExactFarthestNextRow, standIns := [], harness := (true, "70d4a44b656238a2e73e7d2829169277caee4e42608ac00ddb180ee51f8de0d6"), looks := false }, kinds := [], alts := [], laidByText := true, laidKinds := [.data, .pinned], laidTests := true, laidLooks := .later }
def FnExactFarthestNextCardSaid : Prop := Claim7.holds Tryd.pinned (.plain (OpenSpec.ofChange fnExactFarthestNextSpec)) fnExactFarthestNextCard

/-- THE TIED CARD OF 'laws.FnExactKeysWithin'. -/
def fnExactKeysWithinCard : Claim7 := { stood := { row := fnExactKeysWithinRow, standIns := [], harness := (true, "70d4a44b656238a2e73e7d2829169277caee4e42608ac00ddb180ee51f8de0d6"), looks := false }, kinds := [], alts := [], laidByText := true, laidKinds := [.data, .pinned], laidTests := true, laidLooks := .later }
def FnExactKeysWithinCardSaid : Prop := Claim7.holds Tryd.pinned (.plain (OpenSpec.ofChange fnExactKeysWithinSpec)) fnExactKeysWithinCard

/-- THE TIED CARD OF 'laws.FnExactOneThumb'. -/
def fnExactOneThumbCard : Claim7 := { stood := { row := fnExactOneThumbRow, standIns := [], harness := (true, "70d4a44b656238a2e73e7d2829169277caee4e42608ac00ddb180ee51f8de0d6"), looks := false }, kinds := [], alts := [], laidByText := true, laidKinds := [.data, .pinned], laidTests := true, laidLooks := .later }
def FnExactOneThumbCardSaid : Prop := Claim7.holds Tryd.pinned (.plain (OpenSpec.ofChange fnExactOneThumbSpec)) fnExactOneThumbCard

/-- THE TIED CARD OF 'laws.FnExactKeysOfMoves'. -/
def fnExactKeysOfMovesCard : Claim7 := { stood := { row := fnExactKeysOfMovesRow, standIns := [], harness := (true, "70d4a44b656238a2e73e7d2829169277caee4e42608ac00ddb180ee51f8de0d6"), looks := false }, kinds := [], alts := [], laidByText := true, laidKinds := [.data, .pinned], laidTests := true, laidLooks := .later }
def FnExactKeysOfMovesCardSaid : Prop := Claim7.holds Tryd.pinned (.plain (OpenSpec.ofChange fnExactKeysOfMovesSpec)) fnExactKeysOfMovesCard

/-- THE TIED CARD OF 'laws.FnExactBestStart'. -/
def fnExactBestStartCard : Claim7 := { stood := { row := fnExactBestStartRow, standIns := [], harness := (true, "70d4a44b656238a2e73e7d2829169277caee4e42608ac00ddb180ee51f8de0d6"), looks := false }, kinds := [], alts := [], laidByText := true, laidKinds := [.data, .pinned], laidTests := true, laidLooks := .later }
def FnExactBestStartCardSaid : Prop := Claim7.holds Tryd.pinned (.plain (OpenSpec.ofChange fnExactBestStartSpec)) fnExactBestStartCard

/-- THE TIED CARD OF 'laws.FnExactMovesOf'. -/
def fnExactMovesOfCard : Claim7 := { stood := { row := fnExactMovesOfRow, standIns := [], harness := (true, "70d4a44b656238a2e73e7d2829169277caee4e42608ac00ddb180ee51f8de0d6"), looks := false }, kinds := [], alts := [], laidByText := true, laidKinds := [.data, .pinned], laidTests := true, laidLooks := .later }
def FnExactMovesOfCardSaid : Prop := Claim7.holds Tryd.pinned (.plain (OpenSpec.ofChange fnExactMovesOfSpec)) fnExactMovesOfCard

/-- THE TIED CARD OF 'laws.FnExactLeastOrder'. -/
def fnExactLeastOrderCard : Claim7 := { stood := { row := fnExactLeastOrderRow, standIns := [], harness := (true, "70d4a44b656238a2e73e7d2829169277caee4e42608ac00ddb180ee51f8de0d6"), looks := false }, kinds := [], alts := [], laidByText := true, laidKinds := [.data, .pinned], laidTests := true, laidLooks := .later }
def FnExactLeastOrderCardSaid : Prop := Claim7.holds Tryd.pinned (.plain (OpenSpec.ofChange fnExactLeastOrderSpec)) fnExactLeastOrderCard

/-- THE TIED CARD OF 'laws.FnExactThumbPlan'. -/
def fnExactThumbPlanCard : Claim7 := { stood := { row := fnExactThumbPlanRow, standIns := [], harness := (true, "70d4a44b656238a2e73e7d2829169277caee4e42608ac00ddb180ee51f8de0d6"), looks := false }, kinds := [], alts := [], laidByText := true, laidKinds := [.data, .pinned], laidTests := true, laidLooks := .later }
def FnExactThumbPlanCardSaid : Prop := Claim7.holds Tryd.pinned (.plain (OpenSpec.ofChange fnExactThumbPlanSpec)) fnExactThumbPlanCard

/-- THE SECOND FORM's CARD OF 'laws.FnExactIsDialed'. -/
def fnExactIsDialedUptoCard : Claim7 := { stood := { row := fnExactIsDialedUptoRow, standIns := [], harness := (true, "70d4a44b656238a2e73e7d2829169277caee4e42608ac00ddb180ee51f8de0d6"), looks := false }, kinds := [], alts := [], laidByText := true, laidKinds := [.data, .pinned], laidTests := true, laidLooks := .later }
def FnExactIsDialedUptoCardSaid : Prop := Claim7.holds Tryd.pinned (.plain (OpenSpec.upto fnExactIsDialedSpec)) fnExactIsDialedUptoCard

/-- THE SECOND FORM's CARD OF 'laws.FnExactKeyDistance'. -/
def fnExactKeyDistanceUptoCard : Claim7 := { stood := { row := fnExactKeyDistanceUptoRow, standIns := [], harness := (true, "70d4a44b656238a2e73e7d2829169277caee4e42608ac00ddb180ee51f8de0d6"), looks := false }, kinds := [], alts := [], laidByText := true, laidKinds := [.data, .pinned], laidTests := true, laidLooks := .later }
def FnExactKeyDistanceUptoCardSaid : Prop := Claim7.holds Tryd.pinned (.plain (OpenSpec.upto fnExactKeyDistanceSpec)) fnExactKeyDistanceUptoCard

/-- THE SECOND FORM's CARD OF 'laws.FnExactMirrorKeys'. -/
def fnExactMirrorKeysUptoCard : Claim7 := { stood := { row := fnExactMirrorKeysUptoRow, standIns := [], harness := (true, "70d4a44b656238a2e73e7d2829169277caee4e42608ac00ddb180ee51f8de0d6"), looks := false }, kinds := [], alts := [], laidByText := true, laidKinds := [.data, .pinned], laidTests := true, laidLooks := .later }
def FnExactMirrorKeysUptoCardSaid : Prop := Claim7.holds Tryd.pinned (.plain (OpenSpec.upto fnExactMirrorKeysSpec)) fnExactMirrorKeysUptoCard

/-- THE SECOND FORM's CARD OF 'laws.FnExactTurnKeys'. -/
def fnExactTurnKeysUptoCard : Claim7 := { stood := { row := fnExactTurnKeysUptoRow, standIns := [], harness := (true, "70d4a44b656238a2e73e7d2829169277caee4e42608ac00ddb180ee51f8de0d6"), looks := false }, kinds := [], alts := [], laidByText := true, laidKinds := [.data, .pinned], laidTests := true, laidLooks := .later }
def FnExactTurnKeysUptoCardSaid : Prop := Claim7.holds Tryd.pinned (.plain (OpenSpec.upto fnExactTurnKeysSpec)) fnExactTurnKeysUptoCard

/-- THE SECOND FORM's CARD OF 'laws.FnExactFarthestNext'. -/
def fnExactFarthestNextUptoCard : Claim7 := { stood := { row := fnExactFarthestNextUptoRow, standIns := [], harness := (true, "70d4a44b656238a2e73e7d2829169277caee4e42608ac00ddb180ee51f8de0d6"), looks := false }, kinds := [], alts := [], laidByText := true, laidKinds := [.data, .pinned], laidTests := true, laidLooks := .later }
def FnExactFarthestNextUptoCardSaid : Prop := Claim7.holds Tryd.pinned (.plain (OpenSpec.upto fnExactFarthestNextSpec)) fnExactFarthestNextUptoCard

/-- THE SECOND FORM's CARD OF 'laws.FnExactKeysWithin'. -/
def fnExactKeysWithinUptoCard : Claim7 := { stood := { row := fnExactKeysWithinUptoRow, standIns := [], harness := (true, "70d4a44b656238a2e73e7d2829169277caee4e42608ac00ddb180ee51f8de0d6"), looks := false }, kinds := [], alts := [], laidByText := true, laidKinds := [.data, .pinned], laidTests := true, laidLooks := .later }
def FnExactKeysWithinUptoCardSaid : Prop := Claim7.holds Tryd.pinned (.plain (OpenSpec.upto fnExactKeysWithinSpec)) fnExactKeysWithinUptoCard

/-- THE SECOND FORM's CARD OF 'laws.FnExactOneThumb'. -/
def fnExactOneThumbUptoCard : Claim7 := { stood := { row := fnExactOneThumbUptoRow, standIns := [], harness := (true, "70d4a44b656238a2e73e7d2829169277caee4e42608ac00ddb180ee51f8de0d6"), looks := false }, kinds := [], alts := [], laidByText := true, laidKinds := [.data, .pinned], laidTests := true, laidLooks := .later }
def FnExactOneThumbUptoCardSaid : Prop := Claim7.holds Tryd.pinned (.plain (OpenSpec.upto fnExactOneThumbSpec)) fnExactOneThumbUptoCard

/-- THE SECOND FORM's CARD OF 'laws.FnExactKeysOfMoves'. -/
def fnExactKeysOfMovesUptoCard : Claim7 := { stood := { row := fnExactKeysOfMovesUptoRow, standIns := [], harness := (true, "70d4a44b656238a2e73e7d2829169277caee4e42608ac00ddb180ee51f8de0d6"), looks := false }, kinds := [], alts := [], laidByText := true, laidKinds := [.data, .pinned], laidTests := true, laidLooks := .later }
def FnExactKeysOfMovesUptoCardSaid : Prop := Claim7.holds Tryd.pinned (.plain (OpenSpec.upto fnExactKeysOfMovesSpec)) fnExactKeysOfMovesUptoCard

/-- THE SECOND FORM's CARD OF 'laws.FnExactBestStart'. -/
def fnExactBestStartUptoCard : Claim7 := { stood := { row := fnExactBestStartUptoRow, standIns := [], harness := (true, "70d4a44b656238a2e73e7d2829169277caee4e42608ac00ddb180ee51f8de0d6"), looks := false }, kinds := [], alts := [], laidByText := true, laidKinds := [.data, .pinned], laidTests := true, laidLooks := .later }
def FnExactBestStartUptoCardSaid : Prop := Claim7.holds Tryd.pinned (.plain (OpenSpec.upto fnExactBestStartSpec)) fnExactBestStartUptoCard

/-- THE SECOND FORM's CARD OF 'laws.FnExactMovesOf'. -/
def fnExactMovesOfUptoCard : Claim7 := { stood := { row := fnExactMovesOfUptoRow, standIns := [], harness := (true, "70d4a44b656238a2e73e7d2829169277caee4e42608ac00ddb180ee51f8de0d6"), looks := false }, kinds := [], alts := [], laidByText := true, laidKinds := [.data, .pinned], laidTests := true, laidLooks := .later }
def FnExactMovesOfUptoCardSaid : Prop := Claim7.holds Tryd.pinned (.plain (OpenSpec.upto fnExactMovesOfSpec)) fnExactMovesOfUptoCard

/-- THE SECOND FORM's CARD OF 'laws.FnExactLeastOrder'. -/
def fnExactLeastOrderUptoCard : Claim7 := { stood := { row := fnExactLeastOrderUptoRow, standIns := [], harness := (true, "70d4a44b656238a2e73e7d2829169277caee4e42608ac00ddb180ee51f8de0d6"), looks := false }, kinds := [], alts := [], laidByText := true, laidKinds := [.data, .pinned], laidTests := true, laidLooks := .later }
def FnExactLeastOrderUptoCardSaid : Prop := Claim7.holds Tryd.pinned (.plain (OpenSpec.upto fnExactLeastOrderSpec)) fnExactLeastOrderUptoCard

/-- THE SECOND FORM's CARD OF 'laws.FnExactThumbPlan'. -/
def fnExactThumbPlanUptoCard : Claim7 := { stood := { row := fnExactThumbPlanUptoRow, standIns := [], harness := (true, "70d4a44b656238a2e73e7d2829169277caee4e42608ac00ddb180ee51f8de0d6"), looks := false }, kinds := [], alts := [], laidByText := true, laidKinds := [.data, .pinned], laidTests := true, laidLooks := .later }
def FnExactThumbPlanUptoCardSaid : Prop := Claim7.holds Tryd.pinned (.plain (OpenSpec.upto fnExactThumbPlanSpec)) fnExactThumbPlanUptoCard
end Rows
end Go.Proofs.YtmnfknbjndonbaaDoor
