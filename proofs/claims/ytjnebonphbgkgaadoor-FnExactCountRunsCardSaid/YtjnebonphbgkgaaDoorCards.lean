/-
  DERIVED. GIVEN WITH THE SEED: THE CARDS: each row of YtjnebonphbgkgaaDoorRows.lean that lists a variable, with what it lists TIED to the program's text (the seventh form; the later family's looks); each row that meets fmt, with fmt's text TOLD by the authors' own Lean function (tested against real Go, not proved from fmt's source: count such statements apart). THE CARD IS WHAT COUNTS. Prove the row's statement (the work); the ties are given (YtjnebonphbgkgaaDoorTie.lean); close each card by the builder's one call (the guide's Derived/Test/ToyasCard.lean, 'card_holds'). Laid BY PROGRAM, IN A SANDBOX (cutbox-door.mjs). By AI agents, Wed Nov 11 2026. No macro, syntax, notation, axiom, sorry.
-/
import Derived.Test.YtjnebonphbgkgaaDoorRows
import GoSem.ClaimSeven
namespace Go.Proofs.YtjnebonphbgkgaaDoor
namespace Rows

/-- THE TIED CARD OF 'laws.FnExactIsWord'. -/
def fnExactIsWordCard : Claim7 := { stood := { row := fnExactIsWordRow, standIns := [], harness := (true, "f2c125f4a8a38e4b1916d5be4db5842fc56a9792b0c43e17eb82c1b98c063548"), looks := false }, kinds := [], alts := [], laidByText := true, laidKinds := [.data, .pinned], laidTests := true, laidLooks := .later }
def FnExactIsWordCardSaid : Prop := Claim7.holds Tryd.pinned (.plain (OpenSpec.ofChange fnExactIsWordSpec)) fnExactIsWordCard

/-- THE TIED CARD OF 'laws.FnExactKeyOf'. -/
def fnExactKeyOfCard : Claim7 := { stood := { row := fnExactKeyOfRow, standIns := [], harness := (true, "f2c125f4a8a38e4b1916d5be4db5842fc56a9792b0c43e17eb82c1b98c063548"), looks := false }, kinds := [], alts := [], laidByText := true, laidKinds := [.data, .pinned], laidTests := true, laidLooks := .later }
def FnExactKeyOfCardSaid : Prop := Claim7.holds Tryd.pinned (.plain (OpenSpec.ofChange fnExactKeyOfSpec)) fnExactKeyOfCard

/-- THE TIED CARD OF 'laws.FnExactPressesFor'. -/
def fnExactPressesForCard : Claim7 := { stood := { row := fnExactPressesForRow, standIns := [], harness := (true, "f2c125f4a8a38e4b1916d5be4db5842fc56a9792b0c43e17eb82c1b98c063548"), looks := false }, kinds := [], alts := [], laidByText := true, laidKinds := [.data, .pinned], laidTests := true, laidLooks := .later }
def FnExactPressesForCardSaid : Prop := Claim7.holds Tryd.pinned (.plain (OpenSpec.ofChange fnExactPressesForSpec)) fnExactPressesForCard

/-- THE TIED CARD OF 'laws.FnExactCountPresses'. -/
def fnExactCountPressesCard : Claim7 := { stood := { row := fnExactCountPressesRow, standIns := [], harness := (true, "f2c125f4a8a38e4b1916d5be4db5842fc56a9792b0c43e17eb82c1b98c063548"), looks := false }, kinds := [], alts := [], laidByText := true, laidKinds := [.data, .pinned], laidTests := true, laidLooks := .later }
def FnExactCountPressesCardSaid : Prop := Claim7.holds Tryd.pinned (.plain (OpenSpec.ofChange fnExactCountPressesSpec)) fnExactCountPressesCard

/-- THE TIED CARD OF 'laws.FnExactKeysOf'. -/
def fnExactKeysOfCard : Claim7 := { stood := { row := fnExactKeysOfRow, standIns := [], harness := (true, "f2c125f4a8a38e4b1916d5be4db5842fc56a9792b0c43e17eb82c1b98c063548"), looks := false }, kinds := [], alts := [], laidByText := true, laidKinds := [.data, .pinned], laidTests := true, laidLooks := .later }
def FnExactKeysOfCardSaid : Prop := Claim7.holds Tryd.pinned (.plain (OpenSpec.ofChange fnExactKeysOfSpec)) fnExactKeysOfCard

/-- THE TIED CARD OF 'laws.FnExactCountSameKeys'. -/
def fnExactCountSameKeysCard : Claim7 := { stood := { row := fnExactCountSameKeysRow, standIns := [], harness := (true, "f2c125f4a8a38e4b1916d5be4db5842fc56a9792b0c43e17eb82c1b98c063548"), looks := false }, kinds := [], alts := [], laidByText := true, laidKinds := [.data, .pinned], laidTests := true, laidLooks := .later }
def FnExactCountSameKeysCardSaid : Prop := Claim7.holds Tryd.pinned (.plain (OpenSpec.ofChange fnExactCountSameKeysSpec)) fnExactCountSameKeysCard

/-- THE TIED CARD OF 'laws.FnExactFirstWord'. -/
def fnExactFirstWordCard : Claim7 := { stood := { row := fnExactFirstWordRow, standIns := [], harness := (true, "f2c125f4a8a38e4b1916d5be4db5842fc56a9792b0c43e17eb82c1b98c063548"), looks := false }, kinds := [], alts := [], laidByText := true, laidKinds := [.data, .pinned], laidTests := true, laidLooks := .later }
def FnExactFirstWordCardSaid : Prop := Claim7.holds Tryd.pinned (.plain (OpenSpec.ofChange fnExactFirstWordSpec)) fnExactFirstWordCard

/-- THE TIED CARD OF 'laws.FnExactWordOfRank'. -/
def fnExactWordOfRankCard : Claim7 := { stood := { row := fnExactWordOfRankRow, standIns := [], harness := (true, "f2c125f4a8a38e4b1916d5be4db5842fc56a9792b0c43e17eb82c1b98c063548"), looks := false }, kinds := [], alts := [], laidByText := true, laidKinds := [.data, .pinned], laidTests := true, laidLooks := .later }
def FnExactWordOfRankCardSaid : Prop := Claim7.holds Tryd.pinned (.plain (OpenSpec.ofChange fnExactWordOfRankSpec)) fnExactWordOfRankCard

/-- THE TIED CARD OF 'laws.FnExactRankOfWord'. -/
def fnExactRankOfWordCard : Claim7 := { stood := { row := fnExactRankOfWordRow, standIns := [], harness := (true, "f2c125f4a8a38e4b1916d5be4db5842fc56a9792b0c43e17eb82c1b98c063548"), looks := false }, kinds := [], alts := [], laidByText := true, laidKinds := [.data, .pinned], laidTests := true, laidLooks := .later }
def FnExactRankOfWordCardSaid : Prop := Claim7.holds Tryd.pinned (.plain (OpenSpec.ofChange fnExactRankOfWordSpec)) fnExactRankOfWordCard

/-- THE TIED CARD OF 'laws.FnExactSameKeys'. -/
def fnExactSameKeysCard : Claim7 := { stood := { row := fnExactSameKeysRow, standIns := [], harness := (true, "f2c125f4a8a38e4b1916d5be4db5842fc56a9792b0c43e17eb82c1b98c063548"), looks := false }, kinds := [], alts := [], laidByText := true, laidKinds := [.data, .pinned], laidTests := true, laidLooks := .later }
def FnExactSameKeysCardSaid : Prop := Claim7.holds Tryd.pinned (.plain (OpenSpec.ofChange fnExactSameKeysSpec)) fnExactSameKeysCard

/-- THE TIED CARD OF 'laws.FnExactCollapseText'. -/
def fnExactCollapseTextCard : Claim7 := { stood := { row := fnExactCollapseTextRow, standIns := [], harness := (true, "f2c125f4a8a38e4b1916d5be4db5842fc56a9792b0c43e17eb82c1b98c063548"), looks := false }, kinds := [], alts := [], laidByText := true, laidKinds := [.data, .pinned], laidTests := true, laidLooks := .later }
def FnExactCollapseTextCardSaid : Prop := Claim7.holds Tryd.pinned (.plain (OpenSpec.ofChange fnExactCollapseTextSpec)) fnExactCollapseTextCard

/-- THE TIED CARD OF 'laws.FnExactCountRuns'. -/
def fnExactCountRunsCard : Claim7 := { stood := { row := fnExactCountRunsRow, standIns := [], harness := (true, "f2c125f4a8a38e4b1916d5be4db5842fc56a9792b0c43e17eb82c1b98c063548"), looks := false }, kinds := [], alts := [], laidByText := true, laidKinds := [.data, .pinned], laidTests := true, laidLooks := .later }
def FnExactCountRunsCardSaid : Prop := Claim7.holds Tryd.pinned (.plain (OpenSpec.ofChange fnExactCountRunsSpec)) fnExactCountRunsCard

/-- THE SECOND FORM's CARD OF 'laws.FnExactIsWord'. -/
def fnExactIsWordUptoCard : Claim7 := { stood := { row := fnExactIsWordUptoRow, standIns := [], harness := (true, "f2c125f4a8a38e4b1916d5be4db5842fc56a9792b0c43e17eb82c1b98c063548"), looks := false }, kinds := [], alts := [], laidByText := true, laidKinds := [.data, .pinned], laidTests := true, laidLooks := .later }
def FnExactIsWordUptoCardSaid : Prop := Claim7.holds Tryd.pinned (.plain (OpenSpec.upto fnExactIsWordSpec)) fnExactIsWordUptoCard

/-- THE SECOND FORM's CARD OF 'laws.FnExactKeyOf'. -/
def fnExactKeyOfUptoCard : Claim7 := { stood := { row := fnExactKeyOfUptoRow, standIns := [], harness := (true, "f2c125f4a8a38e4b1916d5be4db5842fc56a9792b0c43e17eb82c1b98c063548"), looks := false }, kinds := [], alts := [], laidByText := true, laidKinds := [.data, .pinned], laidTests := true, laidLooks := .later }
def FnExactKeyOfUptoCardSaid : Prop := Claim7.holds Tryd.pinned (.plain (OpenSpec.upto fnExactKeyOfSpec)) fnExactKeyOfUptoCard

/-- THE SECOND FORM's CARD OF 'laws.FnExactPressesFor'. -/
def fnExactPressesForUptoCard : Claim7 := { stood := { row := fnExactPressesForUptoRow, standIns := [], harness := (true, "f2c125f4a8a38e4b1916d5be4db5842fc56a9792b0c43e17eb82c1b98c063548"), looks := false }, kinds := [], alts := [], laidByText := true, laidKinds := [.data, .pinned], laidTests := true, laidLooks := .later }
def FnExactPressesForUptoCardSaid : Prop := Claim7.holds Tryd.pinned (.plain (OpenSpec.upto fnExactPressesForSpec)) fnExactPressesForUptoCard

/-- THE SECOND FORM's CARD OF 'laws.FnExactCountPresses'. -/
def fnExactCountPressesUptoCard : Claim7 := { stood := { row := fnExactCountPressesUptoRow, standIns := [], harness := (true, "f2c125f4a8a38e4b1916d5be4db5842fc56a9792b0c43e17eb82c1b98c063548"), looks := false }, kinds := [], alts := [], laidByText := true, laidKinds := [.data, .pinned], laidTests := true, laidLooks := .later }
def FnExactCountPressesUptoCardSaid : Prop := Claim7.holds Tryd.pinned (.plain (OpenSpec.upto fnExactCountPressesSpec)) fnExactCountPressesUptoCard

/-- THE SECOND FORM's CARD OF 'laws.FnExactKeysOf'. -/
def fnExactKeysOfUptoCard : Claim7 := { stood := { row := fnExactKeysOfUptoRow, standIns := [], harness := (true, "f2c125f4a8a38e4b1916d5be4db5842fc56a9792b0c43e17eb82c1b98c063548"), looks := false }, kinds := [], alts := [], laidByText := true, laidKinds := [.data, .pinned], laidTests := true, laidLooks := .later }
def FnExactKeysOfUptoCardSaid : Prop := Claim7.holds Tryd.pinned (.plain (OpenSpec.upto fnExactKeysOfSpec)) fnExactKeysOfUptoCard

/-- THE SECOND FORM's CARD OF 'laws.FnExactCountSameKeys'. -/
def fnExactCountSameKeysUptoCard : Claim7 := { stood := { row := fnExactCountSameKeysUptoRow, standIns := [], harness := (true, "f2c125f4a8a38e4b1916d5be4db5842fc56a9792b0c43e17eb82c1b98c063548"), looks := false }, kinds := [], alts := [], laidByText := true, laidKinds := [.data, .pinned], laidTests := true, laidLooks := .later }
def FnExactCountSameKeysUptoCardSaid : Prop := Claim7.holds Tryd.pinned (.plain (OpenSpec.upto fnExactCountSameKeysSpec)) fnExactCountSameKeysUptoCard

/-- THE SECOND FORM's CARD OF 'laws.FnExactFirstWord'. -/
def fnExactFirstWordUptoCard : Claim7 := { stood := { row := fnExactFirstWordUptoRow, standIns := [], harness := (true, "f2c125f4a8a38e4b1916d5be4db5842fc56a9792b0c43e17eb82c1b98c063548"), looks := false }, kinds := [], alts := [], laidByText := true, laidKinds := [.data, .pinned], laidTests := true, laidLooks := .later }
def FnExactFirstWordUptoCardSaid : Prop := Claim7.holds Tryd.pinned (.plain (OpenSpec.upto fnExactFirstWordSpec)) fnExactFirstWordUptoCard

/-- THE SECOND FORM's CARD OF 'laws.FnExactWordOfRank'. -/
def fnExactWordOfRankUptoCard : Claim7 := { stood := { row := fnExactWordOfRankUptoRow, standIns := [], harness := (true, "f2c125f4a8a38e4b1916d5be4db5842fc56a9792b0c43e17eb82c1b98c063548"), looks := false }, kinds := [], alts := [], laidByText := true, laidKinds := [.data, .pinned], laidTests := true, laidLooks := .later }
def FnExactWordOfRankUptoCardSaid : Prop := Claim7.holds Tryd.pinned (.plain (OpenSpec.upto fnExactWordOfRankSpec)) fnExactWordOfRankUptoCard

/-- THE SECOND FORM's CARD OF 'laws.FnExactRankOfWord'. -/
def fnExactRankOfWordUptoCard : Claim7 := { stood := { row := fnExactRankOfWordUptoRow, standIns := [], harness := (true, "f2c125f4a8a38e4b1916d5be4db5842fc56a9792b0c43e17eb82c1b98c063548"), looks := false }, kinds := [], alts := [], laidByText := true, laidKinds := [.data, .pinned], laidTests := true, laidLooks := .later }
def FnExactRankOfWordUptoCardSaid : Prop := Claim7.holds Tryd.pinned (.plain (OpenSpec.upto fnExactRankOfWordSpec)) fnExactRankOfWordUptoCard

/-- THE SECOND FORM's CARD OF 'laws.FnExactSameKeys'. -/
def fnExactSameKeysUptoCard : Claim7 := { stood := { row := fnExactSameKeysUptoRow, standIns := [], harness := (true, "f2c125f4a8a38e4b1916d5be4db5842fc56a9792b0c43e17eb82c1b98c063548"), looks := false }, kinds := [], alts := [], laidByText := true, laidKinds := [.data, .pinned], laidTests := true, laidLooks := .later }
def FnExactSameKeysUptoCardSaid : Prop := Claim7.holds Tryd.pinned (.plain (OpenSpec.upto fnExactSameKeysSpec)) fnExactSameKeysUptoCard

/-- THE SECOND FORM's CARD OF 'laws.FnExactCollapseText'. -/
def fnExactCollapseTextUptoCard : Claim7 := { stood := { row := fnExactCollapseTextUptoRow, standIns := [], harness := (true, "f2c125f4a8a38e4b1916d5be4db5842fc56a9792b0c43e17eb82c1b98c063548"), looks := false }, kinds := [], alts := [], laidByText := true, laidKinds := [.data, .pinned], laidTests := true, laidLooks := .later }
def FnExactCollapseTextUptoCardSaid : Prop := Claim7.holds Tryd.pinned (.plain (OpenSpec.upto fnExactCollapseTextSpec)) fnExactCollapseTextUptoCard

/-- THE SECOND FORM's CARD OF 'laws.FnExactCountRuns'. -/
def fnExactCountRunsUptoCard : Claim7 := { stood := { row := fnExactCountRunsUptoRow, standIns := [], harness := (true, "f2c125f4a8a38e4b1916d5be4db5842fc56a9792b0c43e17eb82c1b98c063548"), looks := false }, kinds := [], alts := [], laidByText := true, laidKinds := [.data, .pinned], laidTests := true, laidLooks := .later }
def FnExactCountRunsUptoCardSaid : Prop := Claim7.holds Tryd.pinned (.plain (OpenSpec.upto fnExactCountRunsSpec)) fnExactCountRunsUptoCard
end Rows
end Go.Proofs.YtjnebonphbgkgaaDoor
