/-
  DERIVED. GIVEN WITH THE SEED: THE CARDS: each row of YtdkdpiihapmfbaaDoorRows.lean that lists a variable, with what it lists TIED to the program's text (the seventh form; the later family's looks); each row that meets fmt, with fmt's text TOLD by the authors' own Lean function (tested against real Go, not proved from fmt's source: count such statements apart). THE CARD IS WHAT COUNTS. Prove the row's statement (the work); the ties are given (YtdkdpiihapmfbaaDoorTie.lean); close each card by the builder's one call (the guide's Derived/Test/ToyasCard.lean, 'card_holds'). Laid BY PROGRAM, IN A SANDBOX (cutbox-door.mjs). By AI agents, Wed Nov 11 2026. No macro, syntax, notation, axiom, sorry.
-/
import Derived.Test.YtdkdpiihapmfbaaDoorRows
import GoSem.ClaimSeven
namespace Go.Proofs.YtdkdpiihapmfbaaDoor
namespace Rows

/-- THE TIED CARD OF 'laws.FnExactIsDictionary'. -/
def fnExactIsDictionaryCard : Claim7 := { stood := { row := fnExactIsDictionaryRow, standIns := [], harness := (true, "dff4cbad9b3caca6d18f2deca3b4f3ce3b9d49ff756746cbe491d4c8bee8c89a"), looks := false }, kinds := [], alts := [], laidByText := true, laidKinds := [.data, .pinned], laidTests := true, laidLooks := .later }
def FnExactIsDictionaryCardSaid : Prop := Claim7.holds Tryd.pinned (.plain (OpenSpec.ofChange fnExactIsDictionarySpec)) fnExactIsDictionaryCard

/-- THE TIED CARD OF 'laws.FnExactMakeDictionary'. -/
def fnExactMakeDictionaryCard : Claim7 := { stood := { row := fnExactMakeDictionaryRow, standIns := [], harness := (true, "dff4cbad9b3caca6d18f2deca3b4f3ce3b9d49ff756746cbe491d4c8bee8c89a"), looks := false }, kinds := [], alts := [], laidByText := true, laidKinds := [.data, .pinned], laidTests := true, laidLooks := .later }
def FnExactMakeDictionaryCardSaid : Prop := Claim7.holds Tryd.pinned (.plain (OpenSpec.ofChange fnExactMakeDictionarySpec)) fnExactMakeDictionaryCard

/-- THE TIED CARD OF 'laws.FnExactDictionaryText'. -/
def fnExactDictionaryTextCard : Claim7 := { stood := { row := fnExactDictionaryTextRow, standIns := [], harness := (true, "dff4cbad9b3caca6d18f2deca3b4f3ce3b9d49ff756746cbe491d4c8bee8c89a"), looks := false }, kinds := [], alts := [], laidByText := true, laidKinds := [.data, .pinned], laidTests := true, laidLooks := .later }
def FnExactDictionaryTextCardSaid : Prop := Claim7.holds Tryd.pinned (.plain (OpenSpec.ofChange fnExactDictionaryTextSpec)) fnExactDictionaryTextCard

/-- THE TIED CARD OF 'laws.FnExactParseDictionary'. -/
def fnExactParseDictionaryCard : Claim7 := { stood := { row := fnExactParseDictionaryRow, standIns := [], harness := (true, "dff4cbad9b3caca6d18f2deca3b4f3ce3b9d49ff756746cbe491d4c8bee8c89a"), looks := false }, kinds := [], alts := [], laidByText := true, laidKinds := [.data, .pinned], laidTests := true, laidLooks := .later }
def FnExactParseDictionaryCardSaid : Prop := Claim7.holds Tryd.pinned (.plain (OpenSpec.ofChange fnExactParseDictionarySpec)) fnExactParseDictionaryCard

/-- THE TIED CARD OF 'laws.FnExactDropWord'. -/
def fnExactDropWordCard : Claim7 := { stood := { row := fnExactDropWordRow, standIns := [], harness := (true, "dff4cbad9b3caca6d18f2deca3b4f3ce3b9d49ff756746cbe491d4c8bee8c89a"), looks := false }, kinds := [], alts := [], laidByText := true, laidKinds := [.data, .pinned], laidTests := true, laidLooks := .later }
def FnExactDropWordCardSaid : Prop := Claim7.holds Tryd.pinned (.plain (OpenSpec.ofChange fnExactDropWordSpec)) fnExactDropWordCard

/-- THE TIED CARD OF 'laws.FnExactAddWord'. -/
def fnExactAddWordCard : Claim7 := { stood := { row := fnExactAddWordRow, standIns := [], harness := (true, "dff4cbad9b3caca6d18f2deca3b4f3ce3b9d49ff756746cbe491d4c8bee8c89a"), looks := false }, kinds := [], alts := [], laidByText := true, laidKinds := [.data, .pinned], laidTests := true, laidLooks := .later }
def FnExactAddWordCardSaid : Prop := Claim7.holds Tryd.pinned (.plain (OpenSpec.ofChange fnExactAddWordSpec)) fnExactAddWordCard

/-- THE TIED CARD OF 'laws.FnExactKeysOfAll'. -/
def fnExactKeysOfAllCard : Claim7 := { stood := { row := fnExactKeysOfAllRow, standIns := [], harness := (true, "dff4cbad9b3caca6d18f2deca3b4f3ce3b9d49ff756746cbe491d4c8bee8c89a"), looks := false }, kinds := [], alts := [], laidByText := true, laidKinds := [.data, .pinned], laidTests := true, laidLooks := .later }
def FnExactKeysOfAllCardSaid : Prop := Claim7.holds Tryd.pinned (.plain (OpenSpec.ofChange fnExactKeysOfAllSpec)) fnExactKeysOfAllCard

/-- THE TIED CARD OF 'laws.FnExactNextKeysOf'. -/
def fnExactNextKeysOfCard : Claim7 := { stood := { row := fnExactNextKeysOfRow, standIns := [], harness := (true, "dff4cbad9b3caca6d18f2deca3b4f3ce3b9d49ff756746cbe491d4c8bee8c89a"), looks := false }, kinds := [], alts := [], laidByText := true, laidKinds := [.data, .pinned], laidTests := true, laidLooks := .later }
def FnExactNextKeysOfCardSaid : Prop := Claim7.holds Tryd.pinned (.plain (OpenSpec.ofChange fnExactNextKeysOfSpec)) fnExactNextKeysOfCard

/-- THE TIED CARD OF 'laws.FnExactWordsFor'. -/
def fnExactWordsForCard : Claim7 := { stood := { row := fnExactWordsForRow, standIns := [], harness := (true, "dff4cbad9b3caca6d18f2deca3b4f3ce3b9d49ff756746cbe491d4c8bee8c89a"), looks := false }, kinds := [], alts := [], laidByText := true, laidKinds := [.data, .pinned], laidTests := true, laidLooks := .later }
def FnExactWordsForCardSaid : Prop := Claim7.holds Tryd.pinned (.plain (OpenSpec.ofChange fnExactWordsForSpec)) fnExactWordsForCard

/-- THE TIED CARD OF 'laws.FnExactWordsBeginning'. -/
def fnExactWordsBeginningCard : Claim7 := { stood := { row := fnExactWordsBeginningRow, standIns := [], harness := (true, "dff4cbad9b3caca6d18f2deca3b4f3ce3b9d49ff756746cbe491d4c8bee8c89a"), looks := false }, kinds := [], alts := [], laidByText := true, laidKinds := [.data, .pinned], laidTests := true, laidLooks := .later }
def FnExactWordsBeginningCardSaid : Prop := Claim7.holds Tryd.pinned (.plain (OpenSpec.ofChange fnExactWordsBeginningSpec)) fnExactWordsBeginningCard

/-- THE TIED CARD OF 'laws.FnExactSureAfter'. -/
def fnExactSureAfterCard : Claim7 := { stood := { row := fnExactSureAfterRow, standIns := [], harness := (true, "dff4cbad9b3caca6d18f2deca3b4f3ce3b9d49ff756746cbe491d4c8bee8c89a"), looks := false }, kinds := [], alts := [], laidByText := true, laidKinds := [.data, .pinned], laidTests := true, laidLooks := .later }
def FnExactSureAfterCardSaid : Prop := Claim7.holds Tryd.pinned (.plain (OpenSpec.ofChange fnExactSureAfterSpec)) fnExactSureAfterCard

/-- THE TIED CARD OF 'laws.FnExactPressesWithNext'. -/
def fnExactPressesWithNextCard : Claim7 := { stood := { row := fnExactPressesWithNextRow, standIns := [], harness := (true, "dff4cbad9b3caca6d18f2deca3b4f3ce3b9d49ff756746cbe491d4c8bee8c89a"), looks := false }, kinds := [], alts := [], laidByText := true, laidKinds := [.data, .pinned], laidTests := true, laidLooks := .later }
def FnExactPressesWithNextCardSaid : Prop := Claim7.holds Tryd.pinned (.plain (OpenSpec.ofChange fnExactPressesWithNextSpec)) fnExactPressesWithNextCard

/-- THE SECOND FORM's CARD OF 'laws.FnExactIsDictionary'. -/
def fnExactIsDictionaryUptoCard : Claim7 := { stood := { row := fnExactIsDictionaryUptoRow, standIns := [], harness := (true, "dff4cbad9b3caca6d18f2deca3b4f3ce3b9d49ff756746cbe491d4c8bee8c89a"), looks := false }, kinds := [], alts := [], laidByText := true, laidKinds := [.data, .pinned], laidTests := true, laidLooks := .later }
def FnExactIsDictionaryUptoCardSaid : Prop := Claim7.holds Tryd.pinned (.plain (OpenSpec.upto fnExactIsDictionarySpec)) fnExactIsDictionaryUptoCard

/-- THE SECOND FORM's CARD OF 'laws.FnExactMakeDictionary'. -/
def fnExactMakeDictionaryUptoCard : Claim7 := { stood := { row := fnExactMakeDictionaryUptoRow, standIns := [], harness := (true, "dff4cbad9b3caca6d18f2deca3b4f3ce3b9d49ff756746cbe491d4c8bee8c89a"), looks := false }, kinds := [], alts := [], laidByText := true, laidKinds := [.data, .pinned], laidTests := true, laidLooks := .later }
def FnExactMakeDictionaryUptoCardSaid : Prop := Claim7.holds Tryd.pinned (.plain (OpenSpec.upto fnExactMakeDictionarySpec)) fnExactMakeDictionaryUptoCard

/-- THE SECOND FORM's CARD OF 'laws.FnExactDictionaryText'. -/
def fnExactDictionaryTextUptoCard : Claim7 := { stood := { row := fnExactDictionaryTextUptoRow, standIns := [], harness := (true, "dff4cbad9b3caca6d18f2deca3b4f3ce3b9d49ff756746cbe491d4c8bee8c89a"), looks := false }, kinds := [], alts := [], laidByText := true, laidKinds := [.data, .pinned], laidTests := true, laidLooks := .later }
def FnExactDictionaryTextUptoCardSaid : Prop := Claim7.holds Tryd.pinned (.plain (OpenSpec.upto fnExactDictionaryTextSpec)) fnExactDictionaryTextUptoCard

/-- THE SECOND FORM's CARD OF 'laws.FnExactParseDictionary'. -/
def fnExactParseDictionaryUptoCard : Claim7 := { stood := { row := fnExactParseDictionaryUptoRow, standIns := [], harness := (true, "dff4cbad9b3caca6d18f2deca3b4f3ce3b9d49ff756746cbe491d4c8bee8c89a"), looks := false }, kinds := [], alts := [], laidByText := true, laidKinds := [.data, .pinned], laidTests := true, laidLooks := .later }
def FnExactParseDictionaryUptoCardSaid : Prop := Claim7.holds Tryd.pinned (.plain (OpenSpec.upto fnExactParseDictionarySpec)) fnExactParseDictionaryUptoCard

/-- THE SECOND FORM's CARD OF 'laws.FnExactDropWord'. -/
def fnExactDropWordUptoCard : Claim7 := { stood := { row := fnExactDropWordUptoRow, standIns := [], harness := (true, "dff4cbad9b3caca6d18f2deca3b4f3ce3b9d49ff756746cbe491d4c8bee8c89a"), looks := false }, kinds := [], alts := [], laidByText := true, laidKinds := [.data, .pinned], laidTests := true, laidLooks := .later }
def FnExactDropWordUptoCardSaid : Prop := Claim7.holds Tryd.pinned (.plain (OpenSpec.upto fnExactDropWordSpec)) fnExactDropWordUptoCard

/-- THE SECOND FORM's CARD OF 'laws.FnExactAddWord'. -/
def fnExactAddWordUptoCard : Claim7 := { stood := { row := fnExactAddWordUptoRow, standIns := [], harness := (true, "dff4cbad9b3caca6d18f2deca3b4f3ce3b9d49ff756746cbe491d4c8bee8c89a"), looks := false }, kinds := [], alts := [], laidByText := true, laidKinds := [.data, .pinned], laidTests := true, laidLooks := .later }
def FnExactAddWordUptoCardSaid : Prop := Claim7.holds Tryd.pinned (.plain (OpenSpec.upto fnExactAddWordSpec)) fnExactAddWordUptoCard

/-- THE SECOND FORM's CARD OF 'laws.FnExactKeysOfAll'. -/
def fnExactKeysOfAllUptoCard : Claim7 := { stood := { row := fnExactKeysOfAllUptoRow, standIns := [], harness := (true, "dff4cbad9b3caca6d18f2deca3b4f3ce3b9d49ff756746cbe491d4c8bee8c89a"), looks := false }, kinds := [], alts := [], laidByText := true, laidKinds := [.data, .pinned], laidTests := true, laidLooks := .later }
def FnExactKeysOfAllUptoCardSaid : Prop := Claim7.holds Tryd.pinned (.plain (OpenSpec.upto fnExactKeysOfAllSpec)) fnExactKeysOfAllUptoCard

/-- THE SECOND FORM's CARD OF 'laws.FnExactNextKeysOf'. -/
def fnExactNextKeysOfUptoCard : Claim7 := { stood := { row := fnExactNextKeysOfUptoRow, standIns := [], harness := (true, "dff4cbad9b3caca6d18f2deca3b4f3ce3b9d49ff756746cbe491d4c8bee8c89a"), looks := false }, kinds := [], alts := [], laidByText := true, laidKinds := [.data, .pinned], laidTests := true, laidLooks := .later }
def FnExactNextKeysOfUptoCardSaid : Prop := Claim7.holds Tryd.pinned (.plain (OpenSpec.upto fnExactNextKeysOfSpec)) fnExactNextKeysOfUptoCard

/-- THE SECOND FORM's CARD OF 'laws.FnExactWordsFor'. -/
def fnExactWordsForUptoCard : Claim7 := { stood := { row := fnExactWordsForUptoRow, standIns := [], harness := (true, "dff4cbad9b3caca6d18f2deca3b4f3ce3b9d49ff756746cbe491d4c8bee8c89a"), looks := false }, kinds := [], alts := [], laidByText := true, laidKinds := [.data, .pinned], laidTests := true, laidLooks := .later }
def FnExactWordsForUptoCardSaid : Prop := Claim7.holds Tryd.pinned (.plain (OpenSpec.upto fnExactWordsForSpec)) fnExactWordsForUptoCard

/-- THE SECOND FORM's CARD OF 'laws.FnExactWordsBeginning'. -/
def fnExactWordsBeginningUptoCard : Claim7 := { stood := { row := fnExactWordsBeginningUptoRow, standIns := [], harness := (true, "dff4cbad9b3caca6d18f2deca3b4f3ce3b9d49ff756746cbe491d4c8bee8c89a"), looks := false }, kinds := [], alts := [], laidByText := true, laidKinds := [.data, .pinned], laidTests := true, laidLooks := .later }
def FnExactWordsBeginningUptoCardSaid : Prop := Claim7.holds Tryd.pinned (.plain (OpenSpec.upto fnExactWordsBeginningSpec)) fnExactWordsBeginningUptoCard

/-- THE SECOND FORM's CARD OF 'laws.FnExactSureAfter'. -/
def fnExactSureAfterUptoCard : Claim7 := { stood := { row := fnExactSureAfterUptoRow, standIns := [], harness := (true, "dff4cbad9b3caca6d18f2deca3b4f3ce3b9d49ff756746cbe491d4c8bee8c89a"), looks := false }, kinds := [], alts := [], laidByText := true, laidKinds := [.data, .pinned], laidTests := true, laidLooks := .later }
def FnExactSureAfterUptoCardSaid : Prop := Claim7.holds Tryd.pinned (.plain (OpenSpec.upto fnExactSureAfterSpec)) fnExactSureAfterUptoCard

/-- THE SECOND FORM's CARD OF 'laws.FnExactPressesWithNext'. -/
def fnExactPressesWithNextUptoCard : Claim7 := { stood := { row := fnExactPressesWithNextUptoRow, standIns := [], harness := (true, "dff4cbad9b3caca6d18f2deca3b4f3ce3b9d49ff756746cbe491d4c8bee8c89a"), looks := false }, kinds := [], alts := [], laidByText := true, laidKinds := [.data, .pinned], laidTests := true, laidLooks := .later }
def FnExactPressesWithNextUptoCardSaid : Prop := Claim7.holds Tryd.pinned (.plain (OpenSpec.upto fnExactPressesWithNextSpec)) fnExactPressesWithNextUptoCard
end Rows
end Go.Proofs.YtdkdpiihapmfbaaDoor
