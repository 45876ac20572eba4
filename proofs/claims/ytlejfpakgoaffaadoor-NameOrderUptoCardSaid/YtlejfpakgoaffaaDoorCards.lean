/-
  DERIVED. GIVEN WITH THE SEED: THE CARDS: each row of YtlejfpakgoaffaaDoorRows.lean that lists a variable, with what it lists TIED to the program's text (the seventh form; the later family's looks); each row that meets fmt, with fmt's text TOLD by the authors' own Lean function (tested against real Go, not proved from fmt's source: count such statements apart). THE CARD IS WHAT COUNTS. Prove the row's statement (the work); the ties are given (YtlejfpakgoaffaaDoorTie.lean); close each card by the builder's one call (the guide's Derived/Test/ToyasCard.lean, 'card_holds'). Laid BY PROGRAM, IN A SANDBOX (cutbox-door.mjs). By AI agents, Wed Nov 11 2026. No macro, syntax, notation, axiom, sorry.
-/
import Derived.Test.YtlejfpakgoaffaaDoorRows
import GoSem.ClaimSeven
namespace Go.Proofs.YtlejfpakgoaffaaDoor
namespace Rows

/-- THE TIED CARD OF 'budwoodlaw02.NameChecks'. -/
def nameChecksCard : Claim7 := { stood := { row := nameChecksRow, standIns := [], harness := (true, "c8059561b9e3ebfa7a44aaa336fe5c914c4e8f3bdf98766e8e38aa5ac5c3b480"), looks := false }, kinds := [], alts := [], laidByText := true, laidKinds := [.data, .pinned], laidTests := true, laidLooks := .later }
def NameChecksCardSaid : Prop := Claim7.holds Tryd.pinned (.plain (OpenSpec.ofChange nameChecksSpec)) nameChecksCard

/-- THE TIED CARD OF 'budwoodlaw02.NameSplits'. -/
def nameSplitsCard : Claim7 := { stood := { row := nameSplitsRow, standIns := [], harness := (true, "c8059561b9e3ebfa7a44aaa336fe5c914c4e8f3bdf98766e8e38aa5ac5c3b480"), looks := false }, kinds := [], alts := [], laidByText := true, laidKinds := [.data, .pinned], laidTests := true, laidLooks := .later }
def NameSplitsCardSaid : Prop := Claim7.holds Tryd.pinned (.plain (OpenSpec.ofChange nameSplitsSpec)) nameSplitsCard

/-- THE TIED CARD OF 'budwoodlaw02.NameOrder'. -/
def nameOrderCard : Claim7 := { stood := { row := nameOrderRow, standIns := [], harness := (true, "c8059561b9e3ebfa7a44aaa336fe5c914c4e8f3bdf98766e8e38aa5ac5c3b480"), looks := false }, kinds := [], alts := [], laidByText := true, laidKinds := [.data, .pinned], laidTests := true, laidLooks := .later }
def NameOrderCardSaid : Prop := Claim7.holds Tryd.pinned (.plain (OpenSpec.ofChange nameOrderSpec)) nameOrderCard

/-- THE TIED CARD OF 'budwoodlaw02.NameFolded'. -/
def nameFoldedCard : Claim7 := { stood := { row := nameFoldedRow, standIns := [], harness := (true, "c8059561b9e3ebfa7a44aaa336fe5c914c4e8f3bdf98766e8e38aa5ac5c3b480"), looks := false }, kinds := [], alts := [], laidByText := true, laidKinds := [.data, .pinned], laidTests := true, laidLooks := .later }
def NameFoldedCardSaid : Prop := Claim7.holds Tryd.pinned (.plain (OpenSpec.ofChange nameFoldedSpec)) nameFoldedCard

/-- THE TIED CARD OF 'budwoodlaw02.NameFolds'. -/
def nameFoldsCard : Claim7 := { stood := { row := nameFoldsRow, standIns := [], harness := (true, "c8059561b9e3ebfa7a44aaa336fe5c914c4e8f3bdf98766e8e38aa5ac5c3b480"), looks := false }, kinds := [], alts := [], laidByText := true, laidKinds := [.data, .pinned], laidTests := true, laidLooks := .later }
def NameFoldsCardSaid : Prop := Claim7.holds Tryd.pinned (.plain (OpenSpec.ofChange nameFoldsSpec)) nameFoldsCard

/-- THE TIED CARD OF 'budwoodlaw02.NameJoins'. -/
def nameJoinsCard : Claim7 := { stood := { row := nameJoinsRow, standIns := [], harness := (true, "c8059561b9e3ebfa7a44aaa336fe5c914c4e8f3bdf98766e8e38aa5ac5c3b480"), looks := false }, kinds := [], alts := [], laidByText := true, laidKinds := [.data, .data, .data, .data, .pinned], laidTests := true, laidLooks := .later }
def NameJoinsCardSaid : Prop := Claim7.holds Tryd.pinned (.plain (OpenSpec.ofChange nameJoinsSpec)) nameJoinsCard

/-- THE TIED CARD OF 'budwoodlaw02.NameBack'. -/
def nameBackCard : Claim7 := { stood := { row := nameBackRow, standIns := [], harness := (true, "c8059561b9e3ebfa7a44aaa336fe5c914c4e8f3bdf98766e8e38aa5ac5c3b480"), looks := false }, kinds := [], alts := [], laidByText := true, laidKinds := [.data, .data, .data, .data, .pinned], laidTests := true, laidLooks := .later }
def NameBackCardSaid : Prop := Claim7.holds Tryd.pinned (.plain (OpenSpec.ofChange nameBackSpec)) nameBackCard

/-- THE TIED CARD OF 'budwoodlaw02.NameVersions'. -/
def nameVersionsCard : Claim7 := { stood := { row := nameVersionsRow, standIns := [], harness := (true, "c8059561b9e3ebfa7a44aaa336fe5c914c4e8f3bdf98766e8e38aa5ac5c3b480"), looks := false }, kinds := [], alts := [], laidByText := true, laidKinds := [.data, .data, .data, .data, .pinned], laidTests := true, laidLooks := .later }
def NameVersionsCardSaid : Prop := Claim7.holds Tryd.pinned (.plain (OpenSpec.ofChange nameVersionsSpec)) nameVersionsCard

/-- THE SECOND FORM's CARD OF 'budwoodlaw02.NameChecks'. -/
def nameChecksUptoCard : Claim7 := { stood := { row := nameChecksUptoRow, standIns := [], harness := (true, "c8059561b9e3ebfa7a44aaa336fe5c914c4e8f3bdf98766e8e38aa5ac5c3b480"), looks := false }, kinds := [], alts := [], laidByText := true, laidKinds := [.data, .pinned], laidTests := true, laidLooks := .later }
def NameChecksUptoCardSaid : Prop := Claim7.holds Tryd.pinned (.plain (OpenSpec.upto nameChecksSpec)) nameChecksUptoCard

/-- THE SECOND FORM's CARD OF 'budwoodlaw02.NameSplits'. -/
def nameSplitsUptoCard : Claim7 := { stood := { row := nameSplitsUptoRow, standIns := [], harness := (true, "c8059561b9e3ebfa7a44aaa336fe5c914c4e8f3bdf98766e8e38aa5ac5c3b480"), looks := false }, kinds := [], alts := [], laidByText := true, laidKinds := [.data, .pinned], laidTests := true, laidLooks := .later }
def NameSplitsUptoCardSaid : Prop := Claim7.holds Tryd.pinned (.plain (OpenSpec.upto nameSplitsSpec)) nameSplitsUptoCard

/-- THE SECOND FORM's CARD OF 'budwoodlaw02.NameOrder'. -/
def nameOrderUptoCard : Claim7 := { stood := { row := nameOrderUptoRow, standIns := [], harness := (true, "c8059561b9e3ebfa7a44aaa336fe5c914c4e8f3bdf98766e8e38aa5ac5c3b480"), looks := false }, kinds := [], alts := [], laidByText := true, laidKinds := [.data, .pinned], laidTests := true, laidLooks := .later }
def NameOrderUptoCardSaid : Prop := Claim7.holds Tryd.pinned (.plain (OpenSpec.upto nameOrderSpec)) nameOrderUptoCard

/-- THE SECOND FORM's CARD OF 'budwoodlaw02.NameFolded'. -/
def nameFoldedUptoCard : Claim7 := { stood := { row := nameFoldedUptoRow, standIns := [], harness := (true, "c8059561b9e3ebfa7a44aaa336fe5c914c4e8f3bdf98766e8e38aa5ac5c3b480"), looks := false }, kinds := [], alts := [], laidByText := true, laidKinds := [.data, .pinned], laidTests := true, laidLooks := .later }
def NameFoldedUptoCardSaid : Prop := Claim7.holds Tryd.pinned (.plain (OpenSpec.upto nameFoldedSpec)) nameFoldedUptoCard

/-- THE SECOND FORM's CARD OF 'budwoodlaw02.NameFolds'. -/
def nameFoldsUptoCard : Claim7 := { stood := { row := nameFoldsUptoRow, standIns := [], harness := (true, "c8059561b9e3ebfa7a44aaa336fe5c914c4e8f3bdf98766e8e38aa5ac5c3b480"), looks := false }, kinds := [], alts := [], laidByText := true, laidKinds := [.data, .pinned], laidTests := true, laidLooks := .later }
def NameFoldsUptoCardSaid : Prop := Claim7.holds Tryd.pinned (.plain (OpenSpec.upto nameFoldsSpec)) nameFoldsUptoCard

/-- THE SECOND FORM's CARD OF 'budwoodlaw02.NameJoins'. -/
def nameJoinsUptoCard : Claim7 := { stood := { row := nameJoinsUptoRow, standIns := [], harness := (true, "c8059561b9e3ebfa7a44aaa336fe5c914c4e8f3bdf98766e8e38aa5ac5c3b480"), looks := false }, kinds := [], alts := [], laidByText := true, laidKinds := [.data, .data, .data, .data, .pinned], laidTests := true, laidLooks := .later }
def NameJoinsUptoCardSaid : Prop := Claim7.holds Tryd.pinned (.plain (OpenSpec.upto nameJoinsSpec)) nameJoinsUptoCard

/-- THE SECOND FORM's CARD OF 'budwoodlaw02.NameBack'. -/
def nameBackUptoCard : Claim7 := { stood := { row := nameBackUptoRow, standIns := [], harness := (true, "c8059561b9e3ebfa7a44aaa336fe5c914c4e8f3bdf98766e8e38aa5ac5c3b480"), looks := false }, kinds := [], alts := [], laidByText := true, laidKinds := [.data, .data, .data, .data, .pinned], laidTests := true, laidLooks := .later }
def NameBackUptoCardSaid : Prop := Claim7.holds Tryd.pinned (.plain (OpenSpec.upto nameBackSpec)) nameBackUptoCard

/-- THE SECOND FORM's CARD OF 'budwoodlaw02.NameVersions'. -/
def nameVersionsUptoCard : Claim7 := { stood := { row := nameVersionsUptoRow, standIns := [], harness := (true, "c8059561b9e3ebfa7a44aaa336fe5c914c4e8f3bdf98766e8e38aa5ac5c3b480"), looks := false }, kinds := [], alts := [], laidByText := true, laidKinds := [.data, .data, .data, .data, .pinned], laidTests := true, laidLooks := .later }
def NameVersionsUptoCardSaid : Prop := Claim7.holds Tryd.pinned (.plain (OpenSpec.upto nameVersionsSpec)) nameVersionsUptoCard
end Rows
end Go.Proofs.YtlejfpakgoaffaaDoor
