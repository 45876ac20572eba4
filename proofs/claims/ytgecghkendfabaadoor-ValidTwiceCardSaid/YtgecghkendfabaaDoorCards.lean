/-
  DERIVED. GIVEN WITH THE SEED: THE CARDS: each row of YtgecghkendfabaaDoorRows.lean that lists a variable, with what it lists TIED to the program's text (the seventh form; the later family's looks); each row that meets fmt, with fmt's text TOLD by the authors' own Lean function (tested against real Go, not proved from fmt's source: count such statements apart). THE CARD IS WHAT COUNTS. Prove the row's statement (the work); the ties are given (YtgecghkendfabaaDoorTie.lean); close each card by the builder's one call (the guide's Derived/Test/ToyasCard.lean, 'card_holds'). Laid BY PROGRAM, IN A SANDBOX (cutbox-door.mjs). By AI agents, Wed Nov 11 2026. No macro, syntax, notation, axiom, sorry.
-/
import Derived.Test.YtgecghkendfabaaDoorRows
import GoSem.ClaimSeven
namespace Go.Proofs.YtgecghkendfabaaDoor
namespace Rows

/-- THE TIED CARD OF 'budwoodlaw11.ValidModules'. -/
def validModulesCard : Claim7 := { stood := { row := validModulesRow, standIns := [], harness := (true, "66f01a99446df0c12b52d47ebc061007bc00e6bb4534b5c8779625bebb0f8bcc"), looks := false }, kinds := [], alts := [], laidByText := true, laidKinds := [.data, .pinned], laidTests := true, laidLooks := .later }
def ValidModulesCardSaid : Prop := Claim7.holds Tryd.pinned (.plain (OpenSpec.ofChange validModulesSpec)) validModulesCard

/-- THE TIED CARD OF 'budwoodlaw11.ValidCalls'. -/
def validCallsCard : Claim7 := { stood := { row := validCallsRow, standIns := [], harness := (true, "66f01a99446df0c12b52d47ebc061007bc00e6bb4534b5c8779625bebb0f8bcc"), looks := false }, kinds := [], alts := [], laidByText := true, laidKinds := [.data, .pinned], laidTests := true, laidLooks := .later }
def ValidCallsCardSaid : Prop := Claim7.holds Tryd.pinned (.plain (OpenSpec.ofChange validCallsSpec)) validCallsCard

/-- THE TIED CARD OF 'budwoodlaw11.ValidLess'. -/
def validLessCard : Claim7 := { stood := { row := validLessRow, standIns := [], harness := (true, "66f01a99446df0c12b52d47ebc061007bc00e6bb4534b5c8779625bebb0f8bcc"), looks := false }, kinds := [], alts := [], laidByText := true, laidKinds := [.data, .pinned], laidTests := true, laidLooks := .later }
def ValidLessCardSaid : Prop := Claim7.holds Tryd.pinned (.plain (OpenSpec.ofChange validLessSpec)) validLessCard

/-- THE TIED CARD OF 'budwoodlaw11.ValidMore'. -/
def validMoreCard : Claim7 := { stood := { row := validMoreRow, standIns := [], harness := (true, "66f01a99446df0c12b52d47ebc061007bc00e6bb4534b5c8779625bebb0f8bcc"), looks := false }, kinds := [], alts := [], laidByText := true, laidKinds := [.data, .pinned], laidTests := true, laidLooks := .later }
def ValidMoreCardSaid : Prop := Claim7.holds Tryd.pinned (.plain (OpenSpec.ofChange validMoreSpec)) validMoreCard

/-- THE TIED CARD OF 'budwoodlaw11.ValidTwice'. -/
def validTwiceCard : Claim7 := { stood := { row := validTwiceRow, standIns := [], harness := (true, "66f01a99446df0c12b52d47ebc061007bc00e6bb4534b5c8779625bebb0f8bcc"), looks := false }, kinds := [], alts := [], laidByText := true, laidKinds := [.data, .pinned], laidTests := true, laidLooks := .later }
def ValidTwiceCardSaid : Prop := Claim7.holds Tryd.pinned (.plain (OpenSpec.ofChange validTwiceSpec)) validTwiceCard

/-- THE TIED CARD OF 'budwoodlaw11.ValidPatches'. -/
def validPatchesCard : Claim7 := { stood := { row := validPatchesRow, standIns := [], harness := (true, "66f01a99446df0c12b52d47ebc061007bc00e6bb4534b5c8779625bebb0f8bcc"), looks := false }, kinds := [], alts := [], laidByText := true, laidKinds := [.data, .pinned], laidTests := true, laidLooks := .later }
def ValidPatchesCardSaid : Prop := Claim7.holds Tryd.pinned (.plain (OpenSpec.ofChange validPatchesSpec)) validPatchesCard

/-- THE SECOND FORM's CARD OF 'budwoodlaw11.ValidModules'. -/
def validModulesUptoCard : Claim7 := { stood := { row := validModulesUptoRow, standIns := [], harness := (true, "66f01a99446df0c12b52d47ebc061007bc00e6bb4534b5c8779625bebb0f8bcc"), looks := false }, kinds := [], alts := [], laidByText := true, laidKinds := [.data, .pinned], laidTests := true, laidLooks := .later }
def ValidModulesUptoCardSaid : Prop := Claim7.holds Tryd.pinned (.plain (OpenSpec.upto validModulesSpec)) validModulesUptoCard

/-- THE SECOND FORM's CARD OF 'budwoodlaw11.ValidCalls'. -/
def validCallsUptoCard : Claim7 := { stood := { row := validCallsUptoRow, standIns := [], harness := (true, "66f01a99446df0c12b52d47ebc061007bc00e6bb4534b5c8779625bebb0f8bcc"), looks := false }, kinds := [], alts := [], laidByText := true, laidKinds := [.data, .pinned], laidTests := true, laidLooks := .later }
def ValidCallsUptoCardSaid : Prop := Claim7.holds Tryd.pinned (.plain (OpenSpec.upto validCallsSpec)) validCallsUptoCard

/-- THE SECOND FORM's CARD OF 'budwoodlaw11.ValidLess'. -/
def validLessUptoCard : Claim7 := { stood := { row := validLessUptoRow, standIns := [], harness := (true, "66f01a99446df0c12b52d47ebc061007bc00e6bb4534b5c8779625bebb0f8bcc"), looks := false }, kinds := [], alts := [], laidByText := true, laidKinds := [.data, .pinned], laidTests := true, laidLooks := .later }
def ValidLessUptoCardSaid : Prop := Claim7.holds Tryd.pinned (.plain (OpenSpec.upto validLessSpec)) validLessUptoCard

/-- THE SECOND FORM's CARD OF 'budwoodlaw11.ValidMore'. -/
def validMoreUptoCard : Claim7 := { stood := { row := validMoreUptoRow, standIns := [], harness := (true, "66f01a99446df0c12b52d47ebc061007bc00e6bb4534b5c8779625bebb0f8bcc"), looks := false }, kinds := [], alts := [], laidByText := true, laidKinds := [.data, .pinned], laidTests := true, laidLooks := .later }
def ValidMoreUptoCardSaid : Prop := Claim7.holds Tryd.pinned (.plain (OpenSpec.upto validMoreSpec)) validMoreUptoCard

/-- THE SECOND FORM's CARD OF 'budwoodlaw11.ValidTwice'. -/
def validTwiceUptoCard : Claim7 := { stood := { row := validTwiceUptoRow, standIns := [], harness := (true, "66f01a99446df0c12b52d47ebc061007bc00e6bb4534b5c8779625bebb0f8bcc"), looks := false }, kinds := [], alts := [], laidByText := true, laidKinds := [.data, .pinned], laidTests := true, laidLooks := .later }
def ValidTwiceUptoCardSaid : Prop := Claim7.holds Tryd.pinned (.plain (OpenSpec.upto validTwiceSpec)) validTwiceUptoCard

/-- THE SECOND FORM's CARD OF 'budwoodlaw11.ValidPatches'. -/
def validPatchesUptoCard : Claim7 := { stood := { row := validPatchesUptoRow, standIns := [], harness := (true, "66f01a99446df0c12b52d47ebc061007bc00e6bb4534b5c8779625bebb0f8bcc"), looks := false }, kinds := [], alts := [], laidByText := true, laidKinds := [.data, .pinned], laidTests := true, laidLooks := .later }
def ValidPatchesUptoCardSaid : Prop := Claim7.holds Tryd.pinned (.plain (OpenSpec.upto validPatchesSpec)) validPatchesUptoCard
end Rows
end Go.Proofs.YtgecghkendfabaaDoor
