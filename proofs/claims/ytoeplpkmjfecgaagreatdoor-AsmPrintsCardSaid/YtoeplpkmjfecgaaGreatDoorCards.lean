/-
  DERIVED. GIVEN WITH THE SEED: THE CARDS: each row of YtoeplpkmjfecgaaGreatDoorRows.lean that lists a variable, with what it lists TIED to the program's text (the seventh form; the later family's looks); each row that meets fmt, with fmt's text TOLD by the authors' own Lean function (tested against real Go, not proved from fmt's source: count such statements apart). THE CARD IS WHAT COUNTS. Prove the row's statement (the work); the ties are given (YtoeplpkmjfecgaaGreatDoorTie.lean); close each card by the builder's one call (the guide's Derived/Test/ToyasCard.lean, 'card_holds'). Laid BY PROGRAM, IN A SANDBOX (cutbox-door.mjs). By AI agents, Wed Nov 11 2026. No macro, syntax, notation, axiom, sorry.
-/
import Derived.Test.YtoeplpkmjfecgaaGreatDoorRows
import GoSem.ClaimSeven
namespace Go.Proofs.YtoeplpkmjfecgaaGreatDoor
namespace Rows

/-- THE TIED CARD OF 'budwoodlaw05.AsmPrints'. -/
def asmPrintsCard : Claim7 := { stood := { row := asmPrintsRow, standIns := [], harness := (true, "4feade2341e7f40831d396b7b2a3af3a9754647f69e92ed5e12e89a797106dbb"), looks := true }, kinds := [], alts := [], laidByText := true, laidKinds := [.data, .data, .data, .data, .sentinel, .sentinel, .data, .pinned], laidTests := true, laidLooks := .later }
def AsmPrintsCardSaid : Prop := Claim7.holds Tryz.pinned (.plain (OpenSpec.ofChange asmPrintsSpec)) asmPrintsCard

/-- THE TIED CARD OF 'budwoodlaw05.AsmParses'. -/
def asmParsesCard : Claim7 := { stood := { row := asmParsesRow, standIns := [], harness := (true, "4feade2341e7f40831d396b7b2a3af3a9754647f69e92ed5e12e89a797106dbb"), looks := true }, kinds := [], alts := [], laidByText := true, laidKinds := [.data, .data, .data, .data, .sentinel, .sentinel, .data, .pinned], laidTests := true, laidLooks := .later }
def AsmParsesCardSaid : Prop := Claim7.holds Tryz.pinned (.plain (OpenSpec.ofChange asmParsesSpec)) asmParsesCard

/-- THE TIED CARD OF 'budwoodlaw05.AsmLists'. -/
def asmListsCard : Claim7 := { stood := { row := asmListsRow, standIns := [], harness := (true, "4feade2341e7f40831d396b7b2a3af3a9754647f69e92ed5e12e89a797106dbb"), looks := true }, kinds := [], alts := [], laidByText := true, laidKinds := [.data, .data, .data, .data, .sentinel, .sentinel, .data, .pinned], laidTests := true, laidLooks := .later }
def AsmListsCardSaid : Prop := Claim7.holds Tryz.pinned (.plain (OpenSpec.ofChange asmListsSpec)) asmListsCard

/-- THE TIED CARD OF 'budwoodlaw05.AsmAgain'. -/
def asmAgainCard : Claim7 := { stood := { row := asmAgainRow, standIns := [], harness := (true, "4feade2341e7f40831d396b7b2a3af3a9754647f69e92ed5e12e89a797106dbb"), looks := true }, kinds := [], alts := [], laidByText := true, laidKinds := [.data, .data, .data, .data, .sentinel, .sentinel, .data, .pinned], laidTests := true, laidLooks := .later }
def AsmAgainCardSaid : Prop := Claim7.holds Tryz.pinned (.plain (OpenSpec.ofChange asmAgainSpec)) asmAgainCard

/-- THE TIED CARD OF 'budwoodlaw05.AsmIdle'. -/
def asmIdleCard : Claim7 := { stood := { row := asmIdleRow, standIns := [], harness := (true, "4feade2341e7f40831d396b7b2a3af3a9754647f69e92ed5e12e89a797106dbb"), looks := true }, kinds := [], alts := [], laidByText := true, laidKinds := [.data, .data, .data, .data, .sentinel, .sentinel, .data, .pinned], laidTests := true, laidLooks := .later }
def AsmIdleCardSaid : Prop := Claim7.holds Tryz.pinned (.plain (OpenSpec.ofChange asmIdleSpec)) asmIdleCard

/-- THE SECOND FORM's CARD OF 'budwoodlaw05.AsmPrints'. -/
def asmPrintsUptoCard : Claim7 := { stood := { row := asmPrintsUptoRow, standIns := [], harness := (true, "4feade2341e7f40831d396b7b2a3af3a9754647f69e92ed5e12e89a797106dbb"), looks := true }, kinds := [], alts := [], laidByText := true, laidKinds := [.data, .data, .data, .data, .sentinel, .sentinel, .data, .pinned], laidTests := true, laidLooks := .later }
def AsmPrintsUptoCardSaid : Prop := Claim7.holds Tryz.pinned (.plain (OpenSpec.upto asmPrintsSpec)) asmPrintsUptoCard

/-- THE SECOND FORM's CARD OF 'budwoodlaw05.AsmParses'. -/
def asmParsesUptoCard : Claim7 := { stood := { row := asmParsesUptoRow, standIns := [], harness := (true, "4feade2341e7f40831d396b7b2a3af3a9754647f69e92ed5e12e89a797106dbb"), looks := true }, kinds := [], alts := [], laidByText := true, laidKinds := [.data, .data, .data, .data, .sentinel, .sentinel, .data, .pinned], laidTests := true, laidLooks := .later }
def AsmParsesUptoCardSaid : Prop := Claim7.holds Tryz.pinned (.plain (OpenSpec.upto asmParsesSpec)) asmParsesUptoCard

/-- THE SECOND FORM's CARD OF 'budwoodlaw05.AsmLists'. -/
def asmListsUptoCard : Claim7 := { stood := { row := asmListsUptoRow, standIns := [], harness := (true, "4feade2341e7f40831d396b7b2a3af3a9754647f69e92ed5e12e89a797106dbb"), looks := true }, kinds := [], alts := [], laidByText := true, laidKinds := [.data, .data, .data, .data, .sentinel, .sentinel, .data, .pinned], laidTests := true, laidLooks := .later }
def AsmListsUptoCardSaid : Prop := Claim7.holds Tryz.pinned (.plain (OpenSpec.upto asmListsSpec)) asmListsUptoCard

/-- THE SECOND FORM's CARD OF 'budwoodlaw05.AsmAgain'. -/
def asmAgainUptoCard : Claim7 := { stood := { row := asmAgainUptoRow, standIns := [], harness := (true, "4feade2341e7f40831d396b7b2a3af3a9754647f69e92ed5e12e89a797106dbb"), looks := true }, kinds := [], alts := [], laidByText := true, laidKinds := [.data, .data, .data, .data, .sentinel, .sentinel, .data, .pinned], laidTests := true, laidLooks := .later }
def AsmAgainUptoCardSaid : Prop := Claim7.holds Tryz.pinned (.plain (OpenSpec.upto asmAgainSpec)) asmAgainUptoCard

/-- THE SECOND FORM's CARD OF 'budwoodlaw05.AsmIdle'. -/
def asmIdleUptoCard : Claim7 := { stood := { row := asmIdleUptoRow, standIns := [], harness := (true, "4feade2341e7f40831d396b7b2a3af3a9754647f69e92ed5e12e89a797106dbb"), looks := true }, kinds := [], alts := [], laidByText := true, laidKinds := [.data, .data, .data, .data, .sentinel, .sentinel, .data, .pinned], laidTests := true, laidLooks := .later }
def AsmIdleUptoCardSaid : Prop := Claim7.holds Tryz.pinned (.plain (OpenSpec.upto asmIdleSpec)) asmIdleUptoCard
end Rows
end Go.Proofs.YtoeplpkmjfecgaaGreatDoor
