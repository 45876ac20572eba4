/-
  DERIVED. GIVEN WITH THE SEED: THE CARDS: each row of YtlgmboaoemlnpaaDoorRows.lean that lists a variable, with what it lists TIED to the program's text (the seventh form; the later family's looks); each row that meets fmt, with fmt's text TOLD by the authors' own Lean function (tested against real Go, not proved from fmt's source: count such statements apart). THE CARD IS WHAT COUNTS. Prove the row's statement (the work); the ties are given (YtlgmboaoemlnpaaDoorTie.lean); close each card by the builder's one call (the guide's Derived/Test/ToyasCard.lean, 'card_holds'). Laid BY PROGRAM, IN A SANDBOX (cutbox-door.mjs). By AI agents, Wed Nov 11 2026. No macro, syntax, notation, axiom, sorry.
-/
import Derived.Test.YtlgmboaoemlnpaaDoorRows
import GoSem.ClaimSeven
namespace Go.Proofs.YtlgmboaoemlnpaaDoor
namespace Rows

/-- THE TIED CARD OF 'budwoodlaw18.GateFull'. -/
def gateFullCard : Claim7 := { stood := { row := gateFullRow, standIns := [], harness := (true, "6c286df131655fa2c3d9513df6da35ed6408a34c3a130177a2f00ca2cf70b7c8"), looks := false }, kinds := [], alts := [], laidByText := true, laidKinds := [.data, .pinned], laidTests := true, laidLooks := .later }
def GateFullCardSaid : Prop := Claim7.holds Tryd.pinned (.plain (OpenSpec.ofChange gateFullSpec)) gateFullCard

/-- THE TIED CARD OF 'budwoodlaw18.GateCounts'. -/
def gateCountsCard : Claim7 := { stood := { row := gateCountsRow, standIns := [], harness := (true, "6c286df131655fa2c3d9513df6da35ed6408a34c3a130177a2f00ca2cf70b7c8"), looks := false }, kinds := [], alts := [], laidByText := true, laidKinds := [.data, .pinned], laidTests := true, laidLooks := .later }
def GateCountsCardSaid : Prop := Claim7.holds Tryd.pinned (.plain (OpenSpec.ofChange gateCountsSpec)) gateCountsCard

/-- THE TIED CARD OF 'budwoodlaw18.GatePlays'. -/
def gatePlaysCard : Claim7 := { stood := { row := gatePlaysRow, standIns := [], harness := (true, "6c286df131655fa2c3d9513df6da35ed6408a34c3a130177a2f00ca2cf70b7c8"), looks := false }, kinds := [], alts := [], laidByText := true, laidKinds := [.data, .pinned], laidTests := true, laidLooks := .later }
def GatePlaysCardSaid : Prop := Claim7.holds Tryd.pinned (.plain (OpenSpec.ofChange gatePlaysSpec)) gatePlaysCard

/-- THE TIED CARD OF 'budwoodlaw18.GateKeeps'. -/
def gateKeepsCard : Claim7 := { stood := { row := gateKeepsRow, standIns := [], harness := (true, "6c286df131655fa2c3d9513df6da35ed6408a34c3a130177a2f00ca2cf70b7c8"), looks := false }, kinds := [], alts := [], laidByText := true, laidKinds := [.data, .pinned], laidTests := true, laidLooks := .later }
def GateKeepsCardSaid : Prop := Claim7.holds Tryd.pinned (.plain (OpenSpec.ofChange gateKeepsSpec)) gateKeepsCard

/-- THE TIED CARD OF 'budwoodlaw18.GateForks'. -/
def gateForksCard : Claim7 := { stood := { row := gateForksRow, standIns := [], harness := (true, "6c286df131655fa2c3d9513df6da35ed6408a34c3a130177a2f00ca2cf70b7c8"), looks := false }, kinds := [], alts := [], laidByText := true, laidKinds := [.data, .pinned], laidTests := true, laidLooks := .later }
def GateForksCardSaid : Prop := Claim7.holds Tryd.pinned (.plain (OpenSpec.ofChange gateForksSpec)) gateForksCard

/-- THE SECOND FORM's CARD OF 'budwoodlaw18.GateFull'. -/
def gateFullUptoCard : Claim7 := { stood := { row := gateFullUptoRow, standIns := [], harness := (true, "6c286df131655fa2c3d9513df6da35ed6408a34c3a130177a2f00ca2cf70b7c8"), looks := false }, kinds := [], alts := [], laidByText := true, laidKinds := [.data, .pinned], laidTests := true, laidLooks := .later }
def GateFullUptoCardSaid : Prop := Claim7.holds Tryd.pinned (.plain (OpenSpec.upto gateFullSpec)) gateFullUptoCard

/-- THE SECOND FORM's CARD OF 'budwoodlaw18.GateCounts'. -/
def gateCountsUptoCard : Claim7 := { stood := { row := gateCountsUptoRow, standIns := [], harness := (true, "6c286df131655fa2c3d9513df6da35ed6408a34c3a130177a2f00ca2cf70b7c8"), looks := false }, kinds := [], alts := [], laidByText := true, laidKinds := [.data, .pinned], laidTests := true, laidLooks := .later }
def GateCountsUptoCardSaid : Prop := Claim7.holds Tryd.pinned (.plain (OpenSpec.upto gateCountsSpec)) gateCountsUptoCard

/-- THE SECOND FORM's CARD OF 'budwoodlaw18.GatePlays'. -/
def gatePlaysUptoCard : Claim7 := { stood := { row := gatePlaysUptoRow, standIns := [], harness := (true, "6c286df131655fa2c3d9513df6da35ed6408a34c3a130177a2f00ca2cf70b7c8"), looks := false }, kinds := [], alts := [], laidByText := true, laidKinds := [.data, .pinned], laidTests := true, laidLooks := .later }
def GatePlaysUptoCardSaid : Prop := Claim7.holds Tryd.pinned (.plain (OpenSpec.upto gatePlaysSpec)) gatePlaysUptoCard

/-- THE SECOND FORM's CARD OF 'budwoodlaw18.GateKeeps'. -/
def gateKeepsUptoCard : Claim7 := { stood := { row := gateKeepsUptoRow, standIns := [], harness := (true, "6c286df131655fa2c3d9513df6da35ed6408a34c3a130177a2f00ca2cf70b7c8"), looks := false }, kinds := [], alts := [], laidByText := true, laidKinds := [.data, .pinned], laidTests := true, laidLooks := .later }
def GateKeepsUptoCardSaid : Prop := Claim7.holds Tryd.pinned (.plain (OpenSpec.upto gateKeepsSpec)) gateKeepsUptoCard

/-- THE SECOND FORM's CARD OF 'budwoodlaw18.GateForks'. -/
def gateForksUptoCard : Claim7 := { stood := { row := gateForksUptoRow, standIns := [], harness := (true, "6c286df131655fa2c3d9513df6da35ed6408a34c3a130177a2f00ca2cf70b7c8"), looks := false }, kinds := [], alts := [], laidByText := true, laidKinds := [.data, .pinned], laidTests := true, laidLooks := .later }
def GateForksUptoCardSaid : Prop := Claim7.holds Tryd.pinned (.plain (OpenSpec.upto gateForksSpec)) gateForksUptoCard
end Rows
end Go.Proofs.YtlgmboaoemlnpaaDoor
