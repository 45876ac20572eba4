/-
  DERIVED. GIVEN WITH THE SEED: THE CARDS: each row of YtephimncnnogfaaDoorRows.lean that lists a variable, with what it lists TIED to the program's text (the seventh form; the later family's looks); each row that meets fmt, with fmt's text TOLD by the authors' own Lean function (tested against real Go, not proved from fmt's source: count such statements apart). THE CARD IS WHAT COUNTS. Prove the row's statement (the work); the ties are given (YtephimncnnogfaaDoorTie.lean); close each card by the builder's one call (the guide's Derived/Test/ToyasCard.lean, 'card_holds'). Laid BY PROGRAM, IN A SANDBOX (cutbox-door.mjs). By AI agents, Wed Nov 11 2026. No macro, syntax, notation, axiom, sorry.
-/
import Derived.Test.YtephimncnnogfaaDoorRows
import GoSem.ClaimSeven
namespace Go.Proofs.YtephimncnnogfaaDoor
namespace Rows

/-- THE TIED CARD OF 'budwoodlaw13.SymtabSlots'. -/
def symtabSlotsCard : Claim7 := { stood := { row := symtabSlotsRow, standIns := [], harness := (true, "b2d997f9b77935f40d15a855e9458c5344e6a4276c66f1d9ad32429387d009c3"), looks := true }, kinds := [], alts := [], laidByText := true, laidKinds := [.data, .pinned], laidTests := true, laidLooks := .later }
def SymtabSlotsCardSaid : Prop := Claim7.holds Tryd.pinned (.plain (OpenSpec.ofChange symtabSlotsSpec)) symtabSlotsCard

/-- THE TIED CARD OF 'budwoodlaw13.SymtabPlays'. -/
def symtabPlaysCard : Claim7 := { stood := { row := symtabPlaysRow, standIns := [], harness := (true, "b2d997f9b77935f40d15a855e9458c5344e6a4276c66f1d9ad32429387d009c3"), looks := true }, kinds := [], alts := [], laidByText := true, laidKinds := [.data, .pinned], laidTests := true, laidLooks := .later }
def SymtabPlaysCardSaid : Prop := Claim7.holds Tryd.pinned (.plain (OpenSpec.ofChange symtabPlaysSpec)) symtabPlaysCard

/-- THE TIED CARD OF 'budwoodlaw13.SymtabHolds'. -/
def symtabHoldsCard : Claim7 := { stood := { row := symtabHoldsRow, standIns := [], harness := (true, "b2d997f9b77935f40d15a855e9458c5344e6a4276c66f1d9ad32429387d009c3"), looks := true }, kinds := [], alts := [], laidByText := true, laidKinds := [.data, .pinned], laidTests := true, laidLooks := .later }
def SymtabHoldsCardSaid : Prop := Claim7.holds Tryd.pinned (.plain (OpenSpec.ofChange symtabHoldsSpec)) symtabHoldsCard

/-- THE TIED CARD OF 'budwoodlaw13.SymtabSums'. -/
def symtabSumsCard : Claim7 := { stood := { row := symtabSumsRow, standIns := [], harness := (true, "b2d997f9b77935f40d15a855e9458c5344e6a4276c66f1d9ad32429387d009c3"), looks := true }, kinds := [], alts := [], laidByText := true, laidKinds := [.data, .pinned], laidTests := true, laidLooks := .later }
def SymtabSumsCardSaid : Prop := Claim7.holds Tryd.pinned (.plain (OpenSpec.ofChange symtabSumsSpec)) symtabSumsCard

/-- THE TIED CARD OF 'budwoodlaw13.SymtabBack'. -/
def symtabBackCard : Claim7 := { stood := { row := symtabBackRow, standIns := [], harness := (true, "b2d997f9b77935f40d15a855e9458c5344e6a4276c66f1d9ad32429387d009c3"), looks := true }, kinds := [], alts := [], laidByText := true, laidKinds := [.data, .pinned], laidTests := true, laidLooks := .later }
def SymtabBackCardSaid : Prop := Claim7.holds Tryd.pinned (.plain (OpenSpec.ofChange symtabBackSpec)) symtabBackCard

/-- THE TIED CARD OF 'budwoodlaw13.SymtabForks'. -/
def symtabForksCard : Claim7 := { stood := { row := symtabForksRow, standIns := [], harness := (true, "b2d997f9b77935f40d15a855e9458c5344e6a4276c66f1d9ad32429387d009c3"), looks := true }, kinds := [], alts := [], laidByText := true, laidKinds := [.data, .pinned], laidTests := true, laidLooks := .later }
def SymtabForksCardSaid : Prop := Claim7.holds Tryd.pinned (.plain (OpenSpec.ofChange symtabForksSpec)) symtabForksCard

/-- THE SECOND FORM's CARD OF 'budwoodlaw13.SymtabSlots'. -/
def symtabSlotsUptoCard : Claim7 := { stood := { row := symtabSlotsUptoRow, standIns := [], harness := (true, "b2d997f9b77935f40d15a855e9458c5344e6a4276c66f1d9ad32429387d009c3"), looks := true }, kinds := [], alts := [], laidByText := true, laidKinds := [.data, .pinned], laidTests := true, laidLooks := .later }
def SymtabSlotsUptoCardSaid : Prop := Claim7.holds Tryd.pinned (.plain (OpenSpec.upto symtabSlotsSpec)) symtabSlotsUptoCard

/-- THE SECOND FORM's CARD OF 'budwoodlaw13.SymtabPlays'. -/
def symtabPlaysUptoCard : Claim7 := { stood := { row := symtabPlaysUptoRow, standIns := [], harness := (true, "b2d997f9b77935f40d15a855e9458c5344e6a4276c66f1d9ad32429387d009c3"), looks := true }, kinds := [], alts := [], laidByText := true, laidKinds := [.data, .pinned], laidTests := true, laidLooks := .later }
def SymtabPlaysUptoCardSaid : Prop := Claim7.holds Tryd.pinned (.plain (OpenSpec.upto symtabPlaysSpec)) symtabPlaysUptoCard

/-- THE SECOND FORM's CARD OF 'budwoodlaw13.SymtabHolds'. -/
def symtabHoldsUptoCard : Claim7 := { stood := { row := symtabHoldsUptoRow, standIns := [], harness := (true, "b2d997f9b77935f40d15a855e9458c5344e6a4276c66f1d9ad32429387d009c3"), looks := true }, kinds := [], alts := [], laidByText := true, laidKinds := [.data, .pinned], laidTests := true, laidLooks := .later }
def SymtabHoldsUptoCardSaid : Prop := Claim7.holds Tryd.pinned (.plain (OpenSpec.upto symtabHoldsSpec)) symtabHoldsUptoCard

/-- THE SECOND FORM's CARD OF 'budwoodlaw13.SymtabSums'. -/
def symtabSumsUptoCard : Claim7 := { stood := { row := symtabSumsUptoRow, standIns := [], harness := (true, "b2d997f9b77935f40d15a855e9458c5344e6a4276c66f1d9ad32429387d009c3"), looks := true }, kinds := [], alts := [], laidByText := true, laidKinds := [.data, .pinned], laidTests := true, laidLooks := .later }
def SymtabSumsUptoCardSaid : Prop := Claim7.holds Tryd.pinned (.plain (OpenSpec.upto symtabSumsSpec)) symtabSumsUptoCard

/-- THE SECOND FORM's CARD OF 'budwoodlaw13.SymtabBack'. -/
def symtabBackUptoCard : Claim7 := { stood := { row := symtabBackUptoRow, standIns := [], harness := (true, "b2d997f9b77935f40d15a855e9458c5344e6a4276c66f1d9ad32429387d009c3"), looks := true }, kinds := [], alts := [], laidByText := true, laidKinds := [.data, .pinned], laidTests := true, laidLooks := .later }
def SymtabBackUptoCardSaid : Prop := Claim7.holds Tryd.pinned (.plain (OpenSpec.upto symtabBackSpec)) symtabBackUptoCard

/-- THE SECOND FORM's CARD OF 'budwoodlaw13.SymtabForks'. -/
def symtabForksUptoCard : Claim7 := { stood := { row := symtabForksUptoRow, standIns := [], harness := (true, "b2d997f9b77935f40d15a855e9458c5344e6a4276c66f1d9ad32429387d009c3"), looks := true }, kinds := [], alts := [], laidByText := true, laidKinds := [.data, .pinned], laidTests := true, laidLooks := .later }
def SymtabForksUptoCardSaid : Prop := Claim7.holds Tryd.pinned (.plain (OpenSpec.upto symtabForksSpec)) symtabForksUptoCard
end Rows
end Go.Proofs.YtephimncnnogfaaDoor
