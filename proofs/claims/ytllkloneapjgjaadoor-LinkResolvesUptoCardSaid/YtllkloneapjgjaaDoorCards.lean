/-
  DERIVED. GIVEN WITH THE SEED: THE CARDS: each row of YtllkloneapjgjaaDoorRows.lean that lists a variable, with what it lists TIED to the program's text (the seventh form; the later family's looks); each row that meets fmt, with fmt's text TOLD by the authors' own Lean function (tested against real Go, not proved from fmt's source: count such statements apart). THE CARD IS WHAT COUNTS. Prove the row's statement (the work); the ties are given (YtllkloneapjgjaaDoorTie.lean); close each card by the builder's one call (the guide's Derived/Test/ToyasCard.lean, 'card_holds'). Laid BY PROGRAM, IN A SANDBOX (cutbox-door.mjs). By AI agents, Wed Nov 11 2026. No macro, syntax, notation, axiom, sorry.
-/
import Derived.Test.YtllkloneapjgjaaDoorRows
import GoSem.ClaimSeven
namespace Go.Proofs.YtllkloneapjgjaaDoor
namespace Rows

/-- THE TIED CARD OF 'budwoodlaw16.LinkResolves'. -/
def linkResolvesCard : Claim7 := { stood := { row := linkResolvesRow, standIns := [], harness := (true, "8c5b7f858bbbcd02633a88f9867e15d6ce9009aafcf07242aa12bdb6cde56f21"), looks := false }, kinds := [], alts := [], laidByText := true, laidKinds := [.data, .pinned], laidTests := true, laidLooks := .later }
def LinkResolvesCardSaid : Prop := Claim7.holds Tryd.pinned (.plain (OpenSpec.ofChange linkResolvesSpec)) linkResolvesCard

/-- THE TIED CARD OF 'budwoodlaw16.LinkOnly'. -/
def linkOnlyCard : Claim7 := { stood := { row := linkOnlyRow, standIns := [], harness := (true, "8c5b7f858bbbcd02633a88f9867e15d6ce9009aafcf07242aa12bdb6cde56f21"), looks := false }, kinds := [], alts := [], laidByText := true, laidKinds := [.data, .pinned], laidTests := true, laidLooks := .later }
def LinkOnlyCardSaid : Prop := Claim7.holds Tryd.pinned (.plain (OpenSpec.ofChange linkOnlySpec)) linkOnlyCard

/-- THE TIED CARD OF 'budwoodlaw16.LinkMoves'. -/
def linkMovesCard : Claim7 := { stood := { row := linkMovesRow, standIns := [], harness := (true, "8c5b7f858bbbcd02633a88f9867e15d6ce9009aafcf07242aa12bdb6cde56f21"), looks := false }, kinds := [], alts := [], laidByText := true, laidKinds := [.data, .pinned], laidTests := true, laidLooks := .later }
def LinkMovesCardSaid : Prop := Claim7.holds Tryd.pinned (.plain (OpenSpec.ofChange linkMovesSpec)) linkMovesCard

/-- THE TIED CARD OF 'budwoodlaw16.LinkImports'. -/
def linkImportsCard : Claim7 := { stood := { row := linkImportsRow, standIns := [], harness := (true, "8c5b7f858bbbcd02633a88f9867e15d6ce9009aafcf07242aa12bdb6cde56f21"), looks := false }, kinds := [], alts := [], laidByText := true, laidKinds := [.data, .pinned], laidTests := true, laidLooks := .later }
def LinkImportsCardSaid : Prop := Claim7.holds Tryd.pinned (.plain (OpenSpec.ofChange linkImportsSpec)) linkImportsCard

/-- THE SECOND FORM's CARD OF 'budwoodlaw16.LinkResolves'. -/
def linkResolvesUptoCard : Claim7 := { stood := { row := linkResolvesUptoRow, standIns := [], harness := (true, "8c5b7f858bbbcd02633a88f9867e15d6ce9009aafcf07242aa12bdb6cde56f21"), looks := false }, kinds := [], alts := [], laidByText := true, laidKinds := [.data, .pinned], laidTests := true, laidLooks := .later }
def LinkResolvesUptoCardSaid : Prop := Claim7.holds Tryd.pinned (.plain (OpenSpec.upto linkResolvesSpec)) linkResolvesUptoCard

/-- THE SECOND FORM's CARD OF 'budwoodlaw16.LinkOnly'. -/
def linkOnlyUptoCard : Claim7 := { stood := { row := linkOnlyUptoRow, standIns := [], harness := (true, "8c5b7f858bbbcd02633a88f9867e15d6ce9009aafcf07242aa12bdb6cde56f21"), looks := false }, kinds := [], alts := [], laidByText := true, laidKinds := [.data, .pinned], laidTests := true, laidLooks := .later }
def LinkOnlyUptoCardSaid : Prop := Claim7.holds Tryd.pinned (.plain (OpenSpec.upto linkOnlySpec)) linkOnlyUptoCard

/-- THE SECOND FORM's CARD OF 'budwoodlaw16.LinkMoves'. -/
def linkMovesUptoCard : Claim7 := { stood := { row := linkMovesUptoRow, standIns := [], harness := (true, "8c5b7f858bbbcd02633a88f9867e15d6ce9009aafcf07242aa12bdb6cde56f21"), looks := false }, kinds := [], alts := [], laidByText := true, laidKinds := [.data, .pinned], laidTests := true, laidLooks := .later }
def LinkMovesUptoCardSaid : Prop := Claim7.holds Tryd.pinned (.plain (OpenSpec.upto linkMovesSpec)) linkMovesUptoCard

/-- THE SECOND FORM's CARD OF 'budwoodlaw16.LinkImports'. -/
def linkImportsUptoCard : Claim7 := { stood := { row := linkImportsUptoRow, standIns := [], harness := (true, "8c5b7f858bbbcd02633a88f9867e15d6ce9009aafcf07242aa12bdb6cde56f21"), looks := false }, kinds := [], alts := [], laidByText := true, laidKinds := [.data, .pinned], laidTests := true, laidLooks := .later }
def LinkImportsUptoCardSaid : Prop := Claim7.holds Tryd.pinned (.plain (OpenSpec.upto linkImportsSpec)) linkImportsUptoCard
end Rows
end Go.Proofs.YtllkloneapjgjaaDoor
