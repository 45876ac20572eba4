/-
  NARROWER THAN 'FOR EVERY INPUT', by the rows' own cells (each row's printed sentence says how): SymtabSlots: laid · SymtabPlays: laid · SymtabHolds: laid · SymtabSums: laid · SymtabBack: laid · SymtabForks: laid.
  DERIVED. THE GIVEN ROWS OF THIS SEAT. 6 by the template 'for every input the law returns true; each argument reads behind the call as it read before'; 0 by the template 'total and deterministic' (their statements: YtephimncnnogfaaDoorTotals.lean).
  GIVEN WITH THE SEED: the statements are not yours to turn. If you find one false, say at which input.
  Laid BY PROGRAM, IN A SANDBOX (cutbox-rows.mjs): the forced cells as the released guide's own fill.sh prints them over the translation 492ea36713b41637… (all of the seat's roots in one cut). By AI agents, Wed Nov 11 2026. No macro, syntax, notation, axiom, sorry.
-/
import Derived.Test.YtephimncnnogfaaDoorChecked
import GoSem.PinnedTables
import GoSem.Claim
import GoSem.ClaimJoined
import GoSem.ClaimMapViews
import Derived.JoinedTies
import Derived.KernelRfl
namespace Go.Proofs.YtephimncnnogfaaDoor
/- THE CELL 'sum', in the pinned program and in every row, IS THE sha256 OF THE DUMP (.gsa) THAT YtephimncnnogfaaDoorProg.lean LOADS. Nothing in Lean hashes anything: it is a label: what it is worth is what the hold of that sum in a sandbox is worth. -/
noncomputable def Tryd.pinned : Pinned := { name := "ytephimncnnogfaadoor", sum := "492ea36713b4163727fbc1b8e64c107a2a47fe8ebae30fbbbd1d53e726d46337", checked := Tryd.checked }
namespace Rows
def none {H : Type} : Left H := { results := [], args := [] }

/- WHAT THE LISTED PACKAGE-LEVEL VARIABLES READ AS WHEN THE CALL BEGINS. Each datum BY PROGRAM (the guide's laid-datum.mjs) off the statement by which the dump's own 'gosem.cut.vars' lays the variable. In a bare row this is a premise. The card (YtephimncnnogfaaDoorCards.lean) ties it to the program's text. -/
def laid_unicode_utf8_acceptRanges {H : Type} : DataW H := .agg [.agg [.lit (.int .u8 128), .lit (.int .u8 191)], .agg [.lit (.int .u8 160), .lit (.int .u8 191)], .agg [.lit (.int .u8 128), .lit (.int .u8 159)], .agg [.lit (.int .u8 144), .lit (.int .u8 191)], .agg [.lit (.int .u8 128), .lit (.int .u8 143)], .agg [.lit (.int .u8 0), .lit (.int .u8 0)], .agg [.lit (.int .u8 0), .lit (.int .u8 0)], .agg [.lit (.int .u8 0), .lit (.int .u8 0)], .agg [.lit (.int .u8 0), .lit (.int .u8 0)], .agg [.lit (.int .u8 0), .lit (.int .u8 0)], .agg [.lit (.int .u8 0), .lit (.int .u8 0)], .agg [.lit (.int .u8 0), .lit (.int .u8 0)], .agg [.lit (.int .u8 0), .lit (.int .u8 0)], .agg [.lit (.int .u8 0), .lit (.int .u8 0)], .agg [.lit (.int .u8 0), .lit (.int .u8 0)], .agg [.lit (.int .u8 0), .lit (.int .u8 0)]]
/-- One of Go's own tables, pinned by name: the form's constant. -/
def laid_unicode_utf8_first : DataW Unit := Go.Pinned.utf8First

/-- 'budwoodlaw13.SymtabSlots': WHATEVER THE INPUT: true; the input reads as it did. -/
def symtabSlotsSpec : ChangeSpec := { name := "symtabSlots", fn := fun _ => fun
  | [d1, d2] => { results := [.lit (.bool true)], args := [d1, d2] }
  | _ => none }
def symtabSlotsRow : OpenClaim := { program := "ytephimncnnogfaadoor", sum := "492ea36713b4163727fbc1b8e64c107a2a47fe8ebae30fbbbd1d53e726d46337", func := "budwood/budwoodlaw13.SymtabSlots", spec := "symtabSlots", inPlace := ["internal/bytealg.IndexByteString", "internal/bytealg.IndexString"], unfollowed := true, recurses := true, named := ["internal/bytealg.MaxLen", "unicode/utf8.first", "unicode/utf8.acceptRanges"], apart := false, laid := [("unicode/utf8.acceptRanges", laid_unicode_utf8_acceptRanges), ("unicode/utf8.first", laid_unicode_utf8_first)] }
def SymtabSlotsSaid : Prop := symtabSlotsRow.holds Tryd.pinned (OpenSpec.ofChange symtabSlotsSpec)

/-- ITS FALSE NEIGHBOUR: 'it returns false'. Refute it at one input. -/
def symtabSlotsWrong : ChangeSpec := { name := "symtabSlots", fn := fun _ => fun
  | [d1, d2] => { results := [.lit (.bool false)], args := [d1, d2] }
  | _ => none }
def SymtabSlotsWrongFalsely : Prop := symtabSlotsRow.holds Tryd.pinned (OpenSpec.ofChange symtabSlotsWrong)

/-- 'budwoodlaw13.SymtabPlays': WHATEVER THE INPUT: true; the input reads as it did. -/
def symtabPlaysSpec : ChangeSpec := { name := "symtabPlays", fn := fun _ => fun
  | [d] => { results := [.lit (.bool true)], args := [d] }
  | _ => none }
def symtabPlaysRow : OpenClaim := { program := "ytephimncnnogfaadoor", sum := "492ea36713b4163727fbc1b8e64c107a2a47fe8ebae30fbbbd1d53e726d46337", func := "budwood/budwoodlaw13.SymtabPlays", spec := "symtabPlays", inPlace := ["internal/bytealg.IndexByteString", "internal/bytealg.IndexString"], unfollowed := true, recurses := true, named := ["internal/bytealg.MaxLen", "unicode/utf8.first", "unicode/utf8.acceptRanges"], apart := false, laid := [("unicode/utf8.acceptRanges", laid_unicode_utf8_acceptRanges), ("unicode/utf8.first", laid_unicode_utf8_first)] }
def SymtabPlaysSaid : Prop := symtabPlaysRow.holds Tryd.pinned (OpenSpec.ofChange symtabPlaysSpec)

/-- ITS FALSE NEIGHBOUR: 'it returns false'. Refute it at one input. -/
def symtabPlaysWrong : ChangeSpec := { name := "symtabPlays", fn := fun _ => fun
  | [d] => { results := [.lit (.bool false)], args := [d] }
  | _ => none }
def SymtabPlaysWrongFalsely : Prop := symtabPlaysRow.holds Tryd.pinned (OpenSpec.ofChange symtabPlaysWrong)

/-- 'budwoodlaw13.SymtabHolds': WHATEVER THE INPUT: true; the input reads as it did. -/
def symtabHoldsSpec : ChangeSpec := { name := "symtabHolds", fn := fun _ => fun
  | [d1, d2] => { results := [.lit (.bool true)], args := [d1, d2] }
  | _ => none }
def symtabHoldsRow : OpenClaim := { program := "ytephimncnnogfaadoor", sum := "492ea36713b4163727fbc1b8e64c107a2a47fe8ebae30fbbbd1d53e726d46337", func := "budwood/budwoodlaw13.SymtabHolds", spec := "symtabHolds", inPlace := ["internal/bytealg.IndexByteString", "internal/bytealg.IndexString"], unfollowed := true, recurses := true, named := ["internal/bytealg.MaxLen", "unicode/utf8.first", "unicode/utf8.acceptRanges"], apart := false, laid := [("unicode/utf8.acceptRanges", laid_unicode_utf8_acceptRanges), ("unicode/utf8.first", laid_unicode_utf8_first)] }
def SymtabHoldsSaid : Prop := symtabHoldsRow.holds Tryd.pinned (OpenSpec.ofChange symtabHoldsSpec)

/-- ITS FALSE NEIGHBOUR: 'it returns false'. Refute it at one input. -/
def symtabHoldsWrong : ChangeSpec := { name := "symtabHolds", fn := fun _ => fun
  | [d1, d2] => { results := [.lit (.bool false)], args := [d1, d2] }
  | _ => none }
def SymtabHoldsWrongFalsely : Prop := symtabHoldsRow.holds Tryd.pinned (OpenSpec.ofChange symtabHoldsWrong)

/-- 'budwoodlaw13.SymtabSums': WHATEVER THE INPUT: true; the input reads as it did. -/
def symtabSumsSpec : ChangeSpec := { name := "symtabSums", fn := fun _ => fun
  | [d] => { results := [.lit (.bool true)], args := [d] }
  | _ => none }
def symtabSumsRow : OpenClaim := { program := "ytephimncnnogfaadoor", sum := "492ea36713b4163727fbc1b8e64c107a2a47fe8ebae30fbbbd1d53e726d46337", func := "budwood/budwoodlaw13.SymtabSums", spec := "symtabSums", inPlace := ["internal/bytealg.IndexByteString", "internal/bytealg.IndexString"], unfollowed := true, recurses := true, named := ["internal/bytealg.MaxLen", "unicode/utf8.first", "unicode/utf8.acceptRanges"], apart := false, laid := [("unicode/utf8.acceptRanges", laid_unicode_utf8_acceptRanges), ("unicode/utf8.first", laid_unicode_utf8_first)] }
def SymtabSumsSaid : Prop := symtabSumsRow.holds Tryd.pinned (OpenSpec.ofChange symtabSumsSpec)

/-- ITS FALSE NEIGHBOUR: 'it returns false'. Refute it at one input. -/
def symtabSumsWrong : ChangeSpec := { name := "symtabSums", fn := fun _ => fun
  | [d] => { results := [.lit (.bool false)], args := [d] }
  | _ => none }
def SymtabSumsWrongFalsely : Prop := symtabSumsRow.holds Tryd.pinned (OpenSpec.ofChange symtabSumsWrong)

/-- 'budwoodlaw13.SymtabBack': WHATEVER THE INPUT: true; the input reads as it did. -/
def symtabBackSpec : ChangeSpec := { name := "symtabBack", fn := fun _ => fun
  | [d1, d2] => { results := [.lit (.bool true)], args := [d1, d2] }
  | _ => none }
def symtabBackRow : OpenClaim := { program := "ytephimncnnogfaadoor", sum := "492ea36713b4163727fbc1b8e64c107a2a47fe8ebae30fbbbd1d53e726d46337", func := "budwood/budwoodlaw13.SymtabBack", spec := "symtabBack", inPlace := ["internal/bytealg.IndexByteString", "internal/bytealg.IndexString"], unfollowed := true, recurses := true, named := ["internal/bytealg.MaxLen", "unicode/utf8.first", "unicode/utf8.acceptRanges"], apart := false, laid := [("unicode/utf8.acceptRanges", laid_unicode_utf8_acceptRanges), ("unicode/utf8.first", laid_unicode_utf8_first)] }
def SymtabBackSaid : Prop := symtabBackRow.holds Tryd.pinned (OpenSpec.ofChange symtabBackSpec)

/-- ITS FALSE NEIGHBOUR: 'it returns false'. Refute it at one input. -/
def symtabBackWrong : ChangeSpec := { name := "symtabBack", fn := fun _ => fun
  | [d1, d2] => { results := [.lit (.bool false)], args := [d1, d2] }
  | _ => none }
def SymtabBackWrongFalsely : Prop := symtabBackRow.holds Tryd.pinned (OpenSpec.ofChange symtabBackWrong)

/-- 'budwoodlaw13.SymtabForks': WHATEVER THE INPUT: true; the input reads as it did. -/
def symtabForksSpec : ChangeSpec := { name := "symtabForks", fn := fun _ => fun
  | [d1, d2] => { results := [.lit (.bool true)], args := [d1, d2] }
  | _ => none }
def symtabForksRow : OpenClaim := { program := "ytephimncnnogfaadoor", sum := "492ea36713b4163727fbc1b8e64c107a2a47fe8ebae30fbbbd1d53e726d46337", func := "budwood/budwoodlaw13.SymtabForks", spec := "symtabForks", inPlace := ["internal/bytealg.IndexByteString", "internal/bytealg.IndexString", "maps.clone"], unfollowed := true, recurses := true, named := ["internal/bytealg.MaxLen", "unicode/utf8.first", "unicode/utf8.acceptRanges"], apart := false, laid := [("unicode/utf8.acceptRanges", laid_unicode_utf8_acceptRanges), ("unicode/utf8.first", laid_unicode_utf8_first)] }
def SymtabForksSaid : Prop := symtabForksRow.holds Tryd.pinned (OpenSpec.ofChange symtabForksSpec)

/-- ITS FALSE NEIGHBOUR: 'it returns false'. Refute it at one input. -/
def symtabForksWrong : ChangeSpec := { name := "symtabForks", fn := fun _ => fun
  | [d1, d2] => { results := [.lit (.bool false)], args := [d1, d2] }
  | _ => none }
def SymtabForksWrongFalsely : Prop := symtabForksRow.holds Tryd.pinned (OpenSpec.ofChange symtabForksWrong)

/- THE SECOND FORM. 'bulk': how many values and letters a reading holds, each counted each time it is reached (what is shared counts as often as it is met; a slice's spare places count too). A statement '..UptoSaid' is the law's where the arguments, and the package variables that the reading takes, are together of bulk at most 1048576: NARROWER than '..Said'. Prove '..Said' where nothing that the law and all that it calls make is longer than what came in: it says more and counts as full. Else prove '..UptoSaid'. A law counts once. -/
mutual
def uptoBulk {H : Type} : DataW H → Nat
  | .lit (.string bytes) => bytes.length + 1
  | .lit _ => 1
  | .nil => 1
  | .ptr d => uptoBulk d + 1
  | .slice elems spare => uptoBulkAll elems + uptoBulkAll spare + 1
  | .agg parts => uptoBulkAll parts + 1
  | .iface _ d => uptoBulk d + 1
  | .map entries => uptoBulkEntries entries + 1
  | .held _ => 1
def uptoBulkAll {H : Type} : List (DataW H) → Nat
  | [] => 0
  | d :: r => uptoBulk d + uptoBulkAll r
def uptoBulkEntries {H : Type} : List (Lit × DataW H) → Nat
  | [] => 0
  | x :: r => uptoBulkEntry x + uptoBulkEntries r
def uptoBulkEntry {H : Type} : Lit × DataW H → Nat
  | (.string bytes, d) => bytes.length + uptoBulk d + 1
  | (_, d) => uptoBulk d + 1
 end
def uptoSmall : (H : Type) → List (DataW H) → Bool := fun _ ds => decide (uptoBulkAll ds ≤ 1048576)
def OpenSpec.upto (s : _root_.Go.ChangeSpec) : _root_.Go.OpenSpec := { _root_.Go.OpenSpec.ofChange s with cond := some uptoSmall }

/-- 'budwoodlaw13.SymtabSlots', WHERE WHAT IT READS IS OF BULK AT MOST 1048576: true; the input reads as it did. -/
def symtabSlotsUptoRow : OpenClaim := { program := "ytephimncnnogfaadoor", sum := "492ea36713b4163727fbc1b8e64c107a2a47fe8ebae30fbbbd1d53e726d46337", func := "budwood/budwoodlaw13.SymtabSlots", spec := "symtabSlots", inPlace := ["internal/bytealg.IndexByteString", "internal/bytealg.IndexString"], unfollowed := true, recurses := true, named := ["internal/bytealg.MaxLen", "unicode/utf8.first", "unicode/utf8.acceptRanges"], apart := false, laid := [("unicode/utf8.acceptRanges", laid_unicode_utf8_acceptRanges), ("unicode/utf8.first", laid_unicode_utf8_first)], narrowed := true }
def SymtabSlotsUptoSaid : Prop := symtabSlotsUptoRow.holds Tryd.pinned (OpenSpec.upto symtabSlotsSpec)

/-- 'budwoodlaw13.SymtabPlays', WHERE WHAT IT READS IS OF BULK AT MOST 1048576: true; the input reads as it did. -/
def symtabPlaysUptoRow : OpenClaim := { program := "ytephimncnnogfaadoor", sum := "492ea36713b4163727fbc1b8e64c107a2a47fe8ebae30fbbbd1d53e726d46337", func := "budwood/budwoodlaw13.SymtabPlays", spec := "symtabPlays", inPlace := ["internal/bytealg.IndexByteString", "internal/bytealg.IndexString"], unfollowed := true, recurses := true, named := ["internal/bytealg.MaxLen", "unicode/utf8.first", "unicode/utf8.acceptRanges"], apart := false, laid := [("unicode/utf8.acceptRanges", laid_unicode_utf8_acceptRanges), ("unicode/utf8.first", laid_unicode_utf8_first)], narrowed := true }
def SymtabPlaysUptoSaid : Prop := symtabPlaysUptoRow.holds Tryd.pinned (OpenSpec.upto symtabPlaysSpec)

/-- 'budwoodlaw13.SymtabHolds', WHERE WHAT IT READS IS OF BULK AT MOST 1048576: true; the input reads as it did. -/
def symtabHoldsUptoRow : OpenClaim := { program := "ytephimncnnogfaadoor", sum := "492ea36713b4163727fbc1b8e64c107a2a47fe8ebae30fbbbd1d53e726d46337", func := "budwood/budwoodlaw13.SymtabHolds", spec := "symtabHolds", inPlace := ["internal/bytealg.IndexByteString", "internal/bytealg.IndexString"], unfollowed := true, recurses := true, named := ["internal/bytealg.MaxLen", "unicode/utf8.first", "unicode/utf8.acceptRanges"], apart := false, laid := [("unicode/utf8.acceptRanges", laid_unicode_utf8_acceptRanges), ("unicode/utf8.first", laid_unicode_utf8_first)], narrowed := true }
def SymtabHoldsUptoSaid : Prop := symtabHoldsUptoRow.holds Tryd.pinned (OpenSpec.upto symtabHoldsSpec)

/-- 'budwoodlaw13.SymtabSums', WHERE WHAT IT READS IS OF BULK AT MOST 1048576: true; the input reads as it did. -/
def symtabSumsUptoRow : OpenClaim := { program := "ytephimncnnogfaadoor", sum := "492ea36713b4163727fbc1b8e64c107a2a47fe8ebae30fbbbd1d53e726d46337", func := "budwood/budwoodlaw13.SymtabSums", spec := "symtabSums", inPlace := ["internal/bytealg.IndexByteString", "internal/bytealg.IndexString"], unfollowed := true, recurses := true, named := ["internal/bytealg.MaxLen", "unicode/utf8.first", "unicode/utf8.acceptRanges"], apart := false, laid := [("unicode/utf8.acceptRanges", laid_unicode_utf8_acceptRanges), ("unicode/utf8.first", laid_unicode_utf8_first)], narrowed := true }
def SymtabSumsUptoSaid : Prop := symtabSumsUptoRow.holds Tryd.pinned (OpenSpec.upto symtabSumsSpec)

/-- 'budwoodlaw13.SymtabBack', WHERE WHAT IT READS IS OF BULK AT MOST 1048576: true; the input reads as it did. -/
def symtabBackUptoRow : OpenClaim := { program := "ytephimncnnogfaadoor", sum := "492ea36713b4163727fbc1b8e64c107a2a47fe8ebae30fbbbd1d53e726d46337", func := "budwood/budwoodlaw13.SymtabBack", spec := "symtabBack", inPlace := ["internal/bytealg.IndexByteString", "internal/bytealg.IndexString"], unfollowed := true, recurses := true, named := ["internal/bytealg.MaxLen", "unicode/utf8.first", "unicode/utf8.acceptRanges"], apart := false, laid := [("unicode/utf8.acceptRanges", laid_unicode_utf8_acceptRanges), ("unicode/utf8.first", laid_unicode_utf8_first)], narrowed := true }
def SymtabBackUptoSaid : Prop := symtabBackUptoRow.holds Tryd.pinned (OpenSpec.upto symtabBackSpec)

/-- 'budwoodlaw13.SymtabForks', WHERE WHAT IT READS IS OF BULK AT MOST 1048576: true; the input reads as it did. -/
def symtabForksUptoRow : OpenClaim := { program := "ytephimncnnogfaadoor", sum := "492ea36713b4163727fbc1b8e64c107a2a47fe8ebae30fbbbd1d53e726d46337", func := "budwood/budwoodlaw13.SymtabForks", spec := "symtabForks", inPlace := ["internal/bytealg.IndexByteString", "internal/bytealg.IndexString", "maps.clone"], unfollowed := true, recurses := true, named := ["internal/bytealg.MaxLen", "unicode/utf8.first", "unicode/utf8.acceptRanges"], apart := false, laid := [("unicode/utf8.acceptRanges", laid_unicode_utf8_acceptRanges), ("unicode/utf8.first", laid_unicode_utf8_first)], narrowed := true }
def SymtabForksUptoSaid : Prop := symtabForksUptoRow.holds Tryd.pinned (OpenSpec.upto symtabForksSpec)

end Rows
end Go.Proofs.YtephimncnnogfaaDoor
