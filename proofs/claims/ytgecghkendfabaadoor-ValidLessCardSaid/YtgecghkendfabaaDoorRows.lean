/-
  NARROWER THAN 'FOR EVERY INPUT', by the rows' own cells (each row's printed sentence says how): ValidModules: laid · ValidCalls: laid · ValidLess: laid · ValidMore: laid · ValidTwice: laid · ValidPatches: laid.
  DERIVED. THE GIVEN ROWS OF THIS SEAT. 6 by the template 'for every input the law returns true; each argument reads behind the call as it read before'; 0 by the template 'total and deterministic' (their statements: YtgecghkendfabaaDoorTotals.lean).
  GIVEN WITH THE SEED: the statements are not yours to turn. If you find one false, say at which input.
  Laid BY PROGRAM, IN A SANDBOX (cutbox-rows.mjs): the forced cells as the released guide's own fill.sh prints them over the translation 89ec52cc8bbd661e… (all of the seat's roots in one cut). By AI agents, Wed Nov 11 2026. No macro, syntax, notation, axiom, sorry.
-/
import Derived.Test.YtgecghkendfabaaDoorChecked
import GoSem.PinnedTables
import GoSem.Claim
import GoSem.ClaimJoined
import GoSem.ClaimMapViews
import Derived.JoinedTies
import Derived.KernelRfl
namespace Go.Proofs.YtgecghkendfabaaDoor
/- THE CELL 'sum', in the pinned program and in every row, IS THE sha256 OF THE DUMP (.gsa) THAT YtgecghkendfabaaDoorProg.lean LOADS. Nothing in Lean hashes anything: it is a label: what it is worth is what the hold of that sum in a sandbox is worth. -/
noncomputable def Tryd.pinned : Pinned := { name := "ytgecghkendfabaadoor", sum := "89ec52cc8bbd661efd74798b238bff72c7b7d5db87bed022546a0805dc57a95f", checked := Tryd.checked }
namespace Rows
def none {H : Type} : Left H := { results := [], args := [] }

/- WHAT THE LISTED PACKAGE-LEVEL VARIABLES READ AS WHEN THE CALL BEGINS. Each datum BY PROGRAM (the guide's laid-datum.mjs) off the statement by which the dump's own 'gosem.cut.vars' lays the variable. In a bare row this is a premise. The card (YtgecghkendfabaaDoorCards.lean) ties it to the program's text. -/
def laid_unicode_utf8_acceptRanges {H : Type} : DataW H := .agg [.agg [.lit (.int .u8 128), .lit (.int .u8 191)], .agg [.lit (.int .u8 160), .lit (.int .u8 191)], .agg [.lit (.int .u8 128), .lit (.int .u8 159)], .agg [.lit (.int .u8 144), .lit (.int .u8 191)], .agg [.lit (.int .u8 128), .lit (.int .u8 143)], .agg [.lit (.int .u8 0), .lit (.int .u8 0)], .agg [.lit (.int .u8 0), .lit (.int .u8 0)], .agg [.lit (.int .u8 0), .lit (.int .u8 0)], .agg [.lit (.int .u8 0), .lit (.int .u8 0)], .agg [.lit (.int .u8 0), .lit (.int .u8 0)], .agg [.lit (.int .u8 0), .lit (.int .u8 0)], .agg [.lit (.int .u8 0), .lit (.int .u8 0)], .agg [.lit (.int .u8 0), .lit (.int .u8 0)], .agg [.lit (.int .u8 0), .lit (.int .u8 0)], .agg [.lit (.int .u8 0), .lit (.int .u8 0)], .agg [.lit (.int .u8 0), .lit (.int .u8 0)]]
/-- One of Go's own tables, pinned by name: the form's constant. -/
def laid_unicode_utf8_first : DataW Unit := Go.Pinned.utf8First

/-- 'budwoodlaw11.ValidModules': WHATEVER THE INPUT: true; the input reads as it did. -/
def validModulesSpec : ChangeSpec := { name := "validModules", fn := fun _ => fun
  | [d] => { results := [.lit (.bool true)], args := [d] }
  | _ => none }
def validModulesRow : OpenClaim := { program := "ytgecghkendfabaadoor", sum := "89ec52cc8bbd661efd74798b238bff72c7b7d5db87bed022546a0805dc57a95f", func := "budwood/budwoodlaw11.ValidModules", spec := "validModules", inPlace := ["internal/bytealg.IndexByteString", "internal/bytealg.IndexString"], unfollowed := true, recurses := true, named := ["internal/bytealg.MaxLen", "unicode/utf8.first", "unicode/utf8.acceptRanges"], plainKeys := false, apart := false, laid := [("unicode/utf8.acceptRanges", laid_unicode_utf8_acceptRanges), ("unicode/utf8.first", laid_unicode_utf8_first)] }
def ValidModulesSaid : Prop := validModulesRow.holds Tryd.pinned (OpenSpec.ofChange validModulesSpec)

/-- ITS FALSE NEIGHBOUR: 'it returns false'. Refute it at one input. -/
def validModulesWrong : ChangeSpec := { name := "validModules", fn := fun _ => fun
  | [d] => { results := [.lit (.bool false)], args := [d] }
  | _ => none }
def ValidModulesWrongFalsely : Prop := validModulesRow.holds Tryd.pinned (OpenSpec.ofChange validModulesWrong)

/-- 'budwoodlaw11.ValidCalls': WHATEVER THE INPUT: true; the input reads as it did. -/
def validCallsSpec : ChangeSpec := { name := "validCalls", fn := fun _ => fun
  | [d] => { results := [.lit (.bool true)], args := [d] }
  | _ => none }
def validCallsRow : OpenClaim := { program := "ytgecghkendfabaadoor", sum := "89ec52cc8bbd661efd74798b238bff72c7b7d5db87bed022546a0805dc57a95f", func := "budwood/budwoodlaw11.ValidCalls", spec := "validCalls", inPlace := ["internal/bytealg.IndexByteString", "internal/bytealg.IndexString"], unfollowed := true, recurses := true, named := ["internal/bytealg.MaxLen", "unicode/utf8.first", "unicode/utf8.acceptRanges"], plainKeys := false, apart := false, laid := [("unicode/utf8.acceptRanges", laid_unicode_utf8_acceptRanges), ("unicode/utf8.first", laid_unicode_utf8_first)] }
def ValidCallsSaid : Prop := validCallsRow.holds Tryd.pinned (OpenSpec.ofChange validCallsSpec)

/-- ITS FALSE NEIGHBOUR: 'it returns false'. Refute it at one input. -/
def validCallsWrong : ChangeSpec := { name := "validCalls", fn := fun _ => fun
  | [d] => { results := [.lit (.bool false)], args := [d] }
  | _ => none }
def ValidCallsWrongFalsely : Prop := validCallsRow.holds Tryd.pinned (OpenSpec.ofChange validCallsWrong)

/-- 'budwoodlaw11.ValidLess': WHATEVER THE INPUT: true; the input reads as it did. -/
def validLessSpec : ChangeSpec := { name := "validLess", fn := fun _ => fun
  | [d] => { results := [.lit (.bool true)], args := [d] }
  | _ => none }
def validLessRow : OpenClaim := { program := "ytgecghkendfabaadoor", sum := "89ec52cc8bbd661efd74798b238bff72c7b7d5db87bed022546a0805dc57a95f", func := "budwood/budwoodlaw11.ValidLess", spec := "validLess", inPlace := ["internal/bytealg.IndexByteString", "internal/bytealg.IndexString"], unfollowed := true, recurses := true, named := ["internal/bytealg.MaxLen", "unicode/utf8.first", "unicode/utf8.acceptRanges"], plainKeys := false, apart := false, laid := [("unicode/utf8.acceptRanges", laid_unicode_utf8_acceptRanges), ("unicode/utf8.first", laid_unicode_utf8_first)] }
def ValidLessSaid : Prop := validLessRow.holds Tryd.pinned (OpenSpec.ofChange validLessSpec)

/-- ITS FALSE NEIGHBOUR: 'it returns false'. Refute it at one input. -/
def validLessWrong : ChangeSpec := { name := "validLess", fn := fun _ => fun
  | [d] => { results := [.lit (.bool false)], args := [d] }
  | _ => none }
def ValidLessWrongFalsely : Prop := validLessRow.holds Tryd.pinned (OpenSpec.ofChange validLessWrong)

/-- 'budwoodlaw11.ValidMore': WHATEVER THE INPUT: true; the input reads as it did. -/
def validMoreSpec : ChangeSpec := { name := "validMore", fn := fun _ => fun
  | [d1, d2] => { results := [.lit (.bool true)], args := [d1, d2] }
  | _ => none }
def validMoreRow : OpenClaim := { program := "ytgecghkendfabaadoor", sum := "89ec52cc8bbd661efd74798b238bff72c7b7d5db87bed022546a0805dc57a95f", func := "budwood/budwoodlaw11.ValidMore", spec := "validMore", inPlace := ["internal/bytealg.IndexByteString", "internal/bytealg.IndexString"], unfollowed := true, recurses := true, named := ["internal/bytealg.MaxLen", "unicode/utf8.first", "unicode/utf8.acceptRanges"], plainKeys := false, apart := false, laid := [("unicode/utf8.acceptRanges", laid_unicode_utf8_acceptRanges), ("unicode/utf8.first", laid_unicode_utf8_first)] }
def ValidMoreSaid : Prop := validMoreRow.holds Tryd.pinned (OpenSpec.ofChange validMoreSpec)

/-- ITS FALSE NEIGHBOUR: 'it returns false'. Refute it at one input. -/
def validMoreWrong : ChangeSpec := { name := "validMore", fn := fun _ => fun
  | [d1, d2] => { results := [.lit (.bool false)], args := [d1, d2] }
  | _ => none }
def ValidMoreWrongFalsely : Prop := validMoreRow.holds Tryd.pinned (OpenSpec.ofChange validMoreWrong)

/-- 'budwoodlaw11.ValidTwice': WHATEVER THE INPUT: true; the input reads as it did. -/
def validTwiceSpec : ChangeSpec := { name := "validTwice", fn := fun _ => fun
  | [d1, d2] => { results := [.lit (.bool true)], args := [d1, d2] }
  | _ => none }
def validTwiceRow : OpenClaim := { program := "ytgecghkendfabaadoor", sum := "89ec52cc8bbd661efd74798b238bff72c7b7d5db87bed022546a0805dc57a95f", func := "budwood/budwoodlaw11.ValidTwice", spec := "validTwice", inPlace := ["internal/bytealg.IndexByteString", "internal/bytealg.IndexString"], unfollowed := true, recurses := true, named := ["internal/bytealg.MaxLen", "unicode/utf8.first", "unicode/utf8.acceptRanges"], plainKeys := false, apart := false, laid := [("unicode/utf8.acceptRanges", laid_unicode_utf8_acceptRanges), ("unicode/utf8.first", laid_unicode_utf8_first)] }
def ValidTwiceSaid : Prop := validTwiceRow.holds Tryd.pinned (OpenSpec.ofChange validTwiceSpec)

/-- ITS FALSE NEIGHBOUR: 'it returns false'. Refute it at one input. -/
def validTwiceWrong : ChangeSpec := { name := "validTwice", fn := fun _ => fun
  | [d1, d2] => { results := [.lit (.bool false)], args := [d1, d2] }
  | _ => none }
def ValidTwiceWrongFalsely : Prop := validTwiceRow.holds Tryd.pinned (OpenSpec.ofChange validTwiceWrong)

/-- 'budwoodlaw11.ValidPatches': WHATEVER THE INPUT: true; the input reads as it did. -/
def validPatchesSpec : ChangeSpec := { name := "validPatches", fn := fun _ => fun
  | [d1, d2] => { results := [.lit (.bool true)], args := [d1, d2] }
  | _ => none }
def validPatchesRow : OpenClaim := { program := "ytgecghkendfabaadoor", sum := "89ec52cc8bbd661efd74798b238bff72c7b7d5db87bed022546a0805dc57a95f", func := "budwood/budwoodlaw11.ValidPatches", spec := "validPatches", inPlace := ["internal/bytealg.IndexByteString", "internal/bytealg.IndexString"], unfollowed := true, recurses := true, named := ["internal/bytealg.MaxLen", "unicode/utf8.first", "unicode/utf8.acceptRanges"], plainKeys := false, apart := false, laid := [("unicode/utf8.acceptRanges", laid_unicode_utf8_acceptRanges), ("unicode/utf8.first", laid_unicode_utf8_first)] }
def ValidPatchesSaid : Prop := validPatchesRow.holds Tryd.pinned (OpenSpec.ofChange validPatchesSpec)

/-- ITS FALSE NEIGHBOUR: 'it returns false'. Refute it at one input. -/
def validPatchesWrong : ChangeSpec := { name := "validPatches", fn := fun _ => fun
  | [d1, d2] => { results := [.lit (.bool false)], args := [d1, d2] }
  | _ => none }
def ValidPatchesWrongFalsely : Prop := validPatchesRow.holds Tryd.pinned (OpenSpec.ofChange validPatchesWrong)

/- THE SECOND FORM. 'bulk': how many values and letters a reading holds, each counted each time it is reached (what is shared counts as often as it is met; a slice's spare places count too). A statement '..UptoSaid' is the law's where the arguments, and the package variables that the reading takes, are together of bulk at most 1048576: NARROWER than '..Said'. Prove '..Said' where nothing that the law and all that it calls make is longer than what came in: it says more and counts as full. Else prove '..UptoSaid'. A law counts once. -/
mutual
def uptoBulk {H : Type} : DataW H → Nat
  | .lit (.string bytes) => bytes.length + 1
  | .lit _ => 1
  | .nil => 1
  | .ptr d => uptoBulk d + 1
  | .slice elems spare => uptoBulkAll elems + uptoBulkAll spare + 1
  | .agg parts => uptoBulkAll parts + 1
  | .iface _ d => uptoBulk d + 1
  | .map entries => uptoBulkEntries entries + 1
  | .held _ => 1
def uptoBulkAll {H : Type} : List (DataW H) → Nat
  | [] => 0
  | d :: r => uptoBulk d + uptoBulkAll r
def uptoBulkEntries {H : Type} : List (Lit × DataW H) → Nat
  | [] => 0
  | x :: r => uptoBulkEntry x + uptoBulkEntries r
def uptoBulkEntry {H : Type} : Lit × DataW H → Nat
  | (.string bytes, d) => bytes.length + uptoBulk d + 1
  | (_, d) => uptoBulk d + 1
 end
def uptoSmall : (H : Type) → List (DataW H) → Bool := fun _ ds => decide (uptoBulkAll ds ≤ 1048576)
def OpenSpec.upto (s : _root_.Go.ChangeSpec) : _root_.Go.OpenSpec := { _root_.Go.OpenSpec.ofChange s with cond := some uptoSmall }

/-- 'budwoodlaw11.ValidModules', WHERE WHAT IT READS IS OF BULK AT MOST 1048576: true; the input reads as it did. -/
def validModulesUptoRow : OpenClaim := { program := "ytgecghkendfabaadoor", sum := "89ec52cc8bbd661efd74798b238bff72c7b7d5db87bed022546a0805dc57a95f", func := "budwood/budwoodlaw11.ValidModules", spec := "validModules", inPlace := ["internal/bytealg.IndexByteString", "internal/bytealg.IndexString"], unfollowed := true, recurses := true, named := ["internal/bytealg.MaxLen", "unicode/utf8.first", "unicode/utf8.acceptRanges"], plainKeys := false, apart := false, laid := [("unicode/utf8.acceptRanges", laid_unicode_utf8_acceptRanges), ("unicode/utf8.first", laid_unicode_utf8_first)], narrowed := true }
def ValidModulesUptoSaid : Prop := validModulesUptoRow.holds Tryd.pinned (OpenSpec.upto validModulesSpec)

/-- 'budwoodlaw11.ValidCalls', WHERE WHAT IT READS IS OF BULK AT MOST 1048576: true; the input reads as it did. -/
def validCallsUptoRow : OpenClaim := { program := "ytgecghkendfabaadoor", sum := "89ec52cc8bbd661efd74798b238bff72c7b7d5db87bed022546a0805dc57a95f", func := "budwood/budwoodlaw11.ValidCalls", spec := "validCalls", inPlace := ["internal/bytealg.IndexByteString", "internal/bytealg.IndexString"], unfollowed := true, recurses := true, named := ["internal/bytealg.MaxLen", "unicode/utf8.first", "unicode/utf8.acceptRanges"], plainKeys := false, apart := false, laid := [("unicode/utf8.acceptRanges", laid_unicode_utf8_acceptRanges), ("unicode/utf8.first", laid_unicode_utf8_first)], narrowed := true }
def ValidCallsUptoSaid : Prop := validCallsUptoRow.holds Tryd.pinned (OpenSpec.upto validCallsSpec)

/-- 'budwoodlaw11.ValidLess', WHERE WHAT IT READS IS OF BULK AT MOST 1048576: true; the input reads as it did. -/
def validLessUptoRow : OpenClaim := { program := "ytgecghkendfabaadoor", sum := "89ec52cc8bbd661efd74798b238bff72c7b7d5db87bed022546a0805dc57a95f", func := "budwood/budwoodlaw11.ValidLess", spec := "validLess", inPlace := ["internal/bytealg.IndexByteString", "internal/bytealg.IndexString"], unfollowed := true, recurses := true, named := ["internal/bytealg.MaxLen", "unicode/utf8.first", "unicode/utf8.acceptRanges"], plainKeys := false, apart := false, laid := [("unicode/utf8.acceptRanges", laid_unicode_utf8_acceptRanges), ("unicode/utf8.first", laid_unicode_utf8_first)], narrowed := true }
def ValidLessUptoSaid : Prop := validLessUptoRow.holds Tryd.pinned (OpenSpec.upto validLessSpec)

/-- 'budwoodlaw11.ValidMore', WHERE WHAT IT READS IS OF BULK AT MOST 1048576: true; the input reads as it did. -/
def validMoreUptoRow : OpenClaim := { program := "ytgecghkendfabaadoor", sum := "89ec52cc8bbd661efd74798b238bff72c7b7d5db87bed022546a0805dc57a95f", func := "budwood/budwoodlaw11.ValidMore", spec := "validMore", inPlace := ["internal/bytealg.IndexByteString", "internal/bytealg.IndexString"], unfollowed := true, recurses := true, named := ["internal/bytealg.MaxLen", "unicode/utf8.first", "unicode/utf8.acceptRanges"], plainKeys := false, apart := false, laid := [("unicode/utf8.acceptRanges", laid_unicode_utf8_acceptRanges), ("unicode/utf8.first", laid_unicode_utf8_first)], narrowed := true }
def ValidMoreUptoSaid : Prop := validMoreUptoRow.holds Tryd.pinned (OpenSpec.upto validMoreSpec)

/-- 'budwoodlaw11.ValidTwice', WHERE WHAT IT READS IS OF BULK AT MOST 1048576: true; the input reads as it did. -/
def validTwiceUptoRow : OpenClaim := { program := "ytgecghkendfabaadoor", sum := "89ec52cc8bbd661efd74798b238bff72c7b7d5db87bed022546a0805dc57a95f", func := "budwood/budwoodlaw11.ValidTwice", spec := "validTwice", inPlace := ["internal/bytealg.IndexByteString", "internal/bytealg.IndexString"], unfollowed := true, recurses := true, named := ["internal/bytealg.MaxLen", "unicode/utf8.first", "unicode/utf8.acceptRanges"], plainKeys := false, apart := false, laid := [("unicode/utf8.acceptRanges", laid_unicode_utf8_acceptRanges), ("unicode/utf8.first", laid_unicode_utf8_first)], narrowed := true }
def ValidTwiceUptoSaid : Prop := validTwiceUptoRow.holds Tryd.pinned (OpenSpec.upto validTwiceSpec)

/-- 'budwoodlaw11.ValidPatches', WHERE WHAT IT READS IS OF BULK AT MOST 1048576: true; the input reads as it did. -/
def validPatchesUptoRow : OpenClaim := { program := "ytgecghkendfabaadoor", sum := "89ec52cc8bbd661efd74798b238bff72c7b7d5db87bed022546a0805dc57a95f", func := "budwood/budwoodlaw11.ValidPatches", spec := "validPatches", inPlace := ["internal/bytealg.IndexByteString", "internal/bytealg.IndexString"], unfollowed := true, recurses := true, named := ["internal/bytealg.MaxLen", "unicode/utf8.first", "unicode/utf8.acceptRanges"], plainKeys := false, apart := false, laid := [("unicode/utf8.acceptRanges", laid_unicode_utf8_acceptRanges), ("unicode/utf8.first", laid_unicode_utf8_first)], narrowed := true }
def ValidPatchesUptoSaid : Prop := validPatchesUptoRow.holds Tryd.pinned (OpenSpec.upto validPatchesSpec)

end Rows
end Go.Proofs.YtgecghkendfabaaDoor
