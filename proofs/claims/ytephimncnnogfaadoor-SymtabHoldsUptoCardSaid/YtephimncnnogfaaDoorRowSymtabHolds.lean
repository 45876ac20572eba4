/-
  Hold and then Drop leave the table as it was.
  Conditions: none but that what the law reads is of bulk at most 1048576 (the statement's second form); the library's tables hold what their initialisers lay (the card ties them).
-/
import Derived.Test.YtephimncnnogfaaDoorCards
import Derived.Test.YtephimncnnogfaaDoorTie
import Derived.Test.YtephimncnnogfaaDoorOp
import Derived.Test.YtephimncnnogfaaDoorMg7
import Derived.WalkKit
import Derived.ProofKit
import Derived.OpenShut
import Derived.ShutString
import Derived.ChangeOld
import Derived.Below
import Derived.Carry
import Derived.JoinedOf
import Derived.SizedLaws
import Derived.Deep.DeepHandedRow
import Derived.Lib.LaidTab
import Derived.Lib.LaidU8
namespace Go.Proofs.YtephimncnnogfaaDoor.rowSymtabHolds
open Go.ChangeShapes Go.WideShapes Go.ChangeAt Go.RowKit Go.Lib
open Go.ChangeMaps (open_string shut_string)
open Go.Proofs.YtephimncnnogfaaDoorW.PrintWords Go.Proofs.YtephimncnnogfaaDoorW.PrintMore
set_option linter.unusedVariables false

theorem own : ownKnob Tryd.prog.godebug = none := by kernel_rfl
theorem laidOut : laidOutB Tryd.prog = true := by kernel_rfl
theorem reads_ {W : World} (h : laidMetH Tryd.prog Rows.symtabHoldsUptoRow.laid W) {n : String} {d : DataW Unit} (hm : (n, d) ∈ Rows.symtabHoldsUptoRow.laid) : VarReads Tryd.prog W n d :=
  laidMet.reads (laidH_plain _ _ _ (by kernel_rfl) h) hm
theorem extra : U8Extra Tryd.prog Tryd.lays260_ren := ⟨by kernel_rfl, by kernel_rfl, by kernel_rfl, by kernel_rfl, by kernel_rfl, by kernel_rfl, by kernel_rfl⟩
theorem eFirst : (Rows.laid_unicode_utf8_first : DataW Unit) = firstData := by kernel_rfl
theorem eAccept : (Rows.laid_unicode_utf8_acceptRanges : DataW Unit) = acceptData := by kernel_rfl
theorem glob {W : World} (h : laidMetH Tryd.prog Rows.symtabHoldsUptoRow.laid W) (hsh : W.ShapedOpen Tryd.prog) : Glob W where
  m := Tryd.laysM219.s1_3 W hsh
  u := utf8Tabs_of_reads Tryd.lays260 extra (eFirst ▸ reads_ h (by simp [Rows.symtabHoldsUptoRow])) (eAccept ▸ reads_ h (by simp [Rows.symtabHoldsUptoRow]))
theorem okSlice {P : Program} {w : World} {r : Reach} {base : Nat} {t e : TypeId} {v : Value} (ht : P.underlying t = some (.slice e)) (h : Value.okWide P w r base t v) : v.cells.toList = [v] := by
  obtain ⟨a, len, cap, rfl⟩ := okWide_slice ht h
  rfl
theorem bulkMem {H : Type} : ∀ (d : DataW H) (l : List (DataW H)), d ∈ l → Rows.uptoBulk d ≤ Rows.uptoBulkAll l
  | d, x :: r, h => by
    simp only [Rows.uptoBulkAll]
    rcases List.mem_cons.1 h with rfl | h
    · omega
    · have := bulkMem d r h
      omega
theorem bulkS {H : Type} (es sp : List (DataW H)) : Rows.uptoBulk (.slice es sp) = Rows.uptoBulkAll es + Rows.uptoBulkAll sp + 1 := by simp only [Rows.uptoBulk]
theorem bulkG {H : Type} (ps : List (DataW H)) : Rows.uptoBulk (.agg ps) = Rows.uptoBulkAll ps + 1 := by simp only [Rows.uptoBulk]
theorem bulkL {H : Type} (bs : List UInt8) : Rows.uptoBulk (.lit (.string bs) : DataW H) = bs.length + 1 := by simp only [Rows.uptoBulk]
noncomputable def cx {H : Type} (enc : TypeId × Value → H) (W : World) : Go.Abs.Cx H := { enc := enc, P := Tryd.prog, w := W, F := Go.Abs.Fr (Go.Abs.heldAs W 3) W, B := Rows.uptoBulk, BA := Rows.uptoBulkAll, M := 1048576, L := 1048576, mem := bulkMem, sl := fun es sp => by rw [bulkS]; omega, ag := fun ps => by rw [bulkG]; omega, st := fun s h _ => by rw [bulkL] at h; have e : s.size = s.data.toList.length := rfl; omega }

set_option maxRecDepth 100000 in
theorem contract (H : Type) (enc : TypeId × Value → H) (W : World) (base : Nat) (args : Array Value) (ds gs : List (DataW H)) (before : List MemPlace)
    (hval0 : ∀ (j : Nat) t v, Tryd.f5.params[j]? = some t → args[j]? = some v → Value.okWide Tryd.prog W .any base t v)
    (hW : DataW.Whole enc Tryd.prog Tryd.f5.params.toList Rows.symtabHoldsSpec.vars false W args.toList ds gs before) (hk : Rows.uptoSmall H (ds ++ gs) = true)
    (hL : laidMetH Tryd.prog Rows.symtabHoldsUptoRow.laid W) (hsh : W.ShapedOpen Tryd.prog) :
    Calls Tryd.prog 5 args W fun e W' => ∃ v, e = .returned v ∧ Rows.symtabHoldsSpec.post enc Tryd.prog Tryd.f5 false true false false W args v W' := by
  have hval : ∀ (j : Nat) t v, Tryd.f5.params[j]? = some t → args[j]? = some v → Value.okWide Tryd.prog W .any base t v := hval0
  have hW' := hW
  obtain ⟨p, q, hA0, hV, rfl, hfz, hnd⟩ := hW
  have hA : DataW.TrodAll enc Tryd.prog W 0 (fun _ => true) true Tryd.f5.params.toList args.toList ds p := hA0
  rw [Tryd.params5] at hA hval
  obtain ⟨v0, vs0, d0, ds0, p0, q0, hargs, rfl, rfl, h0, r0⟩ := trodAll_cons hA
  obtain ⟨v1, vs1, d1, ds1, p1, q1, rfl, rfl, rfl, h1, r1⟩ := trodAll_cons r0
  obtain ⟨rfl, rfl, rfl⟩ := trodAll_nil r1
  obtain rfl : args = #[v0, v1] := by cases args; simp_all
  obtain ⟨rfl, rfl⟩ := trodVars_none hV
  have hb := of_decide_eq_true hk
  simp only [List.append_nil, Rows.uptoBulkAll] at hb
  have hbd0 : Rows.uptoBulk d0 ≤ 1048576 := by omega
  have hbd1 : Rows.uptoBulk d1 ≤ 1048576 := by omega
  have hh0 := h0
  obtain ⟨fu0, th0⟩ := h0
  have one0 : v0.cells.toList = [v0] := okSlice Tryd.underlying36 (hval 0 36 v0 rfl rfl)
  replace th0 : DataW.trod enc Tryd.prog W 0 (fun _ => true) true fu0 36 [v0] = some (d0, p0) := by rw [← one0]; exact th0
  obtain ⟨x0, RP0, GD0⟩ := (Go.Abs.rdActs rfl hsh rfl : Go.Abs.Reads (cx enc W) _ _ _) fu0 _ _ th0 hbd0
  have hh1 := h1
  obtain ⟨fu1, th1⟩ := h1
  have one1 : v1.cells.toList = [v1] := okSlice Tryd.underlying22 (hval 1 22 v1 rfl rfl)
  replace th1 : DataW.trod enc Tryd.prog W 0 (fun _ => true) true fu1 22 [v1] = some (d1, p1) := by rw [← one1]; exact th1
  obtain ⟨x1, RP1, GD1⟩ := (Go.Abs.rdNames rfl hsh rfl : Go.Abs.Reads (cx enc W) _ _ _) fu1 _ _ th1 hbd1
  refine (Go.Abs.holds_calls (glob hL hsh) RP0 GD0.2 RP1 GD1).mono fun e W' ⟨he, bel⟩ => ?_
  subst he
  exact ⟨_, rfl, _, _, _, [], _, [], hW', trodAll_mk1 (shut_bool Tryd.underlying4 _), (trodAll_cons_mk (Below.trod laidOut (by kernel_rfl) (of_decide_eq_true (by kernel_rfl)) hh0 bel (fun x hx => by simpa using hW'.lt x (by simp [hx]))) (trodAll_cons_mk (Below.trod laidOut (by kernel_rfl) (of_decide_eq_true (by kernel_rfl)) hh1 bel (fun x hx => by simpa using hW'.lt x (by simp [hx]))) trodAll_mk0)), rfl, bel.frame _, fun h => by cases h⟩

/-- A world for the witness: the library's tables hold what their initialisers lay. -/
noncomputable def laidWorld (os : Os) : World :=
  { World.holding Tryd.prog os ⟨#[], #[], []⟩ with heap := (((World.holding Tryd.prog os ⟨#[], #[], []⟩).heap.modify 2 fun
      | .cells _ t frozen => .cells ((List.range 16).flatMap fun i => [Value.int .u8 (accLo i : Int), Value.int .u8 (accHi i : Int)]).toArray t frozen
      | o => o).modify 1 fun
      | .cells _ t frozen => .cells (Lib.firstTab.map fun z => Value.int .u8 z).toArray t frozen
      | o => o) }
theorem laid_met (os : Os) : laidMet Tryd.prog Rows.symtabHoldsUptoRow.laid ((laidWorld os).forCall (fun _ _ => 0) ⟨#[], #[.slice none 0 0, .slice none 0 0], []⟩).memory :=
  laidMet_of_run' 8 (by kernel_rfl) (by kernel_rfl)
theorem reads (os : Os) {H : Type} (enc : TypeId × Value → H) : ∃ places, DataW.whole enc Tryd.prog ((laidWorld os).forCall (fun _ _ => 0) ⟨#[], #[.slice none 0 0, .slice none 0 0], []⟩).memory Tryd.f5.params.toList Rows.symtabHoldsSpec.vars false (#[.slice none 0 0, .slice none 0 0] : Array Value).toList 8 = some ([.nil, .nil], [], places) :=
  ⟨[], by kernel_rfl⟩

set_option maxRecDepth 100000 in
theorem lifted (os : Os) (started : os.Started) (H : Type) (enc : TypeId × Value → H) (F : Stop.Interp) :
    ReturnsInHanded {} Tryd.checked os 5 .any ((Rows.OpenSpec.upto Rows.symtabHoldsSpec).preRow enc Tryd.prog Tryd.f5 Rows.symtabHoldsUptoRow.domain false Rows.symtabHoldsUptoRow.laid) (((Rows.OpenSpec.upto Rows.symtabHoldsSpec).at F).post enc Tryd.prog Tryd.f5 false true false false) := by
  obtain ⟨places, hx⟩ := reads os enc
  refine returnsInHanded_of_row (C := Tryd.checked) (s := (Rows.OpenSpec.upto Rows.symtabHoldsSpec)) own started (by kernel_rfl) Tryd.func5
    (witness_row_at (enc := enc) (C := Tryd.checked) false (laidWorld os) #[.slice none 0 0, .slice none 0 0] rfl (by kernel_rfl) (by kernel_rfl) (by kernel_rfl)
      (OpenSpec.preRow_of_cond 8 hx (by kernel_rfl) (fun k hk => by cases hk; kernel_rfl) (by kernel_rfl) (laid_met os))) ?_
  intro W base args ds gs before hval hW _ hcond _ hL hsh _
  exact contract H enc W base args ds gs before hval hW (hcond _ rfl) hL hsh

theorem said : Rows.SymtabHoldsUptoSaid :=
  OpenClaim.holds_of_cond 5 Tryd.f5 rfl rfl rfl rfl rfl rfl rfl ⟨rfl, rfl, rfl, rfl, rfl⟩ rfl rfl rfl rfl rfl (by kernel_rfl) Tryd.func5 (by kernel_rfl)
    (of_decide_eq_true (by kernel_rfl)) (by unfold Func.isWrapper; first | (rw [if_pos (by decide +kernel)]; kernel_rfl) | (rw [if_neg (by decide +kernel)]; exact ⟨rfl, rfl⟩))
    (fun os started H enc _ F => by rw [OpenClaim.pre_eq_preRow]; exact lifted os started H enc F)

theorem plain (f : FuncId) (fn : Func) (hf : Tryd.pinned.checked.prog.funcNamed "budwood/budwoodlaw13.SymtabHolds" = some f) (hfn : Tryd.pinned.checked.prog.funcs[f]? = some fn) :
    true = Tryd.pinned.checked.prog.looks [] ∧ ∀ (j : Nat) t, fn.params[j]? = some t → Tryd.pinned.checked.prog.wantsStandIn t = false := by
  obtain rfl : f = 5 := Option.some.inj ((show Tryd.prog.funcNamed "budwood/budwoodlaw13.SymtabHolds" = some 5 by kernel_rfl).symm.trans hf) |>.symm
  obtain rfl : fn = Tryd.f5 := (Option.some.inj (Tryd.func5.symm.trans hfn)).symm
  refine ⟨by kernel_rfl, fun j t ht => ?_⟩
  rw [Tryd.params5] at ht
  have ht2 := Array.mem_of_getElem? ht
  simp only [List.mem_toArray, List.mem_cons, List.not_mem_nil, or_false] at ht2
  rcases ht2 with rfl | rfl
  · exact (show Tryd.prog.wantsStandIn 36 = false by kernel_rfl)
  · exact (show Tryd.prog.wantsStandIn 22 = false by kernel_rfl)

theorem card : Rows.SymtabHoldsUptoCardSaid :=
  Claim7.holds_tied_plain_at .later [] _ _ _ _ said (fun _ h => by cases h) (by kernel_rfl) (fun _ h => by cases h) symtabHoldsUpto_row_tie rfl ⟨rfl, rfl⟩ (by kernel_rfl) rfl plain (by kernel_rfl)
end Go.Proofs.YtephimncnnogfaaDoor.rowSymtabHolds
namespace Go.Proofs.YtephimncnnogfaaDoor
theorem symtabHolds_holds : Rows.SymtabHoldsUptoCardSaid := rowSymtabHolds.card
#print axioms symtabHolds_holds
end Go.Proofs.YtephimncnnogfaaDoor
