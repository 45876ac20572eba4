/-
  A fork has what its table had, and neither sees what the other does; gates without a table say so.
  Conditions: none but that what the law reads is of bulk at most 1048576 (the statement's second form); the library's tables hold what their initialisers lay (the card ties them).
-/
import Derived.Test.YtlgmboaoemlnpaaDoorCards
import Derived.Test.YtlgmboaoemlnpaaDoorTie
import Derived.Test.YtlgmboaoemlnpaaDoorOp
import Derived.Test.YtlgmboaoemlnpaaDoorAbG15
import Derived.WalkKit
import Derived.ProofKit
import Derived.OpenShut
import Derived.ShutString
import Derived.ChangeOld
import Derived.Below
import Derived.Carry
import Derived.JoinedOf
import Derived.SizedLaws
import Derived.Deep.DeepHandedRow
import Derived.Lib.LaidTab
import Derived.Lib.LaidU8
namespace Go.Proofs.YtlgmboaoemlnpaaDoor.rowGateForks
open Go.ChangeShapes Go.WideShapes Go.ChangeAt Go.RowKit Go.Lib
open Go.ChangeMaps (open_string shut_string)
open Go.Proofs.YtlgmboaoemlnpaaDoorW.PrintWords Go.Proofs.YtlgmboaoemlnpaaDoorW.PrintMore
set_option linter.unusedVariables false

theorem own : ownKnob Tryd.prog.godebug = none := by kernel_rfl
theorem laidOut : laidOutB Tryd.prog = true := by kernel_rfl
theorem reads_ {W : World} (h : laidMetH Tryd.prog Rows.gateForksUptoRow.laid W) {n : String} {d : DataW Unit} (hm : (n, d) ∈ Rows.gateForksUptoRow.laid) : VarReads Tryd.prog W n d :=
  laidMet.reads (laidH_plain _ _ _ (by kernel_rfl) h) hm
theorem extra : U8Extra Tryd.prog Tryd.lays260_ren := ⟨by kernel_rfl, by kernel_rfl, by kernel_rfl, by kernel_rfl, by kernel_rfl, by kernel_rfl, by kernel_rfl⟩
theorem eFirst : (Rows.laid_unicode_utf8_first : DataW Unit) = firstData := by kernel_rfl
theorem eAccept : (Rows.laid_unicode_utf8_acceptRanges : DataW Unit) = acceptData := by kernel_rfl
theorem glob {W : World} (h : laidMetH Tryd.prog Rows.gateForksUptoRow.laid W) (hsh : W.ShapedOpen Tryd.prog) : Glob W where
  m := Tryd.laysM219.s1_3 W hsh
  u := utf8Tabs_of_reads Tryd.lays260 extra (eFirst ▸ reads_ h (by simp [Rows.gateForksUptoRow])) (eAccept ▸ reads_ h (by simp [Rows.gateForksUptoRow]))
theorem okSlice {P : Program} {w : World} {r : Reach} {base : Nat} {t e : TypeId} {v : Value} (ht : P.underlying t = some (.slice e)) (h : Value.okWide P w r base t v) : v.cells.toList = [v] := by
  obtain ⟨a, len, cap, rfl⟩ := okWide_slice ht h
  rfl
theorem bulkMem {H : Type} : ∀ (d : DataW H) (l : List (DataW H)), d ∈ l → Rows.uptoBulk d ≤ Rows.uptoBulkAll l
  | d, x :: r, h => by
    simp only [Rows.uptoBulkAll]
    rcases List.mem_cons.1 h with rfl | h
    · omega
    · have := bulkMem d r h
      omega
theorem bulkS {H : Type} (es sp : List (DataW H)) : Rows.uptoBulk (.slice es sp) = Rows.uptoBulkAll es + Rows.uptoBulkAll sp + 1 := by simp only [Rows.uptoBulk]
theorem bulkG {H : Type} (ps : List (DataW H)) : Rows.uptoBulk (.agg ps) = Rows.uptoBulkAll ps + 1 := by simp only [Rows.uptoBulk]
theorem bulkL {H : Type} (bs : List UInt8) : Rows.uptoBulk (.lit (.string bs) : DataW H) = bs.length + 1 := by simp only [Rows.uptoBulk]
def good43 (a : P.S43) : Prop := (Lit.int .u8 a.f0).wf = true ∧ a.f1.f0.size ≤ 1048576 ∧ (Lit.int .u16 a.f1.f1).wf = true ∧ (Lit.int .u32 a.f1.f2).wf = true
theorem el43 {H : Type} {enc : TypeId × Value → H} {w : World} {base : Nat} {sp : Nat → Bool} {held : Bool} (n : Nat) (cs : List Value) (y : DataW H × List MemPlace) (h : DataW.trod enc Tryd.prog w base sp held n 43 cs = some y) (hM : Rows.uptoBulk y.1 ≤ 1048576) : ∃ a, P.k43.K w a cs ∧ good43 a := by
  have hl := (Op.len Tryd.underlying43 h).trans (show Tryd.prog.cellsOf 43 = 4 by kernel_rfl)
  match cs, hl with
  | [x0, x1, x2, x3], _ =>
    obtain ⟨ne_0, ye_0, te_0, me_0⟩ := Op.fieldB bulkMem bulkG Tryd.underlying43 h 0 rfl (m := 1) (by kernel_rfl)
    replace te_0 : DataW.trod enc Tryd.prog w base sp held ne_0 5 [x0] = some ye_0 := te_0
    obtain ⟨f0, rfl, w0⟩ := Op.int1 Tryd.underlying5 te_0
    obtain ⟨ne_1, ye_1, te_1, me_1⟩ := Op.fieldB bulkMem bulkG Tryd.underlying43 h 1 rfl (m := 3) (by kernel_rfl)
    replace te_1 : DataW.trod enc Tryd.prog w base sp held ne_1 31 [x1, x2, x3] = some ye_1 := te_1
    obtain ⟨ne_1_0, ye_1_0, te_1_0, me_1_0⟩ := Op.fieldB bulkMem bulkG Tryd.underlying31 te_1 0 rfl (m := 1) (by kernel_rfl)
    replace te_1_0 : DataW.trod enc Tryd.prog w base sp held ne_1_0 9 [x1] = some ye_1_0 := te_1_0
    obtain ⟨f1, rfl, _, w1⟩ := Op.strB bulkL Tryd.underlying9 te_1_0
    obtain ⟨ne_1_1, ye_1_1, te_1_1, me_1_1⟩ := Op.fieldB bulkMem bulkG Tryd.underlying31 te_1 1 rfl (m := 1) (by kernel_rfl)
    replace te_1_1 : DataW.trod enc Tryd.prog w base sp held ne_1_1 28 [x2] = some ye_1_1 := te_1_1
    obtain ⟨f2, rfl, w2⟩ := Op.int1 Tryd.underlying28 te_1_1
    obtain ⟨ne_1_2, ye_1_2, te_1_2, me_1_2⟩ := Op.fieldB bulkMem bulkG Tryd.underlying31 te_1 2 rfl (m := 1) (by kernel_rfl)
    replace te_1_2 : DataW.trod enc Tryd.prog w base sp held ne_1_2 29 [x3] = some ye_1_2 := te_1_2
    obtain ⟨f3, rfl, w3⟩ := Op.int1 Tryd.underlying29 te_1_2
    exact ⟨⟨f0, ⟨f1, f2, f3⟩⟩, P.k43_mk w _, ⟨w0, (show f1.size ≤ 1048576 by omega), w2, w3⟩⟩

set_option maxRecDepth 100000 in
theorem contract (H : Type) (enc : TypeId × Value → H) (W : World) (base : Nat) (args : Array Value) (ds gs : List (DataW H)) (before : List MemPlace)
    (hval0 : ∀ (j : Nat) t v, Tryd.f7.params[j]? = some t → args[j]? = some v → Value.okWide Tryd.prog W .any base t v)
    (hW : DataW.Whole enc Tryd.prog Tryd.f7.params.toList Rows.gateForksSpec.vars false W args.toList ds gs before) (hk : Rows.uptoSmall H (ds ++ gs) = true)
    (hL : laidMetH Tryd.prog Rows.gateForksUptoRow.laid W) (hsh : W.ShapedOpen Tryd.prog) :
    Calls Tryd.prog 7 args W fun e W' => ∃ v, e = .returned v ∧ Rows.gateForksSpec.post enc Tryd.prog Tryd.f7 false true false false W args v W' := by
  have hval : ∀ (j : Nat) t v, Tryd.f7.params[j]? = some t → args[j]? = some v → Value.okWide Tryd.prog W .any base t v := hval0
  have hW' := hW
  obtain ⟨p, q, hA0, hV, rfl, hfz, hnd⟩ := hW
  have hA : DataW.TrodAll enc Tryd.prog W 0 (fun _ => true) true Tryd.f7.params.toList args.toList ds p := hA0
  rw [Tryd.params7] at hA hval
  obtain ⟨v0, vs0, d0, ds0, p0, q0, hargs, rfl, rfl, h0, r0⟩ := trodAll_cons hA
  obtain ⟨v1, vs1, d1, ds1, p1, q1, rfl, rfl, rfl, h1, r1⟩ := trodAll_cons r0
  obtain ⟨rfl, rfl, rfl⟩ := trodAll_nil r1
  obtain rfl : args = #[v0, v1] := by cases args; simp_all
  obtain ⟨rfl, rfl⟩ := trodVars_none hV
  have hb := of_decide_eq_true hk
  simp only [List.append_nil, Rows.uptoBulkAll] at hb
  have hbd0 : Rows.uptoBulk d0 ≤ 1048576 := by omega
  have hbd1 : Rows.uptoBulk d1 ≤ 1048576 := by omega
  have hh0 := h0
  obtain ⟨fu0, th0⟩ := h0
  have one0 : v0.cells.toList = [v0] := okSlice Tryd.underlying37 (hval 0 37 v0 rfl rfl)
  replace th0 : DataW.trod enc Tryd.prog W 0 (fun _ => true) true fu0 37 [v0] = some (d0, p0) := by rw [← one0]; exact th0
  obtain ⟨A0, l0, c0, rfl, R0, C0, G0⟩ := Op.rowB bulkMem bulkS 1048576 P.k43 good43 Tryd.underlying37 (by kernel_rfl) el43 th0 hbd0
  have hh1 := h1
  obtain ⟨fu1, th1⟩ := h1
  have one1 : v1.cells.toList = [v1] := okSlice Tryd.underlying37 (hval 1 37 v1 rfl rfl)
  replace th1 : DataW.trod enc Tryd.prog W 0 (fun _ => true) true fu1 37 [v1] = some (d1, p1) := by rw [← one1]; exact th1
  obtain ⟨A1, l1, c1, rfl, R1, C1, G1⟩ := Op.rowB bulkMem bulkS 1048576 P.k43 good43 Tryd.underlying37 (by kernel_rfl) el43 th1 hbd1
  refine (Go.Abs.forks_calls R0 C0 R1 C1 (fun x hx => ⟨(Op.r8 (G0 x hx).1).1, (G0 x hx).2.1⟩) (fun x hx => ⟨(Op.r8 (G1 x hx).1).1, (G1 x hx).2.1⟩) (glob hL hsh) hsh).mono fun e W' ⟨he, bel⟩ => ?_
  subst he
  exact ⟨_, rfl, _, _, _, [], _, [], hW', trodAll_mk1 (shut_bool Tryd.underlying4 _), (trodAll_cons_mk (Below.trod laidOut (by kernel_rfl) (of_decide_eq_true (by kernel_rfl)) hh0 bel (fun x hx => by simpa using hW'.lt x (by simp [hx]))) (trodAll_cons_mk (Below.trod laidOut (by kernel_rfl) (of_decide_eq_true (by kernel_rfl)) hh1 bel (fun x hx => by simpa using hW'.lt x (by simp [hx]))) trodAll_mk0)), rfl, bel.frame _, fun h => by cases h⟩

/-- A world for the witness: the library's tables hold what their initialisers lay. -/
noncomputable def laidWorld (os : Os) : World :=
  { World.holding Tryd.prog os ⟨#[], #[], []⟩ with heap := (((World.holding Tryd.prog os ⟨#[], #[], []⟩).heap.modify 2 fun
      | .cells _ t frozen => .cells ((List.range 16).flatMap fun i => [Value.int .u8 (accLo i : Int), Value.int .u8 (accHi i : Int)]).toArray t frozen
      | o => o).modify 1 fun
      | .cells _ t frozen => .cells (Lib.firstTab.map fun z => Value.int .u8 z).toArray t frozen
      | o => o) }
theorem laid_met (os : Os) : laidMet Tryd.prog Rows.gateForksUptoRow.laid ((laidWorld os).forCall (fun _ _ => 0) ⟨#[], #[.slice none 0 0, .slice none 0 0], []⟩).memory :=
  laidMet_of_run' 8 (by kernel_rfl) (by kernel_rfl)
theorem reads (os : Os) {H : Type} (enc : TypeId × Value → H) : ∃ places, DataW.whole enc Tryd.prog ((laidWorld os).forCall (fun _ _ => 0) ⟨#[], #[.slice none 0 0, .slice none 0 0], []⟩).memory Tryd.f7.params.toList Rows.gateForksSpec.vars false (#[.slice none 0 0, .slice none 0 0] : Array Value).toList 8 = some ([.nil, .nil], [], places) :=
  ⟨[], by kernel_rfl⟩

set_option maxRecDepth 100000 in
theorem lifted (os : Os) (started : os.Started) (H : Type) (enc : TypeId × Value → H) (F : Stop.Interp) :
    ReturnsInHanded {} Tryd.checked os 7 .any ((Rows.OpenSpec.upto Rows.gateForksSpec).preRow enc Tryd.prog Tryd.f7 Rows.gateForksUptoRow.domain false Rows.gateForksUptoRow.laid) (((Rows.OpenSpec.upto Rows.gateForksSpec).at F).post enc Tryd.prog Tryd.f7 false true false false) := by
  obtain ⟨places, hx⟩ := reads os enc
  refine returnsInHanded_of_row (C := Tryd.checked) (s := (Rows.OpenSpec.upto Rows.gateForksSpec)) own started (by kernel_rfl) Tryd.func7
    (witness_row_at (enc := enc) (C := Tryd.checked) false (laidWorld os) #[.slice none 0 0, .slice none 0 0] rfl (by kernel_rfl) (by kernel_rfl) (by kernel_rfl)
      (OpenSpec.preRow_of_cond 8 hx (by kernel_rfl) (fun k hk => by cases hk; kernel_rfl) (by kernel_rfl) (laid_met os))) ?_
  intro W base args ds gs before hval hW _ hcond _ hL hsh _
  exact contract H enc W base args ds gs before hval hW (hcond _ rfl) hL hsh

theorem said : Rows.GateForksUptoSaid :=
  OpenClaim.holds_of_cond 7 Tryd.f7 rfl rfl rfl rfl rfl rfl rfl ⟨rfl, rfl, rfl, rfl, rfl⟩ rfl rfl rfl rfl rfl (by kernel_rfl) Tryd.func7 (by kernel_rfl)
    (of_decide_eq_true (by kernel_rfl)) (by unfold Func.isWrapper; first | (rw [if_pos (by decide +kernel)]; kernel_rfl) | (rw [if_neg (by decide +kernel)]; exact ⟨rfl, rfl⟩))
    (fun os started H enc _ F => by rw [OpenClaim.pre_eq_preRow]; exact lifted os started H enc F)

theorem plain (f : FuncId) (fn : Func) (hf : Tryd.pinned.checked.prog.funcNamed "budwood/budwoodlaw18.GateForks" = some f) (hfn : Tryd.pinned.checked.prog.funcs[f]? = some fn) :
    false = Tryd.pinned.checked.prog.looks [] ∧ ∀ (j : Nat) t, fn.params[j]? = some t → Tryd.pinned.checked.prog.wantsStandIn t = false := by
  obtain rfl : f = 7 := Option.some.inj ((show Tryd.prog.funcNamed "budwood/budwoodlaw18.GateForks" = some 7 by kernel_rfl).symm.trans hf) |>.symm
  obtain rfl : fn = Tryd.f7 := (Option.some.inj (Tryd.func7.symm.trans hfn)).symm
  refine ⟨by kernel_rfl, fun j t ht => ?_⟩
  rw [Tryd.params7] at ht
  have ht2 := Array.mem_of_getElem? ht
  simp only [List.mem_toArray, List.mem_cons, List.not_mem_nil, or_false] at ht2
  rcases ht2 with rfl | rfl
  · exact (show Tryd.prog.wantsStandIn 37 = false by kernel_rfl)
  · exact (show Tryd.prog.wantsStandIn 37 = false by kernel_rfl)

theorem card : Rows.GateForksUptoCardSaid :=
  Claim7.holds_tied_plain_at .later [] _ _ _ _ said (fun _ h => by cases h) (by kernel_rfl) (fun _ h => by cases h) gateForksUpto_row_tie rfl ⟨rfl, rfl⟩ (by kernel_rfl) rfl plain (by kernel_rfl)
end Go.Proofs.YtlgmboaoemlnpaaDoor.rowGateForks
namespace Go.Proofs.YtlgmboaoemlnpaaDoor
theorem gateForks_holds : Rows.GateForksUptoCardSaid := rowGateForks.card
#print axioms gateForks_holds
end Go.Proofs.YtlgmboaoemlnpaaDoor
