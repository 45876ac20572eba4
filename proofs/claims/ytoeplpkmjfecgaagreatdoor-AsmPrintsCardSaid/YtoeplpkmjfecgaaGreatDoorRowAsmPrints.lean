/-
  Both print alike, and name codes alike.
  Conditions: none; the library's tables hold what their initialisers lay (the card ties them).
-/
import Derived.Test.YtoeplpkmjfecgaaGreatDoorCards
import Derived.Test.YtoeplpkmjfecgaaGreatDoorTie
import Derived.Test.YtoeplpkmjfecgaaGreatDoorOp
import Derived.Test.YtoeplpkmjfecgaaGreatDoorMg3
import Derived.WalkKit
import Derived.ProofKit
import Derived.OpenShut
import Derived.ShutString
import Derived.ChangeOld
import Derived.Below
import Derived.Carry
import Derived.JoinedOf
import Derived.SizedLaws
import Derived.Deep.DeepHandedRow
import Derived.Lib.LaidTab
import Derived.Lib.LaidU8
namespace Go.Proofs.YtoeplpkmjfecgaaGreatDoor.rowAsmPrints
open Go.ChangeShapes Go.WideShapes Go.ChangeAt Go.RowKit Go.Lib
open Go.ChangeMaps (open_string shut_string)
open Go.Proofs.YtoeplpkmjfecgaaGreatDoorW.PrintWords Go.Proofs.YtoeplpkmjfecgaaGreatDoorW.PrintMore
set_option linter.unusedVariables false

theorem own : ownKnob Tryz.prog.godebug = none := by kernel_rfl
theorem laidOut : laidOutB Tryz.prog = true := by kernel_rfl
theorem reads_ {W : World} (h : laidMetH Tryz.prog Rows.asmPrintsRow.laid W) {n : String} {d : DataW Unit} (hm : (n, d) ∈ Rows.asmPrintsRow.laid) : VarReads Tryz.prog W n d :=
  laidMet.reads (laidH_plain _ _ _ (by kernel_rfl) h) hm
theorem ePow : (Rows.laid_internal_strconv_uint64pow10 : DataW Unit) = tabData .u64 pow10Tab := by kernel_rfl
theorem eNames : (Rows.laid_budwood_asm_names : DataW Unit) = namesD := by kernel_rfl
theorem glob {W : World} (h : laidMetH Tryz.prog Rows.asmPrintsRow.laid W) (hsh : W.ShapedOpen Tryz.prog) : Glob W where
  m := Tryz.laysM219.s1_3 W hsh
  t := ePow ▸ reads_ h (by simp [Rows.asmPrintsRow])
  s := ⟨_, _, (show VarReads _ _ _ Rows.laid_strconv_ErrSyntax from reads_ h (by simp [Rows.asmPrintsRow]))⟩
  r := ⟨_, _, (show VarReads _ _ _ Rows.laid_strconv_ErrRange from reads_ h (by simp [Rows.asmPrintsRow]))⟩
  n := eNames ▸ reads_ h (by simp [Rows.asmPrintsRow])
theorem arr5 {a : Array Value} (h : a.size = 5) : ∃ x0 x1 x2 x3 x4 : Value, a = #[x0, x1, x2, x3, x4] := by
  obtain ⟨l⟩ := a
  match l, h with
  | [x0, x1, x2, x3, x4], _ => exact ⟨x0, x1, x2, x3, x4, rfl⟩

set_option maxRecDepth 100000 in
theorem contract (H : Type) (enc : TypeId × Value → H) (W : World) (base : Nat) (args : Array Value) (ds gs : List (DataW H)) (before : List MemPlace)
    (hval0 : ∀ (j : Nat) t v, Tryz.f3.params[j]? = some t → args[j]? = some v → Value.okWide Tryz.prog W .any base t v)
    (hW : DataW.Whole enc Tryz.prog Tryz.f3.params.toList Rows.asmPrintsSpec.vars false W args.toList ds gs before)
    (hL : laidMetH Tryz.prog Rows.asmPrintsRow.laid W) (hsh : W.ShapedOpen Tryz.prog) :
    Calls Tryz.prog 3 args W fun e W' => ∃ v, e = .returned v ∧ Rows.asmPrintsSpec.post enc Tryz.prog Tryz.f3 false true false false W args v W' := by
  have hval : ∀ (j : Nat) t v, Tryz.f3.params[j]? = some t → args[j]? = some v → Value.okWide Tryz.prog W .any base t v := hval0
  have hW' := hW
  obtain ⟨p, q, hA0, hV, rfl, hfz, hnd⟩ := hW
  have hA : DataW.TrodAll enc Tryz.prog W 0 (fun _ => true) true Tryz.f3.params.toList args.toList ds p := hA0
  rw [Tryz.params3] at hA hval
  obtain ⟨v0, vs0, d0, ds0, p0, q0, hargs, rfl, rfl, h0, r0⟩ := trodAll_cons hA
  obtain ⟨rfl, rfl, rfl⟩ := trodAll_nil r0
  obtain rfl : args = #[v0] := by cases args; simp_all
  obtain ⟨rfl, rfl⟩ := trodVars_none hV
  have hh0 := h0
  obtain ⟨cs0, rfl, sz0⟩ := okWide_struct Tryz.underlying24 (hval 0 24 v0 rfl rfl)
  obtain ⟨e0_0, e0_1, e0_2, e0_3, e0_4, rfl⟩ := arr5 (sz0.trans (show Tryz.prog.cellsOf 24 = 5 by kernel_rfl))
  obtain ⟨fu0, th0⟩ := h0
  replace th0 : DataW.trod enc Tryz.prog W 0 (fun _ => true) true fu0 24 [e0_0, e0_1, e0_2, e0_3, e0_4] = some (d0, p0) := th0
  obtain ⟨n0_0, y0_0, t0_0⟩ := Op.field Tryz.underlying24 th0 0 rfl (m := 1) (by kernel_rfl)
  replace t0_0 : DataW.trod enc Tryz.prog W 0 (fun _ => true) true n0_0 22 [e0_0] = some y0_0 := t0_0
  obtain ⟨a0_0, rfl, w0_0⟩ := Op.int1 Tryz.underlying22 t0_0
  obtain ⟨n0_1, y0_1, t0_1⟩ := Op.field Tryz.underlying24 th0 1 rfl (m := 1) (by kernel_rfl)
  replace t0_1 : DataW.trod enc Tryz.prog W 0 (fun _ => true) true n0_1 5 [e0_1] = some y0_1 := t0_1
  obtain ⟨a0_1, rfl, w0_1⟩ := Op.int1 Tryz.underlying5 t0_1
  obtain ⟨n0_2, y0_2, t0_2⟩ := Op.field Tryz.underlying24 th0 2 rfl (m := 1) (by kernel_rfl)
  replace t0_2 : DataW.trod enc Tryz.prog W 0 (fun _ => true) true n0_2 5 [e0_2] = some y0_2 := t0_2
  obtain ⟨a0_2, rfl, w0_2⟩ := Op.int1 Tryz.underlying5 t0_2
  obtain ⟨n0_3, y0_3, t0_3⟩ := Op.field Tryz.underlying24 th0 3 rfl (m := 1) (by kernel_rfl)
  replace t0_3 : DataW.trod enc Tryz.prog W 0 (fun _ => true) true n0_3 5 [e0_3] = some y0_3 := t0_3
  obtain ⟨a0_3, rfl, w0_3⟩ := Op.int1 Tryz.underlying5 t0_3
  obtain ⟨n0_4, y0_4, t0_4⟩ := Op.field Tryz.underlying24 th0 4 rfl (m := 1) (by kernel_rfl)
  replace t0_4 : DataW.trod enc Tryz.prog W 0 (fun _ => true) true n0_4 21 [e0_4] = some y0_4 := t0_4
  obtain ⟨a0_4, rfl, w0_4⟩ := Op.int1 Tryz.underlying21 t0_4
  refine (Go.Abs.prints05_calls (glob hL hsh) (Op.r8 w0_0) (Op.r8 w0_1) (Op.r8 w0_2) (Op.r8 w0_3) (Op.ri32 w0_4)).mono fun e W' ⟨he, bel⟩ => ?_
  subst he
  exact ⟨_, rfl, _, _, _, [], _, [], hW', trodAll_mk1 (shut_bool Tryz.underlying4 _), (trodAll_cons_mk (Below.trod laidOut (by kernel_rfl) (of_decide_eq_true (by kernel_rfl)) hh0 bel (fun x hx => by simpa using hW'.lt x (by simp [hx]))) trodAll_mk0), rfl, bel.frame _, fun h => by cases h⟩

def bruijn32 : List Int := [0, 1, 28, 2, 29, 14, 24, 3, 30, 22, 20, 15, 25, 17, 4, 8, 31, 27, 13, 23, 21, 19, 16, 7, 26, 12, 18, 6, 11, 5, 10, 9]
def bruijn64 : List Int := [0, 1, 56, 2, 57, 49, 28, 3, 61, 58, 42, 50, 38, 29, 17, 4, 62, 47, 59, 36, 45, 43, 51, 22, 53, 39, 33, 30, 24, 18, 12, 5, 63, 55, 48, 27, 60, 41, 37, 16, 46, 35, 44, 21, 52, 32, 23, 11, 54, 26, 40, 15, 34, 20, 31, 10, 25, 14, 19, 9, 13, 8, 7, 6]
/-- A world for the witness: the library's tables hold what their initialisers lay. -/
noncomputable def laidWorld (os : Os) : World :=
  { World.holding Tryz.prog os ⟨#[], #[], []⟩ with heap := (((((((((((World.holding Tryz.prog os ⟨#[], #[], []⟩).heap.push (.cells #[.string ⟨#[118, 97, 108, 117, 101, 32, 111, 117, 116, 32, 111, 102, 32, 114, 97, 110, 103, 101]⟩] 158 (0, 0))).push (.cells #[.string ⟨#[105, 110, 118, 97, 108, 105, 100, 32, 115, 121, 110, 116, 97, 120]⟩] 158 (0, 0))).modify 7 fun
      | .cells _ t frozen => .cells (bruijn32.map fun z => Value.int .u8 z).toArray t frozen
      | o => o).modify 8 fun
      | .cells _ t frozen => .cells (bruijn64.map fun z => Value.int .u8 z).toArray t frozen
      | o => o).modify 1 fun
      | .cells _ t frozen => .cells (Lib.pow10Tab.map fun z => Value.int .u64 z).toArray t frozen
      | o => o).modify 6 fun
      | .cells _ t frozen => .cells ((List.range 16).flatMap fun i => [Value.int .u8 (accLo i : Int), Value.int .u8 (accHi i : Int)]).toArray t frozen
      | o => o).modify 4 fun
      | .cells _ t frozen => .cells #[.iface 156 (.pointer (some ⟨14, 0, none⟩))] t frozen
      | o => o).modify 3 fun
      | .cells _ t frozen => .cells #[.iface 156 (.pointer (some ⟨15, 0, none⟩))] t frozen
      | o => o).modify 0 fun
      | .cells _ t frozen => .cells (Go.Abs.opN.map Value.string).toArray t frozen
      | o => o).modify 5 fun
      | .cells _ t frozen => .cells (Lib.firstTab.map fun z => Value.int .u8 z).toArray t frozen
      | o => o) }
theorem laid_met (os : Os) : laidMet Tryz.prog Rows.asmPrintsRow.laid ((laidWorld os).forCall (fun _ _ => 0) ⟨#[], #[.agg #[.int .u8 0, .int .u8 0, .int .u8 0, .int .u8 0, .int .i32 0]], []⟩).memory :=
  laidMet_of_run' 8 (by kernel_rfl) (by kernel_rfl)
theorem reads (os : Os) {H : Type} (enc : TypeId × Value → H) : ∃ places, DataW.whole enc Tryz.prog ((laidWorld os).forCall (fun _ _ => 0) ⟨#[], #[.agg #[.int .u8 0, .int .u8 0, .int .u8 0, .int .u8 0, .int .i32 0]], []⟩).memory Tryz.f3.params.toList Rows.asmPrintsSpec.vars false (#[.agg #[.int .u8 0, .int .u8 0, .int .u8 0, .int .u8 0, .int .i32 0]] : Array Value).toList 8 = some ([.agg [.lit (.int .u8 0), .lit (.int .u8 0), .lit (.int .u8 0), .lit (.int .u8 0), .lit (.int .i32 0)]], [], places) :=
  ⟨[], by kernel_rfl⟩

set_option maxRecDepth 100000 in
theorem lifted (os : Os) (started : os.Started) (H : Type) (enc : TypeId × Value → H) (F : Stop.Interp) :
    ReturnsInHanded {} Tryz.checked os 3 .any ((OpenSpec.ofChange Rows.asmPrintsSpec).preRow enc Tryz.prog Tryz.f3 Rows.asmPrintsRow.domain false Rows.asmPrintsRow.laid) (((OpenSpec.ofChange Rows.asmPrintsSpec).at F).post enc Tryz.prog Tryz.f3 false true false false) := by
  obtain ⟨places, hx⟩ := reads os enc
  refine returnsInHanded_of_row (C := Tryz.checked) (s := (OpenSpec.ofChange Rows.asmPrintsSpec)) own started (by kernel_rfl) Tryz.func3
    (witness_row_at (enc := enc) (C := Tryz.checked) false (laidWorld os) #[.agg #[.int .u8 0, .int .u8 0, .int .u8 0, .int .u8 0, .int .i32 0]] rfl (by kernel_rfl) (by kernel_rfl) (by kernel_rfl)
      (OpenSpec.preRow_of_cond 8 hx (by kernel_rfl) (fun k hk => by cases hk) (by kernel_rfl) (laid_met os))) ?_
  intro W base args ds gs before hval hW _ hcond _ hL hsh _
  exact contract H enc W base args ds gs before hval hW hL hsh

theorem said : Rows.AsmPrintsSaid :=
  OpenClaim.holds_of_wide 3 Tryz.f3 rfl rfl rfl rfl rfl rfl rfl ⟨rfl, rfl, rfl, rfl, rfl⟩ rfl rfl rfl rfl rfl (by kernel_rfl) Tryz.func3 (by kernel_rfl)
    (of_decide_eq_true (by kernel_rfl)) (by unfold Func.isWrapper; first | (rw [if_pos (by decide +kernel)]; kernel_rfl) | (rw [if_neg (by decide +kernel)]; exact ⟨rfl, rfl⟩))
    (fun os started H enc _ => by rw [OpenClaim.pre_eq_preRow]; exact lifted os started H enc (fun _ _ _ => 0))

theorem plain (f : FuncId) (fn : Func) (hf : Tryz.pinned.checked.prog.funcNamed "budwood/budwoodlaw05.AsmPrints" = some f) (hfn : Tryz.pinned.checked.prog.funcs[f]? = some fn) :
    true = Tryz.pinned.checked.prog.looks [] ∧ ∀ (j : Nat) t, fn.params[j]? = some t → Tryz.pinned.checked.prog.wantsStandIn t = false := by
  obtain rfl : f = 3 := Option.some.inj ((show Tryz.prog.funcNamed "budwood/budwoodlaw05.AsmPrints" = some 3 by kernel_rfl).symm.trans hf) |>.symm
  obtain rfl : fn = Tryz.f3 := (Option.some.inj (Tryz.func3.symm.trans hfn)).symm
  refine ⟨by kernel_rfl, fun j t ht => ?_⟩
  rw [Tryz.params3] at ht
  have ht2 := Array.mem_of_getElem? ht
  simp only [List.mem_toArray, List.mem_cons, List.not_mem_nil, or_false] at ht2
  rcases ht2 with rfl
  · exact (show Tryz.prog.wantsStandIn 24 = false by kernel_rfl)

theorem card : Rows.AsmPrintsCardSaid :=
  Claim7.holds_tied_plain_at .later [] _ _ _ _ said (fun _ h => by cases h) (by kernel_rfl) (fun _ h => by cases h) asmPrints_row_tie rfl ⟨rfl, rfl⟩ (by kernel_rfl) rfl plain (by kernel_rfl)
end Go.Proofs.YtoeplpkmjfecgaaGreatDoor.rowAsmPrints
namespace Go.Proofs.YtoeplpkmjfecgaaGreatDoor
theorem asmPrints_holds : Rows.AsmPrintsCardSaid := rowAsmPrints.card
#print axioms asmPrints_holds
end Go.Proofs.YtoeplpkmjfecgaaGreatDoor
