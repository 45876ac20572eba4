/-
  Other slots change just the words that stand for imports.
  Conditions: none; the library's tables hold what their initialisers lay (the card ties them).
-/
import Derived.Test.YtllkloneapjgjaaDoorCards
import Derived.Test.YtllkloneapjgjaaDoorTie
import Derived.Test.YtllkloneapjgjaaDoorOp
import Derived.Test.YtllkloneapjgjaaDoorMg5
import Derived.WalkKit
import Derived.ProofKit
import Derived.OpenShut
import Derived.ShutString
import Derived.ChangeOld
import Derived.Below
import Derived.Carry
import Derived.JoinedOf
import Derived.SizedLaws
import Derived.Deep.DeepHandedRow
import Derived.Lib.LaidTab
import Derived.Lib.LaidU8
namespace Go.Proofs.YtllkloneapjgjaaDoor.rowLinkImports
open Go.ChangeShapes Go.WideShapes Go.ChangeAt Go.RowKit Go.Lib
open Go.ChangeMaps (open_string shut_string)
open Go.Proofs.YtllkloneapjgjaaDoorW.PrintWords Go.Proofs.YtllkloneapjgjaaDoorW.PrintMore
set_option linter.unusedVariables false

theorem own : ownKnob Tryd.prog.godebug = none := by kernel_rfl
theorem laidOut : laidOutB Tryd.prog = true := by kernel_rfl
theorem reads_ {W : World} (h : laidMetH Tryd.prog Rows.linkImportsRow.laid W) {n : String} {d : DataW Unit} (hm : (n, d) ∈ Rows.linkImportsRow.laid) : VarReads Tryd.prog W n d :=
  laidMet.reads (laidH_plain _ _ _ (by kernel_rfl) h) hm
theorem extra : U8Extra Tryd.prog Tryd.lays260_ren := ⟨by kernel_rfl, by kernel_rfl, by kernel_rfl, by kernel_rfl, by kernel_rfl, by kernel_rfl, by kernel_rfl⟩
theorem eFirst : (Rows.laid_unicode_utf8_first : DataW Unit) = firstData := by kernel_rfl
theorem eAccept : (Rows.laid_unicode_utf8_acceptRanges : DataW Unit) = acceptData := by kernel_rfl
theorem glob {W : World} (h : laidMetH Tryd.prog Rows.linkImportsRow.laid W) (hsh : W.ShapedOpen Tryd.prog) : Glob W where
  m := Tryd.laysM219.s1_3 W hsh
  u := utf8Tabs_of_reads Tryd.lays260 extra (eFirst ▸ reads_ h (by simp [Rows.linkImportsRow])) (eAccept ▸ reads_ h (by simp [Rows.linkImportsRow]))
theorem arr6 {a : Array Value} (h : a.size = 6) : ∃ x0 x1 x2 x3 x4 x5 : Value, a = #[x0, x1, x2, x3, x4, x5] := by
  obtain ⟨l⟩ := a
  match l, h with
  | [x0, x1, x2, x3, x4, x5], _ => exact ⟨x0, x1, x2, x3, x4, x5, rfl⟩
theorem okSlice {P : Program} {w : World} {r : Reach} {base : Nat} {t e : TypeId} {v : Value} (ht : P.underlying t = some (.slice e)) (h : Value.okWide P w r base t v) : v.cells.toList = [v] := by
  obtain ⟨a, len, cap, rfl⟩ := okWide_slice ht h
  rfl
def good64 (a : P.S64) : Prop := (Lit.int .u8 a.f0).wf = true ∧ (Lit.int .u16 a.f1).wf = true ∧ (Lit.int .u16 a.f2).wf = true
theorem el64 {H : Type} {enc : TypeId × Value → H} {w : World} {base : Nat} {sp : Nat → Bool} {held : Bool} (n : Nat) (cs : List Value) (y : DataW H × List MemPlace) (h : DataW.trod enc Tryd.prog w base sp held n 64 cs = some y) : ∃ a, P.k64.K w a cs ∧ good64 a := by
  have hl := (Op.len Tryd.underlying64 h).trans (show Tryd.prog.cellsOf 64 = 3 by kernel_rfl)
  match cs, hl with
  | [x0, x1, x2], _ =>
    obtain ⟨ne_0, ye_0, te_0⟩ := Op.field Tryd.underlying64 h 0 rfl (m := 1) (by kernel_rfl)
    replace te_0 : DataW.trod enc Tryd.prog w base sp held ne_0 62 [x0] = some ye_0 := te_0
    obtain ⟨f0, rfl, w0⟩ := Op.int1 Tryd.underlying62 te_0
    obtain ⟨ne_1, ye_1, te_1⟩ := Op.field Tryd.underlying64 h 1 rfl (m := 1) (by kernel_rfl)
    replace te_1 : DataW.trod enc Tryd.prog w base sp held ne_1 50 [x1] = some ye_1 := te_1
    obtain ⟨f1, rfl, w1⟩ := Op.int1 Tryd.underlying50 te_1
    obtain ⟨ne_2, ye_2, te_2⟩ := Op.field Tryd.underlying64 h 2 rfl (m := 1) (by kernel_rfl)
    replace te_2 : DataW.trod enc Tryd.prog w base sp held ne_2 50 [x2] = some ye_2 := te_2
    obtain ⟨f2, rfl, w2⟩ := Op.int1 Tryd.underlying50 te_2
    exact ⟨⟨f0, f1, f2⟩, P.k64_mk w _, ⟨w0, w1, w2⟩⟩

set_option maxRecDepth 100000 in
theorem contract (H : Type) (enc : TypeId × Value → H) (W : World) (base : Nat) (args : Array Value) (ds gs : List (DataW H)) (before : List MemPlace)
    (hval0 : ∀ (j : Nat) t v, Tryd.f6.params[j]? = some t → args[j]? = some v → Value.okWide Tryd.prog W .any base t v)
    (hW : DataW.Whole enc Tryd.prog Tryd.f6.params.toList Rows.linkImportsSpec.vars false W args.toList ds gs before)
    (hL : laidMetH Tryd.prog Rows.linkImportsRow.laid W) (hsh : W.ShapedOpen Tryd.prog) :
    Calls Tryd.prog 6 args W fun e W' => ∃ v, e = .returned v ∧ Rows.linkImportsSpec.post enc Tryd.prog Tryd.f6 false true false false W args v W' := by
  have hval : ∀ (j : Nat) t v, Tryd.f6.params[j]? = some t → args[j]? = some v → Value.okWide Tryd.prog W .any base t v := hval0
  have hW' := hW
  obtain ⟨p, q, hA0, hV, rfl, hfz, hnd⟩ := hW
  have hA : DataW.TrodAll enc Tryd.prog W 0 (fun _ => true) true Tryd.f6.params.toList args.toList ds p := hA0
  rw [Tryd.params6] at hA hval
  obtain ⟨v0, vs0, d0, ds0, p0, q0, hargs, rfl, rfl, h0, r0⟩ := trodAll_cons hA
  obtain ⟨v1, vs1, d1, ds1, p1, q1, rfl, rfl, rfl, h1, r1⟩ := trodAll_cons r0
  obtain ⟨v2, vs2, d2, ds2, p2, q2, rfl, rfl, rfl, h2, r2⟩ := trodAll_cons r1
  obtain ⟨rfl, rfl, rfl⟩ := trodAll_nil r2
  obtain rfl : args = #[v0, v1, v2] := by cases args; simp_all
  obtain ⟨rfl, rfl⟩ := trodVars_none hV
  have hh0 := h0
  obtain ⟨cs0, rfl, sz0⟩ := okWide_struct Tryd.underlying45 (hval 0 45 v0 rfl rfl)
  obtain ⟨e0_0, e0_1, e0_2, e0_3, e0_4, e0_5, rfl⟩ := arr6 (sz0.trans (show Tryd.prog.cellsOf 45 = 6 by kernel_rfl))
  obtain ⟨fu0, th0⟩ := h0
  replace th0 : DataW.trod enc Tryd.prog W 0 (fun _ => true) true fu0 45 [e0_0, e0_1, e0_2, e0_3, e0_4, e0_5] = some (d0, p0) := th0
  obtain ⟨n0_0, y0_0, t0_0⟩ := Op.field Tryd.underlying45 th0 0 rfl (m := 1) (by kernel_rfl)
  replace t0_0 : DataW.trod enc Tryd.prog W 0 (fun _ => true) true n0_0 9 [e0_0] = some y0_0 := t0_0
  obtain ⟨a0_0, rfl, w0_0⟩ := Op.str1 Tryd.underlying9 t0_0
  obtain ⟨n0_1, y0_1, t0_1⟩ := Op.field Tryd.underlying45 th0 1 rfl (m := 1) (by kernel_rfl)
  replace t0_1 : DataW.trod enc Tryd.prog W 0 (fun _ => true) true n0_1 23 [e0_1] = some y0_1 := t0_1
  obtain ⟨A0_1, l0_1, c0_1, rfl, R0_1, C0_1, G0_1⟩ := Op.row Kd.string (fun a => a.size ≤ 9223372036854775807) Tryd.underlying23 (by kernel_rfl) (Op.elStr Tryd.underlying9) t0_1
  obtain ⟨n0_2, y0_2, t0_2⟩ := Op.field Tryd.underlying45 th0 2 rfl (m := 1) (by kernel_rfl)
  replace t0_2 : DataW.trod enc Tryd.prog W 0 (fun _ => true) true n0_2 23 [e0_2] = some y0_2 := t0_2
  obtain ⟨A0_2, l0_2, c0_2, rfl, R0_2, C0_2, G0_2⟩ := Op.row Kd.string (fun a => a.size ≤ 9223372036854775807) Tryd.underlying23 (by kernel_rfl) (Op.elStr Tryd.underlying9) t0_2
  obtain ⟨n0_3, y0_3, t0_3⟩ := Op.field Tryd.underlying45 th0 3 rfl (m := 1) (by kernel_rfl)
  replace t0_3 : DataW.trod enc Tryd.prog W 0 (fun _ => true) true n0_3 36 [e0_3] = some y0_3 := t0_3
  obtain ⟨A0_3, l0_3, c0_3, rfl, R0_3, C0_3, G0_3⟩ := Op.row (Kd.int .u32) (fun a => (Lit.int .u32 a).wf = true) Tryd.underlying36 (by kernel_rfl) (Op.elInt Tryd.underlying49) t0_3
  obtain ⟨n0_4, y0_4, t0_4⟩ := Op.field Tryd.underlying45 th0 4 rfl (m := 1) (by kernel_rfl)
  replace t0_4 : DataW.trod enc Tryd.prog W 0 (fun _ => true) true n0_4 36 [e0_4] = some y0_4 := t0_4
  obtain ⟨A0_4, l0_4, c0_4, rfl, R0_4, C0_4, G0_4⟩ := Op.row (Kd.int .u32) (fun a => (Lit.int .u32 a).wf = true) Tryd.underlying36 (by kernel_rfl) (Op.elInt Tryd.underlying49) t0_4
  obtain ⟨n0_5, y0_5, t0_5⟩ := Op.field Tryd.underlying45 th0 5 rfl (m := 1) (by kernel_rfl)
  replace t0_5 : DataW.trod enc Tryd.prog W 0 (fun _ => true) true n0_5 43 [e0_5] = some y0_5 := t0_5
  obtain ⟨A0_5, l0_5, c0_5, rfl, R0_5, C0_5, G0_5⟩ := Op.row P.k64 good64 Tryd.underlying43 (by kernel_rfl) el64 t0_5
  have hh1 := h1
  obtain ⟨fu1, th1⟩ := h1
  have one1 : v1.cells.toList = [v1] := okSlice Tryd.underlying46 (hval 1 46 v1 rfl rfl)
  replace th1 : DataW.trod enc Tryd.prog W 0 (fun _ => true) true fu1 46 [v1] = some (d1, p1) := by rw [← one1]; exact th1
  obtain ⟨A1, l1, c1, rfl, R1, C1, G1⟩ := Op.row (Kd.int .u16) (fun a => (Lit.int .u16 a).wf = true) Tryd.underlying46 (by kernel_rfl) (Op.elInt Tryd.underlying50) th1
  have hh2 := h2
  obtain ⟨fu2, th2⟩ := h2
  have one2 : v2.cells.toList = [v2] := okSlice Tryd.underlying46 (hval 2 46 v2 rfl rfl)
  replace th2 : DataW.trod enc Tryd.prog W 0 (fun _ => true) true fu2 46 [v2] = some (d2, p2) := by rw [← one2]; exact th2
  obtain ⟨A2, l2, c2, rfl, R2, C2, G2⟩ := Op.row (Kd.int .u16) (fun a => (Lit.int .u16 a).wf = true) Tryd.underlying46 (by kernel_rfl) (Op.elInt Tryd.underlying50) th2
  refine (Go.Abs.limports_calls ⟨R0_1, C0_1, R0_2, C0_2, R0_3, C0_3, R0_4, C0_4, R0_5, C0_5, G0_3, G0_4, G0_5⟩ (glob hL hsh) hsh R1 C1 G1 R2 C2 G2).mono fun e W' ⟨he, bel⟩ => ?_
  subst he
  exact ⟨_, rfl, _, _, _, [], _, [], hW', trodAll_mk1 (shut_bool Tryd.underlying4 _), (trodAll_cons_mk (Below.trod laidOut (by kernel_rfl) (of_decide_eq_true (by kernel_rfl)) hh0 bel (fun x hx => by simpa using hW'.lt x (by simp [hx]))) (trodAll_cons_mk (Below.trod laidOut (by kernel_rfl) (of_decide_eq_true (by kernel_rfl)) hh1 bel (fun x hx => by simpa using hW'.lt x (by simp [hx]))) (trodAll_cons_mk (Below.trod laidOut (by kernel_rfl) (of_decide_eq_true (by kernel_rfl)) hh2 bel (fun x hx => by simpa using hW'.lt x (by simp [hx]))) trodAll_mk0))), rfl, bel.frame _, fun h => by cases h⟩

/-- A world for the witness: the library's tables hold what their initialisers lay. -/
noncomputable def laidWorld (os : Os) : World :=
  { World.holding Tryd.prog os ⟨#[], #[], []⟩ with heap := (((World.holding Tryd.prog os ⟨#[], #[], []⟩).heap.modify 2 fun
      | .cells _ t frozen => .cells ((List.range 16).flatMap fun i => [Value.int .u8 (accLo i : Int), Value.int .u8 (accHi i : Int)]).toArray t frozen
      | o => o).modify 1 fun
      | .cells _ t frozen => .cells (Lib.firstTab.map fun z => Value.int .u8 z).toArray t frozen
      | o => o) }
theorem laid_met (os : Os) : laidMet Tryd.prog Rows.linkImportsRow.laid ((laidWorld os).forCall (fun _ _ => 0) ⟨#[], #[.agg #[.string ByteArray.empty, .slice none 0 0, .slice none 0 0, .slice none 0 0, .slice none 0 0, .slice none 0 0], .slice none 0 0, .slice none 0 0], []⟩).memory :=
  laidMet_of_run' 8 (by kernel_rfl) (by kernel_rfl)
theorem reads (os : Os) {H : Type} (enc : TypeId × Value → H) : ∃ places, DataW.whole enc Tryd.prog ((laidWorld os).forCall (fun _ _ => 0) ⟨#[], #[.agg #[.string ByteArray.empty, .slice none 0 0, .slice none 0 0, .slice none 0 0, .slice none 0 0, .slice none 0 0], .slice none 0 0, .slice none 0 0], []⟩).memory Tryd.f6.params.toList Rows.linkImportsSpec.vars false (#[.agg #[.string ByteArray.empty, .slice none 0 0, .slice none 0 0, .slice none 0 0, .slice none 0 0, .slice none 0 0], .slice none 0 0, .slice none 0 0] : Array Value).toList 8 = some ([.agg [.lit (.string []), .nil, .nil, .nil, .nil, .nil], .nil, .nil], [], places) :=
  ⟨[], by kernel_rfl⟩

set_option maxRecDepth 100000 in
theorem lifted (os : Os) (started : os.Started) (H : Type) (enc : TypeId × Value → H) (F : Stop.Interp) :
    ReturnsInHanded {} Tryd.checked os 6 .any ((OpenSpec.ofChange Rows.linkImportsSpec).preRow enc Tryd.prog Tryd.f6 Rows.linkImportsRow.domain false Rows.linkImportsRow.laid) (((OpenSpec.ofChange Rows.linkImportsSpec).at F).post enc Tryd.prog Tryd.f6 false true false false) := by
  obtain ⟨places, hx⟩ := reads os enc
  refine returnsInHanded_of_row (C := Tryd.checked) (s := (OpenSpec.ofChange Rows.linkImportsSpec)) own started (by kernel_rfl) Tryd.func6
    (witness_row_at (enc := enc) (C := Tryd.checked) false (laidWorld os) #[.agg #[.string ByteArray.empty, .slice none 0 0, .slice none 0 0, .slice none 0 0, .slice none 0 0, .slice none 0 0], .slice none 0 0, .slice none 0 0] rfl (by kernel_rfl) (by kernel_rfl) (by kernel_rfl)
      (OpenSpec.preRow_of_cond 8 hx (by kernel_rfl) (fun k hk => by cases hk) (by kernel_rfl) (laid_met os))) ?_
  intro W base args ds gs before hval hW _ hcond _ hL hsh _
  exact contract H enc W base args ds gs before hval hW hL hsh

theorem said : Rows.LinkImportsSaid :=
  OpenClaim.holds_of_wide 6 Tryd.f6 rfl rfl rfl rfl rfl rfl rfl ⟨rfl, rfl, rfl, rfl, rfl⟩ rfl rfl rfl rfl rfl (by kernel_rfl) Tryd.func6 (by kernel_rfl)
    (of_decide_eq_true (by kernel_rfl)) (by unfold Func.isWrapper; first | (rw [if_pos (by decide +kernel)]; kernel_rfl) | (rw [if_neg (by decide +kernel)]; exact ⟨rfl, rfl⟩))
    (fun os started H enc _ => by rw [OpenClaim.pre_eq_preRow]; exact lifted os started H enc (fun _ _ _ => 0))

theorem plain (f : FuncId) (fn : Func) (hf : Tryd.pinned.checked.prog.funcNamed "budwood/budwoodlaw16.LinkImports" = some f) (hfn : Tryd.pinned.checked.prog.funcs[f]? = some fn) :
    false = Tryd.pinned.checked.prog.looks [] ∧ ∀ (j : Nat) t, fn.params[j]? = some t → Tryd.pinned.checked.prog.wantsStandIn t = false := by
  obtain rfl : f = 6 := Option.some.inj ((show Tryd.prog.funcNamed "budwood/budwoodlaw16.LinkImports" = some 6 by kernel_rfl).symm.trans hf) |>.symm
  obtain rfl : fn = Tryd.f6 := (Option.some.inj (Tryd.func6.symm.trans hfn)).symm
  refine ⟨by kernel_rfl, fun j t ht => ?_⟩
  rw [Tryd.params6] at ht
  have ht2 := Array.mem_of_getElem? ht
  simp only [List.mem_toArray, List.mem_cons, List.not_mem_nil, or_false] at ht2
  rcases ht2 with rfl | rfl | rfl
  · exact (show Tryd.prog.wantsStandIn 45 = false by kernel_rfl)
  · exact (show Tryd.prog.wantsStandIn 46 = false by kernel_rfl)
  · exact (show Tryd.prog.wantsStandIn 46 = false by kernel_rfl)

theorem card : Rows.LinkImportsCardSaid :=
  Claim7.holds_tied_plain_at .later [] _ _ _ _ said (fun _ h => by cases h) (by kernel_rfl) (fun _ h => by cases h) linkImports_row_tie rfl ⟨rfl, rfl⟩ (by kernel_rfl) rfl plain (by kernel_rfl)
end Go.Proofs.YtllkloneapjgjaaDoor.rowLinkImports
namespace Go.Proofs.YtllkloneapjgjaaDoor
theorem linkImports_holds : Rows.LinkImportsCardSaid := rowLinkImports.card
#print axioms linkImports_holds
end Go.Proofs.YtllkloneapjgjaaDoor
