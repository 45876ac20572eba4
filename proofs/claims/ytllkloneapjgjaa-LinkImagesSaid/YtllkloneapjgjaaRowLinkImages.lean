/-
  All words of any module stand, at any place, as the document says, or it is told why not; the module stays as it is.
  Conditions: none.
-/
import Derived.Test.YtllkloneapjgjaaRows
import Derived.Test.YtllkloneapjgjaaOp
import Derived.Test.YtllkloneapjgjaaPx22
import Derived.Test.YtllkloneapjgjaaLk3
import Derived.WalkKit
import Derived.ProofKit
import Derived.OpenShut
import Derived.ShutString
import Derived.ChangeOld
import Derived.Below
import Derived.Carry
import Derived.JoinedOf
import Derived.SizedLaws
import Derived.Deep.DeepHandedRow
namespace Go.Proofs.Ytllkloneapjgjaa.rowLinkImages
open Go.ChangeShapes Go.WideShapes Go.ChangeAt Go.RowKit Go.Lib
open Go.ChangeMaps (open_string shut_string)
open Go.Proofs.YtllkloneapjgjaaW.PrintWords Go.Proofs.YtllkloneapjgjaaW.PrintMore
set_option linter.unusedVariables false

theorem own : ownKnob Try.prog.godebug = none := by kernel_rfl
theorem laidOut : laidOutB Try.prog = true := by kernel_rfl
theorem arr2 {a : Array Value} (h : a.size = 2) : ∃ x0 x1 : Value, a = #[x0, x1] := by
  obtain ⟨l⟩ := a
  match l, h with
  | [x0, x1], _ => exact ⟨x0, x1, rfl⟩
theorem arr6 {a : Array Value} (h : a.size = 6) : ∃ x0 x1 x2 x3 x4 x5 : Value, a = #[x0, x1, x2, x3, x4, x5] := by
  obtain ⟨l⟩ := a
  match l, h with
  | [x0, x1, x2, x3, x4, x5], _ => exact ⟨x0, x1, x2, x3, x4, x5, rfl⟩
theorem okSlice {P : Program} {w : World} {r : Reach} {base : Nat} {t e : TypeId} {v : Value} (ht : P.underlying t = some (.slice e)) (h : Value.okWide P w r base t v) : v.cells.toList = [v] := by
  obtain ⟨a, len, cap, rfl⟩ := okWide_slice ht h
  rfl
def good53 (a : P.S53) : Prop := (Lit.int .u8 a.f0).wf = true ∧ (Lit.int .u16 a.f1).wf = true ∧ (Lit.int .u16 a.f2).wf = true
theorem el53 {H : Type} {enc : TypeId × Value → H} {w : World} {base : Nat} {sp : Nat → Bool} {held : Bool} (n : Nat) (cs : List Value) (y : DataW H × List MemPlace) (h : DataW.trod enc Try.prog w base sp held n 53 cs = some y) : ∃ a, P.k53.K w a cs ∧ good53 a := by
  have hl := (Op.len Try.underlying53 h).trans (show Try.prog.cellsOf 53 = 3 by kernel_rfl)
  match cs, hl with
  | [x0, x1, x2], _ =>
    obtain ⟨n0, y0, t0⟩ := Op.field Try.underlying53 h 0 rfl (m := 1) (by kernel_rfl)
    obtain ⟨f0, rfl, w0⟩ := Op.int1 Try.underlying50 (show DataW.trod enc Try.prog w base sp held n0 50 [x0] = some y0 from t0)
    obtain ⟨n1, y1, t1⟩ := Op.field Try.underlying53 h 1 rfl (m := 1) (by kernel_rfl)
    obtain ⟨f1, rfl, w1⟩ := Op.int1 Try.underlying51 (show DataW.trod enc Try.prog w base sp held n1 51 [x1] = some y1 from t1)
    obtain ⟨n2, y2, t2⟩ := Op.field Try.underlying53 h 2 rfl (m := 1) (by kernel_rfl)
    obtain ⟨f2, rfl, w2⟩ := Op.int1 Try.underlying51 (show DataW.trod enc Try.prog w base sp held n2 51 [x2] = some y2 from t2)
    exact ⟨⟨f0, f1, f2⟩, P.k53_mk w _, ⟨w0, w1, w2⟩⟩

set_option maxRecDepth 100000 in
theorem contract (H : Type) (enc : TypeId × Value → H) (W : World) (base : Nat) (args : Array Value) (ds gs : List (DataW H)) (before : List MemPlace)
    (hval0 : ∀ (j : Nat) t v, Try.f4.params[j]? = some t → args[j]? = some v → Value.okWide Try.prog W .any base t v)
    (hW : DataW.Whole enc Try.prog Try.f4.params.toList Rows.linkImagesSpec.vars false W args.toList ds gs before)
    (hsh : W.ShapedOpen Try.prog) :
    Calls Try.prog 4 args W fun e W' => ∃ v, e = .returned v ∧ Rows.linkImagesSpec.post enc Try.prog Try.f4 false true false false W args v W' := by
  have hval : ∀ (j : Nat) t v, Try.f4.params[j]? = some t → args[j]? = some v → Value.okWide Try.prog W .any base t v := hval0
  have hW' := hW
  obtain ⟨p, q, hA0, hV, rfl, hfz, hnd⟩ := hW
  have hA : DataW.TrodAll enc Try.prog W 0 (fun _ => true) true Try.f4.params.toList args.toList ds p := hA0
  rw [Try.params4] at hA hval
  obtain ⟨v0, vs0, d0, ds0, p0, q0, hargs, rfl, rfl, h0, r0⟩ := trodAll_cons hA
  obtain ⟨v1, vs1, d1, ds1, p1, q1, rfl, rfl, rfl, h1, r1⟩ := trodAll_cons r0
  obtain ⟨v2, vs2, d2, ds2, p2, q2, rfl, rfl, rfl, h2, r2⟩ := trodAll_cons r1
  obtain ⟨rfl, rfl, rfl⟩ := trodAll_nil r2
  obtain rfl : args = #[v0, v1, v2] := by cases args; simp_all
  obtain ⟨rfl, rfl⟩ := trodVars_none hV
  have hh0 := h0
  obtain ⟨cs0, rfl, sz0⟩ := okWide_struct Try.underlying26 (hval 0 26 v0 rfl rfl)
  obtain ⟨e0_0, e0_1, e0_2, e0_3, e0_4, e0_5, rfl⟩ := arr6 (sz0.trans (show Try.prog.cellsOf 26 = 6 by kernel_rfl))
  obtain ⟨fu0, th0⟩ := h0
  replace th0 : DataW.trod enc Try.prog W 0 (fun _ => true) true fu0 26 [e0_0, e0_1, e0_2, e0_3, e0_4, e0_5] = some (d0, p0) := th0
  obtain ⟨n0_0, y0_0, t0_0⟩ := Op.field Try.underlying26 th0 0 rfl (m := 1) (by kernel_rfl)
  replace t0_0 : DataW.trod enc Try.prog W 0 (fun _ => true) true n0_0 9 [e0_0] = some y0_0 := t0_0
  obtain ⟨a0_0, rfl, w0_0⟩ := Op.str1 Try.underlying9 t0_0
  obtain ⟨n0_1, y0_1, t0_1⟩ := Op.field Try.underlying26 th0 1 rfl (m := 1) (by kernel_rfl)
  replace t0_1 : DataW.trod enc Try.prog W 0 (fun _ => true) true n0_1 22 [e0_1] = some y0_1 := t0_1
  obtain ⟨A0_1, l0_1, c0_1, rfl, R0_1, C0_1, G0_1⟩ := Op.row Kd.string (fun a => a.size ≤ 9223372036854775807) Try.underlying22 (by kernel_rfl) (Op.elStr Try.underlying9) t0_1
  obtain ⟨n0_2, y0_2, t0_2⟩ := Op.field Try.underlying26 th0 2 rfl (m := 1) (by kernel_rfl)
  replace t0_2 : DataW.trod enc Try.prog W 0 (fun _ => true) true n0_2 22 [e0_2] = some y0_2 := t0_2
  obtain ⟨A0_2, l0_2, c0_2, rfl, R0_2, C0_2, G0_2⟩ := Op.row Kd.string (fun a => a.size ≤ 9223372036854775807) Try.underlying22 (by kernel_rfl) (Op.elStr Try.underlying9) t0_2
  obtain ⟨n0_3, y0_3, t0_3⟩ := Op.field Try.underlying26 th0 3 rfl (m := 1) (by kernel_rfl)
  replace t0_3 : DataW.trod enc Try.prog W 0 (fun _ => true) true n0_3 23 [e0_3] = some y0_3 := t0_3
  obtain ⟨A0_3, l0_3, c0_3, rfl, R0_3, C0_3, G0_3⟩ := Op.row (Kd.int .u32) (fun a => (Lit.int .u32 a).wf = true) Try.underlying23 (by kernel_rfl) (Op.elInt Try.underlying27) t0_3
  obtain ⟨n0_4, y0_4, t0_4⟩ := Op.field Try.underlying26 th0 4 rfl (m := 1) (by kernel_rfl)
  replace t0_4 : DataW.trod enc Try.prog W 0 (fun _ => true) true n0_4 23 [e0_4] = some y0_4 := t0_4
  obtain ⟨A0_4, l0_4, c0_4, rfl, R0_4, C0_4, G0_4⟩ := Op.row (Kd.int .u32) (fun a => (Lit.int .u32 a).wf = true) Try.underlying23 (by kernel_rfl) (Op.elInt Try.underlying27) t0_4
  obtain ⟨n0_5, y0_5, t0_5⟩ := Op.field Try.underlying26 th0 5 rfl (m := 1) (by kernel_rfl)
  replace t0_5 : DataW.trod enc Try.prog W 0 (fun _ => true) true n0_5 24 [e0_5] = some y0_5 := t0_5
  obtain ⟨A0_5, l0_5, c0_5, rfl, R0_5, C0_5, G0_5⟩ := Op.row P.k53 good53 Try.underlying24 (by kernel_rfl) el53 t0_5
  have hh1 := h1
  obtain ⟨cs1, rfl, sz1⟩ := okWide_struct Try.underlying29 (hval 1 29 v1 rfl rfl)
  obtain ⟨e1_0, e1_1, rfl⟩ := arr2 (sz1.trans (show Try.prog.cellsOf 29 = 2 by kernel_rfl))
  obtain ⟨fu1, th1⟩ := h1
  replace th1 : DataW.trod enc Try.prog W 0 (fun _ => true) true fu1 29 [e1_0, e1_1] = some (d1, p1) := th1
  obtain ⟨n1_0, y1_0, t1_0⟩ := Op.field Try.underlying29 th1 0 rfl (m := 1) (by kernel_rfl)
  replace t1_0 : DataW.trod enc Try.prog W 0 (fun _ => true) true n1_0 27 [e1_0] = some y1_0 := t1_0
  obtain ⟨a1_0, rfl, w1_0⟩ := Op.int1 Try.underlying27 t1_0
  obtain ⟨n1_1, y1_1, t1_1⟩ := Op.field Try.underlying29 th1 1 rfl (m := 1) (by kernel_rfl)
  replace t1_1 : DataW.trod enc Try.prog W 0 (fun _ => true) true n1_1 27 [e1_1] = some y1_1 := t1_1
  obtain ⟨a1_1, rfl, w1_1⟩ := Op.int1 Try.underlying27 t1_1
  have hh2 := h2
  obtain ⟨fu2, th2⟩ := h2
  have one2 : v2.cells.toList = [v2] := okSlice Try.underlying23 (hval 2 23 v2 rfl rfl)
  replace th2 : DataW.trod enc Try.prog W 0 (fun _ => true) true fu2 23 [v2] = some (d2, p2) := by rw [← one2]; exact th2
  obtain ⟨A2, l2, c2, rfl, R2, C2, G2⟩ := Op.row (Kd.int .u32) (fun a => (Lit.int .u32 a).wf = true) Try.underlying23 (by kernel_rfl) (Op.elInt Try.underlying27) th2
  obtain ⟨k, hk2⟩ := Ev.rounds (Wd.images_ev a0_0 l0_1 l0_2 l0_3 l0_4 l0_5 a1_0 a1_1 l2 (fun x hx => Op.r32 (G0_3 x hx)) (fun x hx => Op.r32 (G0_4 x hx)) (fun x hx => ⟨Op.r8 (G0_5 x hx).1, Op.r16 (G0_5 x hx).2.1, Op.r16 (G0_5 x hx).2.2⟩) (fun x hx => Op.r32 (G2 x hx)))
  refine (P.budwoodlaw16_LinkImages.calls k a0_0 A0_1 c0_1 l0_1 A0_2 c0_2 l0_2 A0_3 c0_3 l0_3 A0_4 c0_4 l0_4 A0_5 c0_5 l0_5 a1_0 a1_1 A2 c2 l2 true W R0_1 C0_1 R0_2 C0_2 R0_3 C0_3 R0_4 C0_4 R0_5 C0_5 R2 C2 hk2).mono fun e W' ⟨he, bel⟩ => ?_
  subst he
  exact ⟨_, rfl, _, _, _, [], _, [], hW', trodAll_mk1 (shut_bool Try.underlying4 _), (trodAll_cons_mk (Below.trod laidOut (by kernel_rfl) (of_decide_eq_true (by kernel_rfl)) hh0 bel (fun x hx => by simpa using hW'.lt x (by simp [hx]))) (trodAll_cons_mk (Below.trod laidOut (by kernel_rfl) (of_decide_eq_true (by kernel_rfl)) hh1 bel (fun x hx => by simpa using hW'.lt x (by simp [hx]))) (trodAll_cons_mk (Below.trod laidOut (by kernel_rfl) (of_decide_eq_true (by kernel_rfl)) hh2 bel (fun x hx => by simpa using hW'.lt x (by simp [hx]))) trodAll_mk0))), rfl, bel.frame _, fun h => by cases h⟩

theorem reads (os : Os) {H : Type} (enc : TypeId × Value → H) : ∃ places, DataW.whole enc Try.prog ((World.holding Try.prog os ⟨#[], #[], []⟩).forCall (fun _ _ => 0) ⟨#[], #[.agg #[.string ByteArray.empty, .slice none 0 0, .slice none 0 0, .slice none 0 0, .slice none 0 0, .slice none 0 0], .agg #[.int .u32 0, .int .u32 0], .slice none 0 0], []⟩).memory Try.f4.params.toList Rows.linkImagesSpec.vars false (#[.agg #[.string ByteArray.empty, .slice none 0 0, .slice none 0 0, .slice none 0 0, .slice none 0 0, .slice none 0 0], .agg #[.int .u32 0, .int .u32 0], .slice none 0 0] : Array Value).toList 8 = some ([.agg [.lit (.string []), .nil, .nil, .nil, .nil, .nil], .agg [.lit (.int .u32 0), .lit (.int .u32 0)], .nil], [], places) :=
  ⟨[], by kernel_rfl⟩

set_option maxRecDepth 100000 in
theorem lifted (os : Os) (started : os.Started) (H : Type) (enc : TypeId × Value → H) (F : Stop.Interp) :
    ReturnsInHanded {} Try.checked os 4 .any ((OpenSpec.ofChange Rows.linkImagesSpec).preRow enc Try.prog Try.f4 Rows.linkImagesRow.domain false Rows.linkImagesRow.laid) (((OpenSpec.ofChange Rows.linkImagesSpec).at F).post enc Try.prog Try.f4 false true false false) := by
  obtain ⟨places, hx⟩ := reads os enc
  refine returnsInHanded_of_row (C := Try.checked) (s := (OpenSpec.ofChange Rows.linkImagesSpec)) own started (by kernel_rfl) Try.func4
    (witness_row_at (enc := enc) (C := Try.checked) false (World.holding Try.prog os ⟨#[], #[], []⟩) #[.agg #[.string ByteArray.empty, .slice none 0 0, .slice none 0 0, .slice none 0 0, .slice none 0 0, .slice none 0 0], .agg #[.int .u32 0, .int .u32 0], .slice none 0 0] rfl (by kernel_rfl) (by kernel_rfl) (by kernel_rfl)
      (OpenSpec.preRow_of_cond 8 hx (by kernel_rfl) (fun k hk => by cases hk) (by kernel_rfl) (laidMet_nil _ _))) ?_
  intro W base args ds gs before hval hW _ hcond _ hL hsh _
  exact contract H enc W base args ds gs before hval hW hsh

theorem said : Rows.LinkImagesSaid :=
  OpenClaim.holds_of_wide 4 Try.f4 rfl rfl rfl rfl rfl rfl rfl ⟨rfl, rfl, rfl, rfl, rfl⟩ rfl rfl rfl rfl rfl (by kernel_rfl) Try.func4 (by kernel_rfl)
    (of_decide_eq_true (by kernel_rfl)) (by unfold Func.isWrapper; first | (rw [if_pos (by decide +kernel)]; kernel_rfl) | (rw [if_neg (by decide +kernel)]; exact ⟨rfl, rfl⟩))
    (fun os started H enc _ => by rw [OpenClaim.pre_eq_preRow]; exact lifted os started H enc (fun _ _ _ => 0))
end Go.Proofs.Ytllkloneapjgjaa.rowLinkImages
namespace Go.Proofs.Ytllkloneapjgjaa
theorem linkImages_holds : Rows.LinkImagesSaid := rowLinkImages.said
#print axioms linkImages_holds
end Go.Proofs.Ytllkloneapjgjaa
