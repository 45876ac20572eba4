import Derived.Test.YtgecghkendfabaaDoorAcY
/- Modules that are looked at: relocations, and all in all. -/
namespace Go.Abs
set_option linter.unusedSimpArgs false
set_option linter.unusedVariables false
open Go.Proofs Go.Nm Go.Wd
set_option linter.unusedVariables false
set_option maxRecDepth 8000
variable {H : Heap}
def dataK (k : Nat) : Bool := ((k : Int) == 4) || (((k : Int) == 5) || ((k : Int) == 6))
/-- The word that a relocation names: in code or in data, and where. -/
def Rlc.spot (r : Rlc) : Bool × Nat := (!dataK r.k, r.a)
theorem of_c (r : Rlc) (H : Heap) : AC Tryd.prog 46 [.agg (relE r)] H (fun x H' => x = .agg [.s (.bool r.spot.1), .s (.int .u16 (r.spot.2 : Nat))] ∧ H' = H) := by
  refine AC.body Tryd.func46 rfl rfl (n := 22) (res := [.cell 2 72]) rfl rfl (by simp) ?_
  simp only [ent]
  obtain ⟨k, a, w⟩ := r
  simp only [relE_def, Rlc.spot]
  (repeat' (first | with_reducible refine ARun.seq ?_ | with_reducible refine ARun.block ?_ | with_reducible refine ARun.inBlock ?_ | with_reducible refine ARun.skip ?_ | with_reducible refine And.intro ?_ ?_ | ((with_reducible refine ARun.region ?_ ?_); · rfl) | with_reducible refine Fresh.go fun _ _ _ => ?_ | ((with_reducible apply ARun.exit); · rfl) | with_reducible refine ARun.ret ?_ | ((with_reducible refine ARun.cond_t ?_ ?_); · rfl) | ((with_reducible refine ARun.cond_f ?_ ?_); · rfl) | ((with_reducible apply ARun.cond) <;> first | intro _ | rfl) | simp (maxDischargeDepth := 9) only [go_sem, *, ↓reduceIte, reduceCtorEq, Nat.reduceEqDiff, Nat.reduceAdd, Nat.reduceLeDiff, Nat.reduceLT, Nat.reduceMul, Int.reduceEq, Int.reduceNe, Int.reduceLE, Int.reduceLT, Int.reduceBEq, Int.reduceBNe, Int.reduceToNat] | with_reducible refine grdO_goT (fun _ => ?_) (fun _ => ?_) | with_reducible refine grdO_goF (fun _ => ?_) (fun _ => ?_) | with_reducible refine grdF_goT (fun _ => ?_) (fun _ => ?_) | with_reducible refine grdF_goF (fun _ => ?_) (fun _ => ?_)))
  all_goals
    refine Fin.plain (by simp (maxDischargeDepth := 9) only [go_sem, *, ↓reduceIte, reduceCtorEq, Nat.reduceEqDiff, Nat.reduceAdd, Nat.reduceLeDiff, Nat.reduceLT, Nat.reduceMul, Int.reduceEq, Int.reduceNe, Int.reduceLE, Int.reduceLT, Int.reduceBEq, Int.reduceBNe, Int.reduceToNat]; rfl) (by (repeat (first | exact Sub.refl _ | assumption | refine Sub.upd2 ?_ _ _ | refine Sub.fresh ?_ (by assumption) | refine Sub.upd ?_ (by (first | assumption | exact nu1 (by assumption) | exact nu2 (by assumption) | exact nu3 (by assumption) | exact nu4 (by assumption) | exact nu5 (by assumption) | exact nu6 (by assumption) | exact nu7 (by assumption) | exact none_put (by assumption) (by assumption) | exact none_put (by assumption) (nu1 (by assumption)) | exact none_put (by assumption) (nu2 (by assumption)) | exact none_put (by assumption) (nu3 (by assumption)) | exact none_put (by assumption) (nu4 (by assumption)) | exact none_put (by assumption) (nu5 (by assumption))))))) ⟨?_, rfl⟩
    first | rfl | (simp only [resV, dataK, *, Bool.or_false, Bool.or_true, Bool.false_or, Bool.true_or, Bool.and_false, Bool.and_true, Bool.false_and, Bool.true_and, Bool.not_true, Bool.not_false, Bool.false_eq_true, if_true, if_false]; done) | (simp only [resV, dataK]; simp_all; done) | (simp only [resV, dataK]; simp_all <;> omega)
@[go_sem] theorem egI : Tryd.prog.eqGuardType Tryd.prog.depth 47 = false := by kernel_rfl
def same5 (x y : Ins) : Bool := ((x.o : Int) == (y.o : Int)) && (((x.d : Int) == (y.d : Int)) && (((x.a : Int) == (y.a : Int)) && (((x.b : Int) == (y.b : Int)) && ((x.i == y.i) && true))))
@[go_sem] theorem eqI (a b c d : Int) (i : Int) (a' b' c' d' : Int) (i' : Int) : eqTV Tryd.prog 9 47 (.agg [.s (.int .u8 a), .s (.int .u8 b), .s (.int .u8 c), .s (.int .u8 d), .s (.int .i32 i)]) (.agg [.s (.int .u8 a'), .s (.int .u8 b'), .s (.int .u8 c'), .s (.int .u8 d'), .s (.int .i32 i')]) =
    some ((a == a') && ((b == b') && ((c == c') && ((d == d') && ((i == i') && true))))) := rfl
/-- Is a relocation's word one that an address goes to? -/
def Mod.fit (m : Mod) (r : Rlc) : Bool :=
  if r.spot.1 then (if ((r.k : Int) == 0) || ((r.k : Int) == 7) then same5 (dec (m.co.getD r.a 0)) ⟨17, 0, 0, 0, 0⟩ else (((dec (m.co.getD r.a 0)).o : Int) == 2) && ((dec (m.co.getD r.a 0)).i == 0))
  else ((m.da.getD r.a 0 : Nat) : Int) == 0
theorem fits_c' (m : Mod) (hm : m.ok) (r : Rlc) (hr : r.a < if r.spot.1 then m.co.length else m.da.length) (H : Heap) : AC Tryd.prog 49 [m.tv, .agg (relE r)] H (fun x H' => x = .s (.bool (m.fit r)) ∧ H' = H) := by
  refine AC.body Tryd.func49 rfl rfl (n := 47) (res := [.tmp 4]) rfl rfl (by simp) ?_
  simp only [ent]
  have O := of_c r
  simp only [Mod.tv_def]
  cases hs : r.spot.1 with
  | false =>
    rw [hs] at O hr
    simp only [Bool.false_eq_true, if_false] at hr
    obtain ⟨x, hx⟩ := at_ hr
    have hx1 := vget u1 hx
    rw [u1_def] at hx1
    have hf : m.fit r = ((x : Int) == 0) := by unfold Mod.fit; rw [hs]; simp [List.getD_eq_getElem?_getD, hx]
    rw [hf]
    rw [relE_def] at O ⊢
    have h2 : (0 : Int) ≤ r.a := by omega
    clear hf hx hr hm hs
    (repeat' (first | with_reducible refine ARun.seq ?_ | with_reducible refine ARun.block ?_ | with_reducible refine ARun.inBlock ?_ | with_reducible refine ARun.skip ?_ | with_reducible refine And.intro ?_ ?_ | ((with_reducible refine ARun.region ?_ ?_); · rfl) | with_reducible refine Fresh.go fun _ _ _ => ?_ | ((with_reducible apply ARun.exit); · rfl) | with_reducible refine ARun.ret ?_ | ((with_reducible refine ARun.cond_t ?_ ?_); · rfl) | ((with_reducible refine ARun.cond_f ?_ ?_); · rfl) | ((with_reducible apply ARun.cond) <;> first | intro _ | rfl) | simp (maxDischargeDepth := 9) only [go_sem, *, ↓reduceIte, reduceCtorEq, Nat.reduceEqDiff, Nat.reduceAdd, Nat.reduceLeDiff, Nat.reduceLT, Nat.reduceMul, Int.reduceEq, Int.reduceNe, Int.reduceLE, Int.reduceLT, Int.reduceBEq, Int.reduceBNe, Int.reduceToNat] | with_reducible refine grdO_goT (fun _ => ?_) (fun _ => ?_) | with_reducible refine grdO_goF (fun _ => ?_) (fun _ => ?_) | with_reducible refine grdF_goT (fun _ => ?_) (fun _ => ?_) | with_reducible refine grdF_goF (fun _ => ?_) (fun _ => ?_) | refine Calling.eq (O _) ?_))
    exact Fin.plain (by simp (maxDischargeDepth := 9) only [go_sem, *, ↓reduceIte, reduceCtorEq, Nat.reduceEqDiff, Nat.reduceAdd, Nat.reduceLeDiff, Nat.reduceLT, Nat.reduceMul, Int.reduceEq, Int.reduceNe, Int.reduceLE, Int.reduceLT, Int.reduceBEq, Int.reduceBNe, Int.reduceToNat]; rfl) (by (repeat (first | exact Sub.refl _ | assumption | refine Sub.upd2 ?_ _ _ | refine Sub.fresh ?_ (by assumption) | refine Sub.upd ?_ (by (first | assumption | exact nu1 (by assumption) | exact nu2 (by assumption) | exact nu3 (by assumption) | exact nu4 (by assumption) | exact nu5 (by assumption) | exact nu6 (by assumption) | exact nu7 (by assumption) | exact none_put (by assumption) (by assumption) | exact none_put (by assumption) (nu1 (by assumption)) | exact none_put (by assumption) (nu2 (by assumption)) | exact none_put (by assumption) (nu3 (by assumption)) | exact none_put (by assumption) (nu4 (by assumption)) | exact none_put (by assumption) (nu5 (by assumption))))))) ⟨by first | rfl | (simp [resV, *]; done), rfl⟩
  | true =>
    rw [hs] at O hr
    simp only [if_true] at hr
    obtain ⟨x, hx⟩ := at_ hr
    have hx1 := vget u1 hx
    rw [u1_def] at hx1
    have hf : m.fit r = if ((r.k : Int) == 0) || ((r.k : Int) == 7) then same5 (dec x) ⟨17, 0, 0, 0, 0⟩ else (((dec x).o : Int) == 2) && ((dec x).i == 0) := by unfold Mod.fit; rw [hs]; simp [List.getD_eq_getElem?_getD, hx]
    have D := fun H => decode_c (H := H) (hm.co x (List.mem_of_getElem? hx))
    rw [Ins.enc_def] at D
    rw [relE_def] at O ⊢
    have h2 : (0 : Int) ≤ r.a := by omega
    replace hf := later hf
    clear hx hr hm hs
    cases q1 : ((r.k : Int) == 0) <;> cases q2 : ((r.k : Int) == 7)
    all_goals
      have hf := hf.go
      rw [q1, q2] at hf
      simp only [Bool.or_true, Bool.or_false, Bool.false_eq_true, if_true, if_false] at hf
      rw [hf]
      clear hf
    case false.false =>
      cases q3 : (((dec x).o : Int) == 2)
      all_goals
        (repeat' (first | with_reducible refine ARun.seq ?_ | with_reducible refine ARun.block ?_ | with_reducible refine ARun.inBlock ?_ | with_reducible refine ARun.skip ?_ | with_reducible refine And.intro ?_ ?_ | ((with_reducible refine ARun.region ?_ ?_); · rfl) | with_reducible refine Fresh.go fun _ _ _ => ?_ | ((with_reducible apply ARun.exit); · rfl) | with_reducible refine ARun.ret ?_ | ((with_reducible refine ARun.cond_t ?_ ?_); · rfl) | ((with_reducible refine ARun.cond_f ?_ ?_); · rfl) | ((with_reducible apply ARun.cond) <;> first | intro _ | rfl) | simp (maxDischargeDepth := 9) only [go_sem, *, ↓reduceIte, reduceCtorEq, Nat.reduceEqDiff, Nat.reduceAdd, Nat.reduceLeDiff, Nat.reduceLT, Nat.reduceMul, Int.reduceEq, Int.reduceNe, Int.reduceLE, Int.reduceLT, Int.reduceBEq, Int.reduceBNe, Int.reduceToNat] | with_reducible refine grdO_goT (fun _ => ?_) (fun _ => ?_) | with_reducible refine grdO_goF (fun _ => ?_) (fun _ => ?_) | with_reducible refine grdF_goT (fun _ => ?_) (fun _ => ?_) | with_reducible refine grdF_goF (fun _ => ?_) (fun _ => ?_) | refine Calling.eq (O _) ?_ | refine Calling.eq (D _) ?_))
        exact Fin.plain (by simp (maxDischargeDepth := 9) only [go_sem, *, ↓reduceIte, reduceCtorEq, Nat.reduceEqDiff, Nat.reduceAdd, Nat.reduceLeDiff, Nat.reduceLT, Nat.reduceMul, Int.reduceEq, Int.reduceNe, Int.reduceLE, Int.reduceLT, Int.reduceBEq, Int.reduceBNe, Int.reduceToNat]; rfl) (by (repeat (first | exact Sub.refl _ | assumption | refine Sub.upd2 ?_ _ _ | refine Sub.fresh ?_ (by assumption) | refine Sub.upd ?_ (by (first | assumption | exact nu1 (by assumption) | exact nu2 (by assumption) | exact nu3 (by assumption) | exact nu4 (by assumption) | exact nu5 (by assumption) | exact nu6 (by assumption) | exact nu7 (by assumption) | exact none_put (by assumption) (by assumption) | exact none_put (by assumption) (nu1 (by assumption)) | exact none_put (by assumption) (nu2 (by assumption)) | exact none_put (by assumption) (nu3 (by assumption)) | exact none_put (by assumption) (nu4 (by assumption)) | exact none_put (by assumption) (nu5 (by assumption))))))) ⟨by first | rfl | (simp [resV, *]; done), rfl⟩
    all_goals
      (repeat' (first | with_reducible refine ARun.seq ?_ | with_reducible refine ARun.block ?_ | with_reducible refine ARun.inBlock ?_ | with_reducible refine ARun.skip ?_ | with_reducible refine And.intro ?_ ?_ | ((with_reducible refine ARun.region ?_ ?_); · rfl) | with_reducible refine Fresh.go fun _ _ _ => ?_ | ((with_reducible apply ARun.exit); · rfl) | with_reducible refine ARun.ret ?_ | ((with_reducible refine ARun.cond_t ?_ ?_); · rfl) | ((with_reducible refine ARun.cond_f ?_ ?_); · rfl) | ((with_reducible apply ARun.cond) <;> first | intro _ | rfl) | simp (maxDischargeDepth := 9) only [go_sem, *, ↓reduceIte, reduceCtorEq, Nat.reduceEqDiff, Nat.reduceAdd, Nat.reduceLeDiff, Nat.reduceLT, Nat.reduceMul, Int.reduceEq, Int.reduceNe, Int.reduceLE, Int.reduceLT, Int.reduceBEq, Int.reduceBNe, Int.reduceToNat] | with_reducible refine grdO_goT (fun _ => ?_) (fun _ => ?_) | with_reducible refine grdO_goF (fun _ => ?_) (fun _ => ?_) | with_reducible refine grdF_goT (fun _ => ?_) (fun _ => ?_) | with_reducible refine grdF_goF (fun _ => ?_) (fun _ => ?_) | refine Calling.eq (O _) ?_ | refine Calling.eq (D _) ?_))
      refine Fin.plain (by simp (maxDischargeDepth := 9) only [go_sem, *, ↓reduceIte, reduceCtorEq, Nat.reduceEqDiff, Nat.reduceAdd, Nat.reduceLeDiff, Nat.reduceLT, Nat.reduceMul, Int.reduceEq, Int.reduceNe, Int.reduceLE, Int.reduceLT, Int.reduceBEq, Int.reduceBNe, Int.reduceToNat]; rfl) (by (repeat (first | exact Sub.refl _ | assumption | refine Sub.upd2 ?_ _ _ | refine Sub.fresh ?_ (by assumption) | refine Sub.upd ?_ (by (first | assumption | exact nu1 (by assumption) | exact nu2 (by assumption) | exact nu3 (by assumption) | exact nu4 (by assumption) | exact nu5 (by assumption) | exact nu6 (by assumption) | exact nu7 (by assumption) | exact none_put (by assumption) (by assumption) | exact none_put (by assumption) (nu1 (by assumption)) | exact none_put (by assumption) (nu2 (by assumption)) | exact none_put (by assumption) (nu3 (by assumption)) | exact none_put (by assumption) (nu4 (by assumption)) | exact none_put (by assumption) (nu5 (by assumption))))))) ⟨?_, rfl⟩
      simp [resV, same5]
def Mod.thr (m : Mod) (r : Rlc) : Bool :=
  if ((r.k : Int) == 0) || (((r.k : Int) == 1) || ((r.k : Int) == 4)) then decide ((r.w : Int) < m.im.length) else if ((r.k : Int) == 2) || ((r.k : Int) == 5) then decide ((r.w : Int) < m.da.length) else decide ((r.w : Int) < m.co.length)
theorem u16_i64 {x : Nat} (h : x < 65536) : IntKind.i64.wrap (x : Int) = x := wi64 (by omega) (by omega)
theorem there_c (m : Mod) (r : Rlc) (hw : r.w < 65536) (H : Heap) : AC Tryd.prog 51 [m.tv, .agg (relE r)] H (fun x H' => x = .s (.bool (m.thr r)) ∧ H' = H) := by
  refine AC.body Tryd.func51 rfl rfl (n := 35) (res := [.tmp 4]) rfl rfl (by simp) ?_
  simp only [ent]
  simp only [Mod.tv_def, relE_def]
  have e := u16_i64 hw
  (repeat' (first | with_reducible refine ARun.seq ?_ | with_reducible refine ARun.block ?_ | with_reducible refine ARun.inBlock ?_ | with_reducible refine ARun.skip ?_ | with_reducible refine And.intro ?_ ?_ | ((with_reducible refine ARun.region ?_ ?_); · rfl) | with_reducible refine Fresh.go fun _ _ _ => ?_ | ((with_reducible apply ARun.exit); · rfl) | with_reducible refine ARun.ret ?_ | ((with_reducible refine ARun.cond_t ?_ ?_); · rfl) | ((with_reducible refine ARun.cond_f ?_ ?_); · rfl) | ((with_reducible apply ARun.cond) <;> first | intro _ | rfl) | simp (maxDischargeDepth := 9) only [go_sem, *, ↓reduceIte, reduceCtorEq, Nat.reduceEqDiff, Nat.reduceAdd, Nat.reduceLeDiff, Nat.reduceLT, Nat.reduceMul, Int.reduceEq, Int.reduceNe, Int.reduceLE, Int.reduceLT, Int.reduceBEq, Int.reduceBNe, Int.reduceToNat] | with_reducible refine grdO_goT (fun _ => ?_) (fun _ => ?_) | with_reducible refine grdO_goF (fun _ => ?_) (fun _ => ?_) | with_reducible refine grdF_goT (fun _ => ?_) (fun _ => ?_) | with_reducible refine grdF_goF (fun _ => ?_) (fun _ => ?_)))
  all_goals
    refine Fin.plain (by simp (maxDischargeDepth := 9) only [go_sem, *, ↓reduceIte, reduceCtorEq, Nat.reduceEqDiff, Nat.reduceAdd, Nat.reduceLeDiff, Nat.reduceLT, Nat.reduceMul, Int.reduceEq, Int.reduceNe, Int.reduceLE, Int.reduceLT, Int.reduceBEq, Int.reduceBNe, Int.reduceToNat]; rfl) (by (repeat (first | exact Sub.refl _ | assumption | refine Sub.upd2 ?_ _ _ | refine Sub.fresh ?_ (by assumption) | refine Sub.upd ?_ (by (first | assumption | exact nu1 (by assumption) | exact nu2 (by assumption) | exact nu3 (by assumption) | exact nu4 (by assumption) | exact nu5 (by assumption) | exact nu6 (by assumption) | exact nu7 (by assumption) | exact none_put (by assumption) (by assumption) | exact none_put (by assumption) (nu1 (by assumption)) | exact none_put (by assumption) (nu2 (by assumption)) | exact none_put (by assumption) (nu3 (by assumption)) | exact none_put (by assumption) (nu4 (by assumption)) | exact none_put (by assumption) (nu5 (by assumption))))))) ⟨?_, rfl⟩
    first | rfl | (simp only [resV, Mod.thr, *, Bool.or_false, Bool.or_true, Bool.false_or, Bool.true_or, Bool.and_false, Bool.and_true, Bool.false_and, Bool.true_and, Bool.not_true, Bool.not_false, Bool.false_eq_true, if_true, if_false]; done) | (simp only [resV, Mod.thr]; simp_all; done) | (simp only [resV, Mod.thr]; simp_all <;> omega)
def spotV (p : Bool × Nat) : Value := .agg #[.bool p.1, .int .u16 p.2]
theorem eqSp (a c : Bool) (b d : Int) : eqTV Tryd.prog 9 72 (.agg [.s (.bool a), .s (.int .u16 b)]) (.agg [.s (.bool c), .s (.int .u16 d)]) = some ((a == c) && ((b == d) && true)) := by kernel_rfl
theorem rep_spot (w : World) (F : Nat → Prop) (p : Bool × Nat) : Rep w F (.agg [.s (.bool p.1), .s (.int .u16 p.2)]) (spotV p) := by
  simp only [Rep, RepL, spotV]; exact ⟨_, rfl, _, _, rfl, rfl, _, _, rfl, rfl, rfl⟩
theorem spotK : KeyP Tryd.prog 72 spotV where
  eq := fun w a b => by
    have h := eqTV_run (P := Tryd.prog) (w := w) (F := fun _ => True) (d' := 9991) (eqSp a.1 b.1 a.2 b.2) (rep_spot w _ a) (rep_spot w _ b)
    have e : ((a.1 == b.1) && (((a.2 : Int) == (b.2 : Int)) && true)) = decide (a = b) := by
      obtain ⟨x, y⟩ := a; obtain ⟨z, u⟩ := b
      rw [Bool.eq_iff_iff]; simp; intro _; omega
    rw [e] at h
    exact h
  chk := fun w e a => rfl
  under := ⟨_, rfl, fun a b => .inl rfl⟩
  same := fun a => by simp [Instr.sameBits, spotV]
end Go.Abs
