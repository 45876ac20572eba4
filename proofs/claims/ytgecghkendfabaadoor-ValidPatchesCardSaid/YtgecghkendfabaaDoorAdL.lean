import Derived.Test.YtgecghkendfabaaDoorAdK
import Derived.Test.YtgecghkendfabaaDoorAb18
/- A module, copied; what is told of a module whose rows are one's own. -/
namespace Go.Abs
set_option linter.unusedSimpArgs false
set_option linter.unusedVariables false
open Go.Proofs Go.Nm Go.Wd
set_option linter.unusedVariables false
set_option maxRecDepth 8000
variable {H : Heap}
theorem each_u1 (l : List Nat) : Each 1 (l.map u1) := fun e he => by obtain ⟨x, _, rfl⟩ := List.mem_map.1 he; rfl
theorem each_relE (l : List Rlc) : Each 3 (l.map relE) := fun e he => by obtain ⟨x, _, rfl⟩ := List.mem_map.1 he; rfl
theorem one_u1 (l : List Nat) : (l.map u1).flatten.all oneT = true := by
  induction l with
  | nil => rfl
  | cons x l ih => rw [List.map_cons, List.flatten_cons, List.all_append, ih]; rfl
theorem one_relE (l : List Rlc) : (l.map relE).flatten.all oneT = true := by
  induction l with
  | nil => rfl
  | cons x l ih => rw [List.map_cons, List.flatten_cons, List.all_append, ih]; rfl
/-- A module's rows, in blocks. -/
def Mod.rows (m : Mod) (b1 b2 b3 b4 b5 : Nat) : List Row := [(b1, 1, m.ex.map s1), (b2, 1, m.im.map s1), (b3, 1, m.co.map u1), (b4, 1, m.da.map u1), (b5, 3, m.re.map relE)]
theorem Mod.rows_def (m : Mod) (b1 b2 b3 b4 b5 : Nat) : m.rows b1 b2 b3 b4 b5 = [(b1, 1, m.ex.map s1), (b2, 1, m.im.map s1), (b3, 1, m.co.map u1), (b4, 1, m.da.map u1), (b5, 3, m.re.map relE)] := rfl
def Mod.own (m : Mod) (b1 b2 b3 b4 b5 : Nat) : TV := .agg [.s (.string m.nm), ownT b1 1 (m.ex.map s1), ownT b2 1 (m.im.map s1), ownT b3 1 (m.co.map u1), ownT b4 1 (m.da.map u1), ownT b5 3 (m.re.map relE)]
theorem Mod.own_def (m : Mod) (b1 b2 b3 b4 b5 : Nat) : m.own b1 b2 b3 b4 b5 = .agg [.s (.string m.nm), ownT b1 1 (m.ex.map s1), ownT b2 1 (m.im.map s1), ownT b3 1 (m.co.map u1), ownT b4 1 (m.da.map u1), ownT b5 3 (m.re.map relE)] := rfl
/-- No list is long. -/
structure Mod.little (m : Mod) : Prop where
  ex : m.ex.length ≤ 2000
  im : m.im.length ≤ 2000
  co : m.co.length ≤ 2000
  da : m.da.length ≤ 2000
  re : m.re.length ≤ 2000
theorem Doing.ownK {P : Program} {o : Oper} {vs : List TV} {Z : TV → Heap → Prop} {k : Nat} {L : List (List TV)} {H H0 : Heap} {rows : List Row} (hO : Owns H0 H rows) (v t : Nat) {cv ct : Root} (hv : H v = some cv) (ht : H t = some ct)
    (h : OC P o vs H (fun r H' => ∃ b, H b = none ∧ r = ownT b k L ∧ H' = ownH H b L)) (z : ∀ b K', Owns H0 K' (rows ++ [(b, k, L)]) → b ≠ t → K' v = some cv → K' t = some ct → Z (ownT b k L) K') : Doing P o vs H Z :=
  Doing.by h fun r H' ⟨b, hb, h1, h2⟩ => by
    rw [h1, h2]
    have nv := none_at hb hv
    have nt := none_at hb ht
    exact z b _ (hO.snoc hb) (fun e => nt e.symm) (by rw [ownH_ne (eq_false nv)]; exact hv) (by rw [ownH_ne (eq_false nt)]; exact ht)
set_option maxHeartbeats 4000000 in
theorem copy_c (m : Mod) (hl : m.little) (H : Heap) : AC Tryd.prog 11 [m.tv] H (fun r K => ∃ b1 b2 b3 b4 b5, r = m.own b1 b2 b3 b4 b5 ∧ Owns H K (m.rows b1 b2 b3 b4 b5)) := by
  refine AC.body Tryd.func11 rfl rfl (n := 26) (res := [.cell 2 26]) rfl rfl (by simp) ?_
  simp only [ent]
  simp only [Mod.tv_def]
  obtain ⟨l1, l2, l3, l4, l5⟩ := hl
  replace l1 : (m.ex.map s1).length ≤ 2000 := by simpa using l1
  replace l2 : (m.im.map s1).length ≤ 2000 := by simpa using l2
  replace l3 : (m.co.map u1).length ≤ 2000 := by simpa using l3
  replace l4 : (m.da.map u1).length ≤ 2000 := by simpa using l4
  replace l5 : (m.re.map relE).length ≤ 2000 := by simpa using l5
  have A1 := each_s1 m.ex
  have A2 := each_s1 m.im
  have A3 := each_u1 m.co
  have A4 := each_u1 m.da
  have A5 := each_relE m.re
  have B1 := later (one_s1 m.ex)
  have B2 := later (one_s1 m.im)
  have B3 := later (one_u1 m.co)
  have B4 := later (one_u1 m.da)
  have B5 := later (one_relE m.re)
  replace l1 := later l1
  replace l2 := later l2
  replace l3 := later l3
  replace l4 := later l4
  replace l5 := later l5
  rw [show (fun r K => ∃ b1 b2 b3 b4 b5, r = m.own b1 b2 b3 b4 b5 ∧ Owns H K (m.rows b1 b2 b3 b4 b5)) = fun r K => ∃ b1 b2 b3 b4 b5, r = .agg [.s (.string m.nm), ownT b1 1 (m.ex.map s1), ownT b2 1 (m.im.map s1), ownT b3 1 (m.co.map u1), ownT b4 1 (m.da.map u1), ownT b5 3 (m.re.map relE)] ∧ Owns H K [(b1, 1, m.ex.map s1), (b2, 1, m.im.map s1), (b3, 1, m.co.map u1), (b4, 1, m.da.map u1), (b5, 3, m.re.map relE)] from rfl]
  generalize m.ex.map s1 = L1 at *
  generalize m.im.map s1 = L2 at *
  generalize m.co.map u1 = L3 at *
  generalize m.da.map u1 = L4 at *
  generalize m.re.map relE = L5 at *
  replace A1 := later A1
  replace A2 := later A2
  replace A3 := later A3
  replace A4 := later A4
  replace A5 := later A5
  (repeat' (first | with_reducible refine ARun.seq ?_ | with_reducible refine ARun.block ?_ | with_reducible refine ARun.inBlock ?_ | with_reducible refine ARun.skip ?_ | with_reducible refine And.intro ?_ ?_ | ((with_reducible refine ARun.region ?_ ?_); · rfl) | with_reducible refine Fresh.go fun _ _ _ => ?_ | ((with_reducible apply ARun.exit); · rfl) | with_reducible refine ARun.ret ?_ | ((with_reducible refine ARun.cond_t ?_ ?_); · rfl) | ((with_reducible refine ARun.cond_f ?_ ?_); · rfl) | ((with_reducible apply ARun.cond) <;> first | intro _ | rfl) | simp (maxDischargeDepth := 9) only [go_sem, *, ↓reduceIte, reduceCtorEq, Nat.reduceEqDiff, Nat.reduceAdd, Nat.reduceLeDiff, Nat.reduceLT, Nat.reduceMul, Int.reduceEq, Int.reduceNe, Int.reduceLE, Int.reduceLT, Int.reduceBEq, Int.reduceBNe, Int.reduceToNat] | with_reducible refine grdO_goT (fun _ => ?_) (fun _ => ?_) | with_reducible refine grdO_goF (fun _ => ?_) (fun _ => ?_) | with_reducible refine grdF_goT (fun _ => ?_) (fun _ => ?_) | with_reducible refine grdF_goF (fun _ => ?_) (fun _ => ?_)))
  rename_i v hv hvn t ht htn
  have O0 : Owns H (upd (upd H v (.cells [.s (.string m.nm), .vs 1 L1, .vs 1 L2, .vs 1 L3, .vs 1 L4, .vs 3 L5])) t (.cells [.s (.string ByteArray.empty), .nils, .nils, .nils, .nils, .nils])) [] := Owns.nil (by (repeat (first | exact Sub.refl _ | assumption | refine Sub.upd2 ?_ _ _ | refine Sub.fresh ?_ (by assumption) | refine Sub.upd ?_ (by (first | assumption | exact nu1 (by assumption) | exact nu2 (by assumption) | exact nu3 (by assumption) | exact nu4 (by assumption) | exact nu5 (by assumption) | exact nu6 (by assumption) | exact nu7 (by assumption) | exact none_put (by assumption) (by assumption) | exact none_put (by assumption) (nu1 (by assumption)) | exact none_put (by assumption) (nu2 (by assumption)) | exact none_put (by assumption) (nu3 (by assumption)) | exact none_put (by assumption) (nu4 (by assumption)) | exact none_put (by assumption) (nu5 (by assumption)))))))
  replace O0 := later O0
  refine ARun.drawB mixed [([], [0, 1, 2, 3, 4, 6, 7, 8, 10, 11, 12, 14, 15, 16, 18, 19, 20], some 5), ([0, 1, 3, 6, 7, 8, 10, 11, 12, 14, 15, 16, 18, 19, 20], [], some 9), ([0, 1, 2, 3, 4, 7, 10, 11, 12, 14, 15, 16, 18, 19, 20], [], some 13), ([0, 1, 2, 3, 4, 6, 7, 8, 11, 14, 15, 16, 18, 19, 20], [], some 17), ([0, 1, 2, 3, 4, 6, 7, 8, 10, 11, 12, 15, 18, 19, 20], [], some 21), ([0, 1, 2, 3, 4, 6, 7, 8, 10, 11, 12, 14, 15, 16, 19], [22], some 23), ([], [], none)] (by kernel_rfl) (by rfl) ?_
  simp only [Later] at O0
  have hv0 : (upd (upd H v (.cells [.s (.string m.nm), .vs 1 L1, .vs 1 L2, .vs 1 L3, .vs 1 L4, .vs 3 L5])) t (.cells [.s (.string ByteArray.empty), .nils, .nils, .nils, .nils, .nils])) v = some (.cells [.s (.string m.nm), .vs 1 L1, .vs 1 L2, .vs 1 L3, .vs 1 L4, .vs 3 L5]) := by simp (maxDischargeDepth := 9) only [go_sem, *, ↓reduceIte, reduceCtorEq, Nat.reduceEqDiff, Nat.reduceAdd, Nat.reduceLeDiff, Nat.reduceLT, Nat.reduceMul, Int.reduceEq, Int.reduceNe, Int.reduceLE, Int.reduceLT, Int.reduceBEq, Int.reduceBNe, Int.reduceToNat]
  have ht0 : (upd (upd H v (.cells [.s (.string m.nm), .vs 1 L1, .vs 1 L2, .vs 1 L3, .vs 1 L4, .vs 3 L5])) t (.cells [.s (.string ByteArray.empty), .nils, .nils, .nils, .nils, .nils])) t = some (.cells [.s (.string ByteArray.empty), .nils, .nils, .nils, .nils, .nils]) := by simp (maxDischargeDepth := 9) only [go_sem, *, ↓reduceIte, reduceCtorEq, Nat.reduceEqDiff, Nat.reduceAdd, Nat.reduceLeDiff, Nat.reduceLT, Nat.reduceMul, Int.reduceEq, Int.reduceNe, Int.reduceLE, Int.reduceLT, Int.reduceBEq, Int.reduceBNe, Int.reduceToNat]
  (repeat' (first | with_reducible refine ARun.seq ?_ | with_reducible refine ARun.block ?_ | with_reducible refine ARun.inBlock ?_ | with_reducible refine ARun.skip ?_ | with_reducible refine And.intro ?_ ?_ | ((with_reducible refine ARun.region ?_ ?_); · rfl) | with_reducible refine Fresh.go fun _ _ _ => ?_ | ((with_reducible apply ARun.exit); · rfl) | with_reducible refine ARun.ret ?_ | ((with_reducible refine ARun.cond_t ?_ ?_); · rfl) | ((with_reducible refine ARun.cond_f ?_ ?_); · rfl) | ((with_reducible apply ARun.cond) <;> first | intro _ | rfl) | simp (maxDischargeDepth := 9) only [go_sem, *, ↓reduceIte, reduceCtorEq, Nat.reduceEqDiff, Nat.reduceAdd, Nat.reduceLeDiff, Nat.reduceLT, Nat.reduceMul, Int.reduceEq, Int.reduceNe, Int.reduceLE, Int.reduceLT, Int.reduceBEq, Int.reduceBNe, Int.reduceToNat] | with_reducible refine grdO_goT (fun _ => ?_) (fun _ => ?_) | with_reducible refine grdO_goF (fun _ => ?_) (fun _ => ?_) | with_reducible refine grdF_goT (fun _ => ?_) (fun _ => ?_) | with_reducible refine grdF_goF (fun _ => ?_) (fun _ => ?_)))
  refine Doing.ownK O0 v t hv0 ht0 (oc_append_own0 ap22 us22 A1.go B1.go (by have := l1.go; omega) (by have := l1.go; omega)) fun b1 K1 O1 n1 hv1 ht1 => ?_
  have htH : H t = none := by rw [upd_eq] at ht; split at ht; cases ht; exact ht
  clear hvn htn hv ht
  (repeat' (first | with_reducible refine ARun.seq ?_ | with_reducible refine ARun.block ?_ | with_reducible refine ARun.inBlock ?_ | with_reducible refine ARun.skip ?_ | with_reducible refine And.intro ?_ ?_ | ((with_reducible refine ARun.region ?_ ?_); · rfl) | with_reducible refine Fresh.go fun _ _ _ => ?_ | ((with_reducible apply ARun.exit); · rfl) | with_reducible refine ARun.ret ?_ | ((with_reducible refine ARun.cond_t ?_ ?_); · rfl) | ((with_reducible refine ARun.cond_f ?_ ?_); · rfl) | ((with_reducible apply ARun.cond) <;> first | intro _ | rfl) | simp (maxDischargeDepth := 9) only [go_sem, *, ↓reduceIte, reduceCtorEq, Nat.reduceEqDiff, Nat.reduceAdd, Nat.reduceLeDiff, Nat.reduceLT, Nat.reduceMul, Int.reduceEq, Int.reduceNe, Int.reduceLE, Int.reduceLT, Int.reduceBEq, Int.reduceBNe, Int.reduceToNat] | with_reducible refine grdO_goT (fun _ => ?_) (fun _ => ?_) | with_reducible refine grdO_goF (fun _ => ?_) (fun _ => ?_) | with_reducible refine grdF_goT (fun _ => ?_) (fun _ => ?_) | with_reducible refine grdF_goF (fun _ => ?_) (fun _ => ?_)))
  refine Doing.ownK O1 v t hv1 ht1 (oc_append_own0 ap22 us22 A2.go B2.go (by have := l2.go; omega) (by have := l2.go; omega)) fun b2 K2 O2 n2 hv2 ht2 => ?_
  clear hv1 ht1
  (repeat' (first | with_reducible refine ARun.seq ?_ | with_reducible refine ARun.block ?_ | with_reducible refine ARun.inBlock ?_ | with_reducible refine ARun.skip ?_ | with_reducible refine And.intro ?_ ?_ | ((with_reducible refine ARun.region ?_ ?_); · rfl) | with_reducible refine Fresh.go fun _ _ _ => ?_ | ((with_reducible apply ARun.exit); · rfl) | with_reducible refine ARun.ret ?_ | ((with_reducible refine ARun.cond_t ?_ ?_); · rfl) | ((with_reducible refine ARun.cond_f ?_ ?_); · rfl) | ((with_reducible apply ARun.cond) <;> first | intro _ | rfl) | simp (maxDischargeDepth := 9) only [go_sem, *, ↓reduceIte, reduceCtorEq, Nat.reduceEqDiff, Nat.reduceAdd, Nat.reduceLeDiff, Nat.reduceLT, Nat.reduceMul, Int.reduceEq, Int.reduceNe, Int.reduceLE, Int.reduceLT, Int.reduceBEq, Int.reduceBNe, Int.reduceToNat] | with_reducible refine grdO_goT (fun _ => ?_) (fun _ => ?_) | with_reducible refine grdO_goF (fun _ => ?_) (fun _ => ?_) | with_reducible refine grdF_goT (fun _ => ?_) (fun _ => ?_) | with_reducible refine grdF_goF (fun _ => ?_) (fun _ => ?_)))
  refine Doing.ownK O2 v t hv2 ht2 (oc_append_own0 ap23 us23 A3.go B3.go (by have := l3.go; omega) (by have := l3.go; omega)) fun b3 K3 O3 n3 hv3 ht3 => ?_
  clear hv2 ht2
  (repeat' (first | with_reducible refine ARun.seq ?_ | with_reducible refine ARun.block ?_ | with_reducible refine ARun.inBlock ?_ | with_reducible refine ARun.skip ?_ | with_reducible refine And.intro ?_ ?_ | ((with_reducible refine ARun.region ?_ ?_); · rfl) | with_reducible refine Fresh.go fun _ _ _ => ?_ | ((with_reducible apply ARun.exit); · rfl) | with_reducible refine ARun.ret ?_ | ((with_reducible refine ARun.cond_t ?_ ?_); · rfl) | ((with_reducible refine ARun.cond_f ?_ ?_); · rfl) | ((with_reducible apply ARun.cond) <;> first | intro _ | rfl) | simp (maxDischargeDepth := 9) only [go_sem, *, ↓reduceIte, reduceCtorEq, Nat.reduceEqDiff, Nat.reduceAdd, Nat.reduceLeDiff, Nat.reduceLT, Nat.reduceMul, Int.reduceEq, Int.reduceNe, Int.reduceLE, Int.reduceLT, Int.reduceBEq, Int.reduceBNe, Int.reduceToNat] | with_reducible refine grdO_goT (fun _ => ?_) (fun _ => ?_) | with_reducible refine grdO_goF (fun _ => ?_) (fun _ => ?_) | with_reducible refine grdF_goT (fun _ => ?_) (fun _ => ?_) | with_reducible refine grdF_goF (fun _ => ?_) (fun _ => ?_)))
  refine Doing.ownK O3 v t hv3 ht3 (oc_append_own0 ap23 us23 A4.go B4.go (by have := l4.go; omega) (by have := l4.go; omega)) fun b4 K4 O4 n4 hv4 ht4 => ?_
  clear hv3 ht3
  (repeat' (first | with_reducible refine ARun.seq ?_ | with_reducible refine ARun.block ?_ | with_reducible refine ARun.inBlock ?_ | with_reducible refine ARun.skip ?_ | with_reducible refine And.intro ?_ ?_ | ((with_reducible refine ARun.region ?_ ?_); · rfl) | with_reducible refine Fresh.go fun _ _ _ => ?_ | ((with_reducible apply ARun.exit); · rfl) | with_reducible refine ARun.ret ?_ | ((with_reducible refine ARun.cond_t ?_ ?_); · rfl) | ((with_reducible refine ARun.cond_f ?_ ?_); · rfl) | ((with_reducible apply ARun.cond) <;> first | intro _ | rfl) | simp (maxDischargeDepth := 9) only [go_sem, *, ↓reduceIte, reduceCtorEq, Nat.reduceEqDiff, Nat.reduceAdd, Nat.reduceLeDiff, Nat.reduceLT, Nat.reduceMul, Int.reduceEq, Int.reduceNe, Int.reduceLE, Int.reduceLT, Int.reduceBEq, Int.reduceBNe, Int.reduceToNat] | with_reducible refine grdO_goT (fun _ => ?_) (fun _ => ?_) | with_reducible refine grdO_goF (fun _ => ?_) (fun _ => ?_) | with_reducible refine grdF_goT (fun _ => ?_) (fun _ => ?_) | with_reducible refine grdF_goF (fun _ => ?_) (fun _ => ?_)))
  refine Doing.ownK O4 v t hv4 ht4 (oc_append_own0 ap24 us24 A5.go B5.go (by have := l5.go; omega) (by have := l5.go; omega)) fun b5 K5 O5 n5 hv5 ht5 => ?_
  clear hv4 ht4
  (repeat' (first | with_reducible refine ARun.seq ?_ | with_reducible refine ARun.block ?_ | with_reducible refine ARun.inBlock ?_ | with_reducible refine ARun.skip ?_ | with_reducible refine And.intro ?_ ?_ | ((with_reducible refine ARun.region ?_ ?_); · rfl) | with_reducible refine Fresh.go fun _ _ _ => ?_ | ((with_reducible apply ARun.exit); · rfl) | with_reducible refine ARun.ret ?_ | ((with_reducible refine ARun.cond_t ?_ ?_); · rfl) | ((with_reducible refine ARun.cond_f ?_ ?_); · rfl) | ((with_reducible apply ARun.cond) <;> first | intro _ | rfl) | simp (maxDischargeDepth := 9) only [go_sem, *, ↓reduceIte, reduceCtorEq, Nat.reduceEqDiff, Nat.reduceAdd, Nat.reduceLeDiff, Nat.reduceLT, Nat.reduceMul, Int.reduceEq, Int.reduceNe, Int.reduceLE, Int.reduceLT, Int.reduceBEq, Int.reduceBNe, Int.reduceToNat] | with_reducible refine grdO_goT (fun _ => ?_) (fun _ => ?_) | with_reducible refine grdO_goF (fun _ => ?_) (fun _ => ?_) | with_reducible refine grdF_goT (fun _ => ?_) (fun _ => ?_) | with_reducible refine grdF_goF (fun _ => ?_) (fun _ => ?_)))
  refine Fin.plain (by simp (maxDischargeDepth := 9) only [go_sem, *, ↓reduceIte, reduceCtorEq, Nat.reduceEqDiff, Nat.reduceAdd, Nat.reduceLeDiff, Nat.reduceLT, Nat.reduceMul, Int.reduceEq, Int.reduceNe, Int.reduceLE, Int.reduceLT, Int.reduceBEq, Int.reduceBNe, Int.reduceToNat]; rfl) (Sub.refl _) ⟨b1, b2, b3, b4, b5, rfl, ?_⟩
  refine Owns.over (by simpa using O5) htH ?_
  simp only [List.forall_mem_cons, List.not_mem_nil, false_implies, implies_true, and_true]
  exact ⟨.inr n1, .inr n2, .inr n3, .inr n4, .inr n5⟩
end Go.Abs
