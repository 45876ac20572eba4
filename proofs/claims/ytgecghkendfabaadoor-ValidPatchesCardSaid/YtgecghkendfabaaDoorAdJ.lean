import Derived.Test.YtgecghkendfabaaDoorAdI
/- The document's answer about modules: sameness and size; patches. -/
namespace Go.Abs
set_option linter.unusedSimpArgs false
set_option linter.unusedVariables false
open Go.Proofs Go.Nm Go.Wd
set_option linter.unusedVariables false
set_option maxRecDepth 8000
variable {H : Heap}
theorem sameT_c (L M : List ByteArray) (hL : L.length < 4611686018427387904) (H : Heap) :
    AC Tryd.prog 32 [.vs 1 (L.map s1), .vs 1 (M.map s1)] H (fun r H' => r = .s (.bool (decide (L = M))) ∧ H' = H) := by
  refine AC.body Tryd.func32 rfl rfl (n := 26) (res := [.tmp 4]) rfl rfl (by simp) ?_
  simp only [ent]
  by_cases hl : L.length = M.length
  · have hb : (((L.length : Nat) : Int) != ((M.length : Nat) : Int)) = false := by simp; omega
    replace hl := later hl
    (repeat' (first | with_reducible refine ARun.seq ?_ | with_reducible refine ARun.block ?_ | with_reducible refine ARun.inBlock ?_ | with_reducible refine ARun.skip ?_ | with_reducible refine And.intro ?_ ?_ | ((with_reducible refine ARun.region ?_ ?_); · rfl) | with_reducible refine Fresh.go fun _ _ _ => ?_ | ((with_reducible apply ARun.exit); · rfl) | with_reducible refine ARun.ret ?_ | ((with_reducible refine ARun.cond_t ?_ ?_); · rfl) | ((with_reducible refine ARun.cond_f ?_ ?_); · rfl) | ((with_reducible apply ARun.cond) <;> first | intro _ | rfl) | simp (maxDischargeDepth := 9) only [go_sem, *, ↓reduceIte, reduceCtorEq, Nat.reduceEqDiff, Nat.reduceAdd, Nat.reduceLeDiff, Nat.reduceLT, Nat.reduceMul, Int.reduceEq, Int.reduceNe, Int.reduceLE, Int.reduceLT, Int.reduceBEq, Int.reduceBNe, Int.reduceToNat] | with_reducible refine grdO_goT (fun _ => ?_) (fun _ => ?_) | with_reducible refine grdO_goF (fun _ => ?_) (fun _ => ?_) | with_reducible refine grdF_goT (fun _ => ?_) (fun _ => ?_) | with_reducible refine grdF_goF (fun _ => ?_) (fun _ => ?_)))
    clear hb
    refine ARun.rounds (fun i : Nat => ⟨[(0, .vs 1 (L.map s1)), (1, .vs 1 (M.map s1)), (5, .s (.int .i64 i))], H⟩) (fun i => L.length - i) (fun i => i ≤ L.length ∧ ∀ j, j < i → L[j]? = M[j]?) ?_ 0 ⟨by omega, fun j h => by omega⟩ ?_
    · rintro i ⟨hi, hno⟩ next
      replace hno := later hno
      by_cases hlt : i < L.length
      · have h1 : (i : Int) < L.length := by omega
        have h2 : (0 : Int) ≤ i := by omega
        obtain ⟨x, hx⟩ := at_ hlt
        obtain ⟨y, hy⟩ := at_ (l := M) (i := i) (by have := hl.go; omega)
        have hx1 := vget s1 hx
        have hy1 := vget s1 hy
        have hw := w64s (i := i) (by omega)
        simp only [s1_def] at hx1 hy1
        replace hx := later hx
        replace hy := later hy
        by_cases hxy : x = y
        · have hq : (!(x.toList == y.toList)) = false := by subst hxy; simp
          replace hxy := later hxy
          (repeat' (first | with_reducible refine ARun.seq ?_ | with_reducible refine ARun.block ?_ | with_reducible refine ARun.inBlock ?_ | with_reducible refine ARun.skip ?_ | with_reducible refine And.intro ?_ ?_ | ((with_reducible refine ARun.region ?_ ?_); · rfl) | with_reducible refine Fresh.go fun _ _ _ => ?_ | ((with_reducible apply ARun.exit); · rfl) | with_reducible refine ARun.ret ?_ | ((with_reducible refine ARun.cond_t ?_ ?_); · rfl) | ((with_reducible refine ARun.cond_f ?_ ?_); · rfl) | ((with_reducible apply ARun.cond) <;> first | intro _ | rfl) | simp (maxDischargeDepth := 9) only [go_sem, *, ↓reduceIte, reduceCtorEq, Nat.reduceEqDiff, Nat.reduceAdd, Nat.reduceLeDiff, Nat.reduceLT, Nat.reduceMul, Int.reduceEq, Int.reduceNe, Int.reduceLE, Int.reduceLT, Int.reduceBEq, Int.reduceBNe, Int.reduceToNat] | with_reducible refine grdO_goT (fun _ => ?_) (fun _ => ?_) | with_reducible refine grdO_goF (fun _ => ?_) (fun _ => ?_) | with_reducible refine grdF_goT (fun _ => ?_) (fun _ => ?_) | with_reducible refine grdF_goF (fun _ => ?_) (fun _ => ?_)))
          refine ARun.drawB mixed [([], [0, 1, 2, 3, 4, 5, 6, 7, 8], none)] (by kernel_rfl) (by rfl) ?_
          (repeat' (first | with_reducible refine ARun.seq ?_ | with_reducible refine ARun.block ?_ | with_reducible refine ARun.inBlock ?_ | with_reducible refine ARun.skip ?_ | with_reducible refine And.intro ?_ ?_ | ((with_reducible refine ARun.region ?_ ?_); · rfl) | with_reducible refine Fresh.go fun _ _ _ => ?_ | ((with_reducible apply ARun.exit); · rfl) | with_reducible refine ARun.ret ?_ | ((with_reducible refine ARun.cond_t ?_ ?_); · rfl) | ((with_reducible refine ARun.cond_f ?_ ?_); · rfl) | ((with_reducible apply ARun.cond) <;> first | intro _ | rfl) | simp (maxDischargeDepth := 9) only [go_sem, *, ↓reduceIte, reduceCtorEq, Nat.reduceEqDiff, Nat.reduceAdd, Nat.reduceLeDiff, Nat.reduceLT, Nat.reduceMul, Int.reduceEq, Int.reduceNe, Int.reduceLE, Int.reduceLT, Int.reduceBEq, Int.reduceBNe, Int.reduceToNat] | with_reducible refine grdO_goT (fun _ => ?_) (fun _ => ?_) | with_reducible refine grdO_goF (fun _ => ?_) (fun _ => ?_) | with_reducible refine grdF_goT (fun _ => ?_) (fun _ => ?_) | with_reducible refine grdF_goF (fun _ => ?_) (fun _ => ?_)))
          exact ARun.weaken (next.go (i + 1) ⟨by omega, fun j hj => by
            rcases Nat.lt_or_ge j i with h | h
            · exact hno.go j h
            · rw [show j = i by omega, hx.go, hy.go, hxy.go]⟩ (by omega)) (AS.le_of (by simp only [List.forall_mem_cons, List.not_mem_nil, false_implies, implies_true, and_true, look_cons, ↓reduceIte, Nat.reduceEqDiff, *] <;> simp) (Sub.refl _))
        · have hq : (!(x.toList == y.toList)) = true := by simp [toList_inj]; exact fun e => hxy (by first | exact e | omega)
          have hne : decide (L = M) = false := by
            simp only [decide_eq_false_iff_not]; intro e
            have h3 := hx.go; rw [e, hy.go] at h3; cases h3; exact hxy rfl
          rw [hne]
          clear hne next hxy
          (repeat' (first | with_reducible refine ARun.seq ?_ | with_reducible refine ARun.block ?_ | with_reducible refine ARun.inBlock ?_ | with_reducible refine ARun.skip ?_ | with_reducible refine And.intro ?_ ?_ | ((with_reducible refine ARun.region ?_ ?_); · rfl) | with_reducible refine Fresh.go fun _ _ _ => ?_ | ((with_reducible apply ARun.exit); · rfl) | with_reducible refine ARun.ret ?_ | ((with_reducible refine ARun.cond_t ?_ ?_); · rfl) | ((with_reducible refine ARun.cond_f ?_ ?_); · rfl) | ((with_reducible apply ARun.cond) <;> first | intro _ | rfl) | simp (maxDischargeDepth := 9) only [go_sem, *, ↓reduceIte, reduceCtorEq, Nat.reduceEqDiff, Nat.reduceAdd, Nat.reduceLeDiff, Nat.reduceLT, Nat.reduceMul, Int.reduceEq, Int.reduceNe, Int.reduceLE, Int.reduceLT, Int.reduceBEq, Int.reduceBNe, Int.reduceToNat] | with_reducible refine grdO_goT (fun _ => ?_) (fun _ => ?_) | with_reducible refine grdO_goF (fun _ => ?_) (fun _ => ?_) | with_reducible refine grdF_goT (fun _ => ?_) (fun _ => ?_) | with_reducible refine grdF_goF (fun _ => ?_) (fun _ => ?_)))
          refine ARun.drawB mixed [([], [0, 1, 2, 3, 4, 5, 6, 7, 8], none)] (by kernel_rfl) (by rfl) ?_
          (repeat' (first | with_reducible refine ARun.seq ?_ | with_reducible refine ARun.block ?_ | with_reducible refine ARun.inBlock ?_ | with_reducible refine ARun.skip ?_ | with_reducible refine And.intro ?_ ?_ | ((with_reducible refine ARun.region ?_ ?_); · rfl) | with_reducible refine Fresh.go fun _ _ _ => ?_ | ((with_reducible apply ARun.exit); · rfl) | with_reducible refine ARun.ret ?_ | ((with_reducible refine ARun.cond_t ?_ ?_); · rfl) | ((with_reducible refine ARun.cond_f ?_ ?_); · rfl) | ((with_reducible apply ARun.cond) <;> first | intro _ | rfl) | simp (maxDischargeDepth := 9) only [go_sem, *, ↓reduceIte, reduceCtorEq, Nat.reduceEqDiff, Nat.reduceAdd, Nat.reduceLeDiff, Nat.reduceLT, Nat.reduceMul, Int.reduceEq, Int.reduceNe, Int.reduceLE, Int.reduceLT, Int.reduceBEq, Int.reduceBNe, Int.reduceToNat] | with_reducible refine grdO_goT (fun _ => ?_) (fun _ => ?_) | with_reducible refine grdO_goF (fun _ => ?_) (fun _ => ?_) | with_reducible refine grdF_goT (fun _ => ?_) (fun _ => ?_) | with_reducible refine grdF_goF (fun _ => ?_) (fun _ => ?_)))
          exact Fin.plain (by simp (maxDischargeDepth := 9) only [go_sem, *, ↓reduceIte, reduceCtorEq, Nat.reduceEqDiff, Nat.reduceAdd, Nat.reduceLeDiff, Nat.reduceLT, Nat.reduceMul, Int.reduceEq, Int.reduceNe, Int.reduceLE, Int.reduceLT, Int.reduceBEq, Int.reduceBNe, Int.reduceToNat]; rfl) (by (repeat (first | exact Sub.refl _ | assumption | refine Sub.upd2 ?_ _ _ | refine Sub.fresh ?_ (by assumption) | refine Sub.upd ?_ (by (first | assumption | exact nu1 (by assumption) | exact nu2 (by assumption) | exact nu3 (by assumption) | exact nu4 (by assumption) | exact nu5 (by assumption) | exact nu6 (by assumption) | exact nu7 (by assumption) | exact none_put (by assumption) (by assumption) | exact none_put (by assumption) (nu1 (by assumption)) | exact none_put (by assumption) (nu2 (by assumption)) | exact none_put (by assumption) (nu3 (by assumption)) | exact none_put (by assumption) (nu4 (by assumption)) | exact none_put (by assumption) (nu5 (by assumption))))))) ⟨by first | rfl | (simp [resV, *]; done), rfl⟩
      · have h1 : decide ((i : Int) < L.length) = false := by simp; omega
        have he : decide (L = M) = true := by
          simp only [decide_eq_true_eq]
          refine List.ext_getElem? fun j => ?_
          rcases Nat.lt_or_ge j i with h | h
          · exact hno.go j h
          · have := hl.go; rw [List.getElem?_eq_none (by omega), List.getElem?_eq_none (by omega)]
        rw [he]
        clear he next
        (repeat' (first | with_reducible refine ARun.seq ?_ | with_reducible refine ARun.block ?_ | with_reducible refine ARun.inBlock ?_ | with_reducible refine ARun.skip ?_ | with_reducible refine And.intro ?_ ?_ | ((with_reducible refine ARun.region ?_ ?_); · rfl) | with_reducible refine Fresh.go fun _ _ _ => ?_ | ((with_reducible apply ARun.exit); · rfl) | with_reducible refine ARun.ret ?_ | ((with_reducible refine ARun.cond_t ?_ ?_); · rfl) | ((with_reducible refine ARun.cond_f ?_ ?_); · rfl) | ((with_reducible apply ARun.cond) <;> first | intro _ | rfl) | simp (maxDischargeDepth := 9) only [go_sem, *, ↓reduceIte, reduceCtorEq, Nat.reduceEqDiff, Nat.reduceAdd, Nat.reduceLeDiff, Nat.reduceLT, Nat.reduceMul, Int.reduceEq, Int.reduceNe, Int.reduceLE, Int.reduceLT, Int.reduceBEq, Int.reduceBNe, Int.reduceToNat] | with_reducible refine grdO_goT (fun _ => ?_) (fun _ => ?_) | with_reducible refine grdO_goF (fun _ => ?_) (fun _ => ?_) | with_reducible refine grdF_goT (fun _ => ?_) (fun _ => ?_) | with_reducible refine grdF_goF (fun _ => ?_) (fun _ => ?_)))
        exact Fin.plain (by simp (maxDischargeDepth := 9) only [go_sem, *, ↓reduceIte, reduceCtorEq, Nat.reduceEqDiff, Nat.reduceAdd, Nat.reduceLeDiff, Nat.reduceLT, Nat.reduceMul, Int.reduceEq, Int.reduceNe, Int.reduceLE, Int.reduceLT, Int.reduceBEq, Int.reduceBNe, Int.reduceToNat]; rfl) (by (repeat (first | exact Sub.refl _ | assumption | refine Sub.upd2 ?_ _ _ | refine Sub.fresh ?_ (by assumption) | refine Sub.upd ?_ (by (first | assumption | exact nu1 (by assumption) | exact nu2 (by assumption) | exact nu3 (by assumption) | exact nu4 (by assumption) | exact nu5 (by assumption) | exact nu6 (by assumption) | exact nu7 (by assumption) | exact none_put (by assumption) (by assumption) | exact none_put (by assumption) (nu1 (by assumption)) | exact none_put (by assumption) (nu2 (by assumption)) | exact none_put (by assumption) (nu3 (by assumption)) | exact none_put (by assumption) (nu4 (by assumption)) | exact none_put (by assumption) (nu5 (by assumption))))))) ⟨by first | rfl | (simp [resV, *]; done), rfl⟩
    · exact AS.le_of (by simp only [List.forall_mem_cons, List.not_mem_nil, false_implies, implies_true, and_true, look_cons, ↓reduceIte, Nat.reduceEqDiff, *] <;> simp) (Sub.refl _)
  · have hb : (((L.length : Nat) : Int) != ((M.length : Nat) : Int)) = true := by simp; omega
    have hne : decide (L = M) = false := by simp only [decide_eq_false_iff_not]; rintro rfl; exact hl rfl
    rw [hne]
    clear hne
    (repeat' (first | with_reducible refine ARun.seq ?_ | with_reducible refine ARun.block ?_ | with_reducible refine ARun.inBlock ?_ | with_reducible refine ARun.skip ?_ | with_reducible refine And.intro ?_ ?_ | ((with_reducible refine ARun.region ?_ ?_); · rfl) | with_reducible refine Fresh.go fun _ _ _ => ?_ | ((with_reducible apply ARun.exit); · rfl) | with_reducible refine ARun.ret ?_ | ((with_reducible refine ARun.cond_t ?_ ?_); · rfl) | ((with_reducible refine ARun.cond_f ?_ ?_); · rfl) | ((with_reducible apply ARun.cond) <;> first | intro _ | rfl) | simp (maxDischargeDepth := 9) only [go_sem, *, ↓reduceIte, reduceCtorEq, Nat.reduceEqDiff, Nat.reduceAdd, Nat.reduceLeDiff, Nat.reduceLT, Nat.reduceMul, Int.reduceEq, Int.reduceNe, Int.reduceLE, Int.reduceLT, Int.reduceBEq, Int.reduceBNe, Int.reduceToNat] | with_reducible refine grdO_goT (fun _ => ?_) (fun _ => ?_) | with_reducible refine grdO_goF (fun _ => ?_) (fun _ => ?_) | with_reducible refine grdF_goT (fun _ => ?_) (fun _ => ?_) | with_reducible refine grdF_goF (fun _ => ?_) (fun _ => ?_)))
    exact Fin.plain (by simp (maxDischargeDepth := 9) only [go_sem, *, ↓reduceIte, reduceCtorEq, Nat.reduceEqDiff, Nat.reduceAdd, Nat.reduceLeDiff, Nat.reduceLT, Nat.reduceMul, Int.reduceEq, Int.reduceNe, Int.reduceLE, Int.reduceLT, Int.reduceBEq, Int.reduceBNe, Int.reduceToNat]; rfl) (by (repeat (first | exact Sub.refl _ | assumption | refine Sub.upd2 ?_ _ _ | refine Sub.fresh ?_ (by assumption) | refine Sub.upd ?_ (by (first | assumption | exact nu1 (by assumption) | exact nu2 (by assumption) | exact nu3 (by assumption) | exact nu4 (by assumption) | exact nu5 (by assumption) | exact nu6 (by assumption) | exact nu7 (by assumption) | exact none_put (by assumption) (by assumption) | exact none_put (by assumption) (nu1 (by assumption)) | exact none_put (by assumption) (nu2 (by assumption)) | exact none_put (by assumption) (nu3 (by assumption)) | exact none_put (by assumption) (nu4 (by assumption)) | exact none_put (by assumption) (nu5 (by assumption))))))) ⟨by first | rfl | (simp [resV, *]; done), rfl⟩

theorem sameW_c (L M : List Nat) (hL : L.length < 4611686018427387904) (H : Heap) :
    AC Tryd.prog 33 [.vs 1 (L.map u1), .vs 1 (M.map u1)] H (fun r H' => r = .s (.bool (decide (L = M))) ∧ H' = H) := by
  refine AC.body Tryd.func33 rfl rfl (n := 26) (res := [.tmp 4]) rfl rfl (by simp) ?_
  simp only [ent]
  by_cases hl : L.length = M.length
  · have hb : (((L.length : Nat) : Int) != ((M.length : Nat) : Int)) = false := by simp; omega
    replace hl := later hl
    (repeat' (first | with_reducible refine ARun.seq ?_ | with_reducible refine ARun.block ?_ | with_reducible refine ARun.inBlock ?_ | with_reducible refine ARun.skip ?_ | with_reducible refine And.intro ?_ ?_ | ((with_reducible refine ARun.region ?_ ?_); · rfl) | with_reducible refine Fresh.go fun _ _ _ => ?_ | ((with_reducible apply ARun.exit); · rfl) | with_reducible refine ARun.ret ?_ | ((with_reducible refine ARun.cond_t ?_ ?_); · rfl) | ((with_reducible refine ARun.cond_f ?_ ?_); · rfl) | ((with_reducible apply ARun.cond) <;> first | intro _ | rfl) | simp (maxDischargeDepth := 9) only [go_sem, *, ↓reduceIte, reduceCtorEq, Nat.reduceEqDiff, Nat.reduceAdd, Nat.reduceLeDiff, Nat.reduceLT, Nat.reduceMul, Int.reduceEq, Int.reduceNe, Int.reduceLE, Int.reduceLT, Int.reduceBEq, Int.reduceBNe, Int.reduceToNat] | with_reducible refine grdO_goT (fun _ => ?_) (fun _ => ?_) | with_reducible refine grdO_goF (fun _ => ?_) (fun _ => ?_) | with_reducible refine grdF_goT (fun _ => ?_) (fun _ => ?_) | with_reducible refine grdF_goF (fun _ => ?_) (fun _ => ?_)))
    clear hb
    refine ARun.rounds (fun i : Nat => ⟨[(0, .vs 1 (L.map u1)), (1, .vs 1 (M.map u1)), (5, .s (.int .i64 i))], H⟩) (fun i => L.length - i) (fun i => i ≤ L.length ∧ ∀ j, j < i → L[j]? = M[j]?) ?_ 0 ⟨by omega, fun j h => by omega⟩ ?_
    · rintro i ⟨hi, hno⟩ next
      replace hno := later hno
      by_cases hlt : i < L.length
      · have h1 : (i : Int) < L.length := by omega
        have h2 : (0 : Int) ≤ i := by omega
        obtain ⟨x, hx⟩ := at_ hlt
        obtain ⟨y, hy⟩ := at_ (l := M) (i := i) (by have := hl.go; omega)
        have hx1 := vget u1 hx
        have hy1 := vget u1 hy
        have hw := w64s (i := i) (by omega)
        simp only [u1_def] at hx1 hy1
        replace hx := later hx
        replace hy := later hy
        by_cases hxy : x = y
        · have hq : (((x : Int) != (y : Int))) = false := by subst hxy; simp
          replace hxy := later hxy
          (repeat' (first | with_reducible refine ARun.seq ?_ | with_reducible refine ARun.block ?_ | with_reducible refine ARun.inBlock ?_ | with_reducible refine ARun.skip ?_ | with_reducible refine And.intro ?_ ?_ | ((with_reducible refine ARun.region ?_ ?_); · rfl) | with_reducible refine Fresh.go fun _ _ _ => ?_ | ((with_reducible apply ARun.exit); · rfl) | with_reducible refine ARun.ret ?_ | ((with_reducible refine ARun.cond_t ?_ ?_); · rfl) | ((with_reducible refine ARun.cond_f ?_ ?_); · rfl) | ((with_reducible apply ARun.cond) <;> first | intro _ | rfl) | simp (maxDischargeDepth := 9) only [go_sem, *, ↓reduceIte, reduceCtorEq, Nat.reduceEqDiff, Nat.reduceAdd, Nat.reduceLeDiff, Nat.reduceLT, Nat.reduceMul, Int.reduceEq, Int.reduceNe, Int.reduceLE, Int.reduceLT, Int.reduceBEq, Int.reduceBNe, Int.reduceToNat] | with_reducible refine grdO_goT (fun _ => ?_) (fun _ => ?_) | with_reducible refine grdO_goF (fun _ => ?_) (fun _ => ?_) | with_reducible refine grdF_goT (fun _ => ?_) (fun _ => ?_) | with_reducible refine grdF_goF (fun _ => ?_) (fun _ => ?_)))
          refine ARun.drawB mixed [([], [0, 1, 2, 3, 4, 5, 6, 7, 8], none)] (by kernel_rfl) (by rfl) ?_
          (repeat' (first | with_reducible refine ARun.seq ?_ | with_reducible refine ARun.block ?_ | with_reducible refine ARun.inBlock ?_ | with_reducible refine ARun.skip ?_ | with_reducible refine And.intro ?_ ?_ | ((with_reducible refine ARun.region ?_ ?_); · rfl) | with_reducible refine Fresh.go fun _ _ _ => ?_ | ((with_reducible apply ARun.exit); · rfl) | with_reducible refine ARun.ret ?_ | ((with_reducible refine ARun.cond_t ?_ ?_); · rfl) | ((with_reducible refine ARun.cond_f ?_ ?_); · rfl) | ((with_reducible apply ARun.cond) <;> first | intro _ | rfl) | simp (maxDischargeDepth := 9) only [go_sem, *, ↓reduceIte, reduceCtorEq, Nat.reduceEqDiff, Nat.reduceAdd, Nat.reduceLeDiff, Nat.reduceLT, Nat.reduceMul, Int.reduceEq, Int.reduceNe, Int.reduceLE, Int.reduceLT, Int.reduceBEq, Int.reduceBNe, Int.reduceToNat] | with_reducible refine grdO_goT (fun _ => ?_) (fun _ => ?_) | with_reducible refine grdO_goF (fun _ => ?_) (fun _ => ?_) | with_reducible refine grdF_goT (fun _ => ?_) (fun _ => ?_) | with_reducible refine grdF_goF (fun _ => ?_) (fun _ => ?_)))
          exact ARun.weaken (next.go (i + 1) ⟨by omega, fun j hj => by
            rcases Nat.lt_or_ge j i with h | h
            · exact hno.go j h
            · rw [show j = i by omega, hx.go, hy.go, hxy.go]⟩ (by omega)) (AS.le_of (by simp only [List.forall_mem_cons, List.not_mem_nil, false_implies, implies_true, and_true, look_cons, ↓reduceIte, Nat.reduceEqDiff, *] <;> simp) (Sub.refl _))
        · have hq : (((x : Int) != (y : Int))) = true := by simp [toList_inj]; exact fun e => hxy (by first | exact e | omega)
          have hne : decide (L = M) = false := by
            simp only [decide_eq_false_iff_not]; intro e
            have h3 := hx.go; rw [e, hy.go] at h3; cases h3; exact hxy rfl
          rw [hne]
          clear hne next hxy
          (repeat' (first | with_reducible refine ARun.seq ?_ | with_reducible refine ARun.block ?_ | with_reducible refine ARun.inBlock ?_ | with_reducible refine ARun.skip ?_ | with_reducible refine And.intro ?_ ?_ | ((with_reducible refine ARun.region ?_ ?_); · rfl) | with_reducible refine Fresh.go fun _ _ _ => ?_ | ((with_reducible apply ARun.exit); · rfl) | with_reducible refine ARun.ret ?_ | ((with_reducible refine ARun.cond_t ?_ ?_); · rfl) | ((with_reducible refine ARun.cond_f ?_ ?_); · rfl) | ((with_reducible apply ARun.cond) <;> first | intro _ | rfl) | simp (maxDischargeDepth := 9) only [go_sem, *, ↓reduceIte, reduceCtorEq, Nat.reduceEqDiff, Nat.reduceAdd, Nat.reduceLeDiff, Nat.reduceLT, Nat.reduceMul, Int.reduceEq, Int.reduceNe, Int.reduceLE, Int.reduceLT, Int.reduceBEq, Int.reduceBNe, Int.reduceToNat] | with_reducible refine grdO_goT (fun _ => ?_) (fun _ => ?_) | with_reducible refine grdO_goF (fun _ => ?_) (fun _ => ?_) | with_reducible refine grdF_goT (fun _ => ?_) (fun _ => ?_) | with_reducible refine grdF_goF (fun _ => ?_) (fun _ => ?_)))
          refine ARun.drawB mixed [([], [0, 1, 2, 3, 4, 5, 6, 7, 8], none)] (by kernel_rfl) (by rfl) ?_
          (repeat' (first | with_reducible refine ARun.seq ?_ | with_reducible refine ARun.block ?_ | with_reducible refine ARun.inBlock ?_ | with_reducible refine ARun.skip ?_ | with_reducible refine And.intro ?_ ?_ | ((with_reducible refine ARun.region ?_ ?_); · rfl) | with_reducible refine Fresh.go fun _ _ _ => ?_ | ((with_reducible apply ARun.exit); · rfl) | with_reducible refine ARun.ret ?_ | ((with_reducible refine ARun.cond_t ?_ ?_); · rfl) | ((with_reducible refine ARun.cond_f ?_ ?_); · rfl) | ((with_reducible apply ARun.cond) <;> first | intro _ | rfl) | simp (maxDischargeDepth := 9) only [go_sem, *, ↓reduceIte, reduceCtorEq, Nat.reduceEqDiff, Nat.reduceAdd, Nat.reduceLeDiff, Nat.reduceLT, Nat.reduceMul, Int.reduceEq, Int.reduceNe, Int.reduceLE, Int.reduceLT, Int.reduceBEq, Int.reduceBNe, Int.reduceToNat] | with_reducible refine grdO_goT (fun _ => ?_) (fun _ => ?_) | with_reducible refine grdO_goF (fun _ => ?_) (fun _ => ?_) | with_reducible refine grdF_goT (fun _ => ?_) (fun _ => ?_) | with_reducible refine grdF_goF (fun _ => ?_) (fun _ => ?_)))
          exact Fin.plain (by simp (maxDischargeDepth := 9) only [go_sem, *, ↓reduceIte, reduceCtorEq, Nat.reduceEqDiff, Nat.reduceAdd, Nat.reduceLeDiff, Nat.reduceLT, Nat.reduceMul, Int.reduceEq, Int.reduceNe, Int.reduceLE, Int.reduceLT, Int.reduceBEq, Int.reduceBNe, Int.reduceToNat]; rfl) (by (repeat (first | exact Sub.refl _ | assumption | refine Sub.upd2 ?_ _ _ | refine Sub.fresh ?_ (by assumption) | refine Sub.upd ?_ (by (first | assumption | exact nu1 (by assumption) | exact nu2 (by assumption) | exact nu3 (by assumption) | exact nu4 (by assumption) | exact nu5 (by assumption) | exact nu6 (by assumption) | exact nu7 (by assumption) | exact none_put (by assumption) (by assumption) | exact none_put (by assumption) (nu1 (by assumption)) | exact none_put (by assumption) (nu2 (by assumption)) | exact none_put (by assumption) (nu3 (by assumption)) | exact none_put (by assumption) (nu4 (by assumption)) | exact none_put (by assumption) (nu5 (by assumption))))))) ⟨by first | rfl | (simp [resV, *]; done), rfl⟩
      · have h1 : decide ((i : Int) < L.length) = false := by simp; omega
        have he : decide (L = M) = true := by
          simp only [decide_eq_true_eq]
          refine List.ext_getElem? fun j => ?_
          rcases Nat.lt_or_ge j i with h | h
          · exact hno.go j h
          · have := hl.go; rw [List.getElem?_eq_none (by omega), List.getElem?_eq_none (by omega)]
        rw [he]
        clear he next
        (repeat' (first | with_reducible refine ARun.seq ?_ | with_reducible refine ARun.block ?_ | with_reducible refine ARun.inBlock ?_ | with_reducible refine ARun.skip ?_ | with_reducible refine And.intro ?_ ?_ | ((with_reducible refine ARun.region ?_ ?_); · rfl) | with_reducible refine Fresh.go fun _ _ _ => ?_ | ((with_reducible apply ARun.exit); · rfl) | with_reducible refine ARun.ret ?_ | ((with_reducible refine ARun.cond_t ?_ ?_); · rfl) | ((with_reducible refine ARun.cond_f ?_ ?_); · rfl) | ((with_reducible apply ARun.cond) <;> first | intro _ | rfl) | simp (maxDischargeDepth := 9) only [go_sem, *, ↓reduceIte, reduceCtorEq, Nat.reduceEqDiff, Nat.reduceAdd, Nat.reduceLeDiff, Nat.reduceLT, Nat.reduceMul, Int.reduceEq, Int.reduceNe, Int.reduceLE, Int.reduceLT, Int.reduceBEq, Int.reduceBNe, Int.reduceToNat] | with_reducible refine grdO_goT (fun _ => ?_) (fun _ => ?_) | with_reducible refine grdO_goF (fun _ => ?_) (fun _ => ?_) | with_reducible refine grdF_goT (fun _ => ?_) (fun _ => ?_) | with_reducible refine grdF_goF (fun _ => ?_) (fun _ => ?_)))
        exact Fin.plain (by simp (maxDischargeDepth := 9) only [go_sem, *, ↓reduceIte, reduceCtorEq, Nat.reduceEqDiff, Nat.reduceAdd, Nat.reduceLeDiff, Nat.reduceLT, Nat.reduceMul, Int.reduceEq, Int.reduceNe, Int.reduceLE, Int.reduceLT, Int.reduceBEq, Int.reduceBNe, Int.reduceToNat]; rfl) (by (repeat (first | exact Sub.refl _ | assumption | refine Sub.upd2 ?_ _ _ | refine Sub.fresh ?_ (by assumption) | refine Sub.upd ?_ (by (first | assumption | exact nu1 (by assumption) | exact nu2 (by assumption) | exact nu3 (by assumption) | exact nu4 (by assumption) | exact nu5 (by assumption) | exact nu6 (by assumption) | exact nu7 (by assumption) | exact none_put (by assumption) (by assumption) | exact none_put (by assumption) (nu1 (by assumption)) | exact none_put (by assumption) (nu2 (by assumption)) | exact none_put (by assumption) (nu3 (by assumption)) | exact none_put (by assumption) (nu4 (by assumption)) | exact none_put (by assumption) (nu5 (by assumption))))))) ⟨by first | rfl | (simp [resV, *]; done), rfl⟩
    · exact AS.le_of (by simp only [List.forall_mem_cons, List.not_mem_nil, false_implies, implies_true, and_true, look_cons, ↓reduceIte, Nat.reduceEqDiff, *] <;> simp) (Sub.refl _)
  · have hb : (((L.length : Nat) : Int) != ((M.length : Nat) : Int)) = true := by simp; omega
    have hne : decide (L = M) = false := by simp only [decide_eq_false_iff_not]; rintro rfl; exact hl rfl
    rw [hne]
    clear hne
    (repeat' (first | with_reducible refine ARun.seq ?_ | with_reducible refine ARun.block ?_ | with_reducible refine ARun.inBlock ?_ | with_reducible refine ARun.skip ?_ | with_reducible refine And.intro ?_ ?_ | ((with_reducible refine ARun.region ?_ ?_); · rfl) | with_reducible refine Fresh.go fun _ _ _ => ?_ | ((with_reducible apply ARun.exit); · rfl) | with_reducible refine ARun.ret ?_ | ((with_reducible refine ARun.cond_t ?_ ?_); · rfl) | ((with_reducible refine ARun.cond_f ?_ ?_); · rfl) | ((with_reducible apply ARun.cond) <;> first | intro _ | rfl) | simp (maxDischargeDepth := 9) only [go_sem, *, ↓reduceIte, reduceCtorEq, Nat.reduceEqDiff, Nat.reduceAdd, Nat.reduceLeDiff, Nat.reduceLT, Nat.reduceMul, Int.reduceEq, Int.reduceNe, Int.reduceLE, Int.reduceLT, Int.reduceBEq, Int.reduceBNe, Int.reduceToNat] | with_reducible refine grdO_goT (fun _ => ?_) (fun _ => ?_) | with_reducible refine grdO_goF (fun _ => ?_) (fun _ => ?_) | with_reducible refine grdF_goT (fun _ => ?_) (fun _ => ?_) | with_reducible refine grdF_goF (fun _ => ?_) (fun _ => ?_)))
    exact Fin.plain (by simp (maxDischargeDepth := 9) only [go_sem, *, ↓reduceIte, reduceCtorEq, Nat.reduceEqDiff, Nat.reduceAdd, Nat.reduceLeDiff, Nat.reduceLT, Nat.reduceMul, Int.reduceEq, Int.reduceNe, Int.reduceLE, Int.reduceLT, Int.reduceBEq, Int.reduceBNe, Int.reduceToNat]; rfl) (by (repeat (first | exact Sub.refl _ | assumption | refine Sub.upd2 ?_ _ _ | refine Sub.fresh ?_ (by assumption) | refine Sub.upd ?_ (by (first | assumption | exact nu1 (by assumption) | exact nu2 (by assumption) | exact nu3 (by assumption) | exact nu4 (by assumption) | exact nu5 (by assumption) | exact nu6 (by assumption) | exact nu7 (by assumption) | exact none_put (by assumption) (by assumption) | exact none_put (by assumption) (nu1 (by assumption)) | exact none_put (by assumption) (nu2 (by assumption)) | exact none_put (by assumption) (nu3 (by assumption)) | exact none_put (by assumption) (nu4 (by assumption)) | exact none_put (by assumption) (nu5 (by assumption))))))) ⟨by first | rfl | (simp [resV, *]; done), rfl⟩

theorem rpatch_c (m n : Mod) (hm : m.ok) (H : Heap) : AC Tryd.prog 19 [m.tv, n.tv] H (fun r H' => r = .s (.int .i64 (m.pat n)) ∧ H' = H) := by
  refine AC.body Tryd.func19 rfl rfl (n := 11) (res := [.tmp 4]) rfl rfl (by simp) ?_
  simp only [ent]
  have E := fun H => sameT_c m.ex n.ex hm.lex H
  have hp : m.pat n = if decide (m.ex = n.ex) then 0 else 27 := by unfold Mod.pat; simp
  rw [hp]
  clear hm hp
  generalize decide (m.ex = n.ex) = c at E ⊢
  simp only [Mod.tv_def]
  cases c
  all_goals
    (repeat' (first | with_reducible refine ARun.seq ?_ | with_reducible refine ARun.block ?_ | with_reducible refine ARun.inBlock ?_ | with_reducible refine ARun.skip ?_ | with_reducible refine And.intro ?_ ?_ | ((with_reducible refine ARun.region ?_ ?_); · rfl) | with_reducible refine Fresh.go fun _ _ _ => ?_ | ((with_reducible apply ARun.exit); · rfl) | with_reducible refine ARun.ret ?_ | ((with_reducible refine ARun.cond_t ?_ ?_); · rfl) | ((with_reducible refine ARun.cond_f ?_ ?_); · rfl) | ((with_reducible apply ARun.cond) <;> first | intro _ | rfl) | simp (maxDischargeDepth := 9) only [go_sem, *, ↓reduceIte, reduceCtorEq, Nat.reduceEqDiff, Nat.reduceAdd, Nat.reduceLeDiff, Nat.reduceLT, Nat.reduceMul, Int.reduceEq, Int.reduceNe, Int.reduceLE, Int.reduceLT, Int.reduceBEq, Int.reduceBNe, Int.reduceToNat] | with_reducible refine grdO_goT (fun _ => ?_) (fun _ => ?_) | with_reducible refine grdO_goF (fun _ => ?_) (fun _ => ?_) | with_reducible refine grdF_goT (fun _ => ?_) (fun _ => ?_) | with_reducible refine grdF_goF (fun _ => ?_) (fun _ => ?_) | refine Calling.eq (E _) ?_))
    exact Fin.plain (by simp (maxDischargeDepth := 9) only [go_sem, *, ↓reduceIte, reduceCtorEq, Nat.reduceEqDiff, Nat.reduceAdd, Nat.reduceLeDiff, Nat.reduceLT, Nat.reduceMul, Int.reduceEq, Int.reduceNe, Int.reduceLE, Int.reduceLT, Int.reduceBEq, Int.reduceBNe, Int.reduceToNat]; rfl) (by (repeat (first | exact Sub.refl _ | assumption | refine Sub.upd2 ?_ _ _ | refine Sub.fresh ?_ (by assumption) | refine Sub.upd ?_ (by (first | assumption | exact nu1 (by assumption) | exact nu2 (by assumption) | exact nu3 (by assumption) | exact nu4 (by assumption) | exact nu5 (by assumption) | exact nu6 (by assumption) | exact nu7 (by assumption) | exact none_put (by assumption) (by assumption) | exact none_put (by assumption) (nu1 (by assumption)) | exact none_put (by assumption) (nu2 (by assumption)) | exact none_put (by assumption) (nu3 (by assumption)) | exact none_put (by assumption) (nu4 (by assumption)) | exact none_put (by assumption) (nu5 (by assumption))))))) ⟨by first | rfl | (simp [resV, *]; done), rfl⟩
def mn (i : Nat) : Int := if (65536 : Int) < (i : Int) then 65536 else (i : Int)
def Mod.size (m : Mod) : Int :=
  if decide ((m.ex.length : Int) ≤ 65536) then (if decide ((m.ex.length : Int) + mn m.im.length ≤ 65536) then (if decide ((m.ex.length : Int) + mn m.im.length + mn m.co.length ≤ 65536) then (if decide ((m.ex.length : Int) + mn m.im.length + mn m.co.length + mn m.da.length ≤ 65536) then (m.ex.length : Int) + mn m.im.length + mn m.co.length + mn m.da.length + mn m.re.length
    else (m.ex.length : Int) + mn m.im.length + mn m.co.length + mn m.da.length) else (m.ex.length : Int) + mn m.im.length + mn m.co.length) else (m.ex.length : Int) + mn m.im.length) else m.ex.length
theorem mn_le (i : Nat) : 0 ≤ mn i ∧ mn i ≤ 65536 := by unfold mn; split <;> omega
theorem mn_small {i : Nat} (h : mn i ≤ 2000) : i ≤ 2000 := by unfold mn at h; split at h <;> omega
theorem size_small {m : Mod} (h : m.size ≤ 2000) : m.ex.length ≤ 2000 ∧ m.im.length ≤ 2000 ∧ m.co.length ≤ 2000 ∧ m.da.length ≤ 2000 ∧ m.re.length ≤ 2000 := by
  unfold Mod.size at h
  have a1 := mn_le m.im.length
  have a2 := mn_le m.co.length
  have a3 := mn_le m.da.length
  have a4 := mn_le m.re.length
  have b1 := @mn_small m.im.length
  have b2 := @mn_small m.co.length
  have b3 := @mn_small m.da.length
  have b4 := @mn_small m.re.length
  generalize mn m.im.length = x1 at *
  generalize mn m.co.length = x2 at *
  generalize mn m.da.length = x3 at *
  generalize mn m.re.length = x4 at *
  simp only [decide_eq_true_eq] at h
  split at h
  · split at h
    · split at h
      · split at h
        · exact ⟨by omega, b1 (by omega), b2 (by omega), b3 (by omega), b4 (by omega)⟩
        · omega
      · omega
    · omega
  · omega
theorem rsize_c (m : Mod) (H : Heap) : AC Tryd.prog 9 [m.tv] H (fun r H' => r = .s (.int .i64 m.size) ∧ H' = H) := by
  refine AC.body Tryd.func9 rfl rfl (n := 38) (res := [.tmp 2]) rfl rfl (by simp) ?_
  simp only [ent]
  have d1 : (if (65536 : Int) < (m.im.length : Int) then (65536 : Int) else (m.im.length : Int)) = mn m.im.length := rfl
  have d2 : (if (65536 : Int) < (m.co.length : Int) then (65536 : Int) else (m.co.length : Int)) = mn m.co.length := rfl
  have d3 : (if (65536 : Int) < (m.da.length : Int) then (65536 : Int) else (m.da.length : Int)) = mn m.da.length := rfl
  have d4 : (if (65536 : Int) < (m.re.length : Int) then (65536 : Int) else (m.re.length : Int)) = mn m.re.length := rfl
  have a1 := mn_le m.im.length
  have a2 := mn_le m.co.length
  have a3 := mn_le m.da.length
  have a4 := mn_le m.re.length
  have hsz : m.size = if decide ((m.ex.length : Int) ≤ 65536) then (if decide ((m.ex.length : Int) + mn m.im.length ≤ 65536) then (if decide ((m.ex.length : Int) + mn m.im.length + mn m.co.length ≤ 65536) then (if decide ((m.ex.length : Int) + mn m.im.length + mn m.co.length + mn m.da.length ≤ 65536) then (m.ex.length : Int) + mn m.im.length + mn m.co.length + mn m.da.length + mn m.re.length
    else (m.ex.length : Int) + mn m.im.length + mn m.co.length + mn m.da.length) else (m.ex.length : Int) + mn m.im.length + mn m.co.length) else (m.ex.length : Int) + mn m.im.length) else m.ex.length := rfl
  rw [hsz]
  clear hsz
  simp only [Mod.tv_def]
  generalize mn m.im.length = x1 at *
  generalize mn m.co.length = x2 at *
  generalize mn m.da.length = x3 at *
  generalize mn m.re.length = x4 at *
  have i1 : IntKind.i64.wrap (0 + 1) = 1 := rfl
  have i2 : IntKind.i64.wrap (1 + 1) = 2 := rfl
  have i3 : IntKind.i64.wrap (2 + 1) = 3 := rfl
  have i4 : IntKind.i64.wrap (3 + 1) = 4 := rfl
  have fl : ∀ a b c d : Int, [[TV.s (.int .i64 a)], [TV.s (.int .i64 b)], [TV.s (.int .i64 c)], [TV.s (.int .i64 d)]].flatten = [TV.s (.int .i64 a), TV.s (.int .i64 b), TV.s (.int .i64 c), TV.s (.int .i64 d)] := fun _ _ _ _ => rfl
  cases q1 : decide ((m.ex.length : Int) ≤ 65536) with
  | false =>
    replace a1 := later a1
    replace a2 := later a2
    replace a3 := later a3
    replace a4 := later a4
    rw [if_neg (by decide)]
    (repeat' (first | with_reducible refine ARun.seq ?_ | with_reducible refine ARun.block ?_ | with_reducible refine ARun.inBlock ?_ | with_reducible refine ARun.skip ?_ | with_reducible refine And.intro ?_ ?_ | ((with_reducible refine ARun.region ?_ ?_); · rfl) | with_reducible refine Fresh.go fun _ _ _ => ?_ | with_reducible refine ARun.loop ?_ | with_reducible refine ARun.inLoop ?_ | ((with_reducible apply ARun.exit); · rfl) | with_reducible refine ARun.ret ?_ | ((with_reducible refine ARun.cond_t ?_ ?_); · rfl) | ((with_reducible refine ARun.cond_f ?_ ?_); · rfl) | ((with_reducible apply ARun.cond) <;> first | intro _ | rfl) | simp (maxDischargeDepth := 9) only [go_sem, *, ↓reduceIte, reduceCtorEq, Nat.reduceEqDiff, Nat.reduceAdd, Nat.reduceLeDiff, Nat.reduceLT, Nat.reduceMul, Int.reduceEq, Int.reduceNe, Int.reduceLE, Int.reduceLT, Int.reduceBEq, Int.reduceBNe, Int.reduceToNat] | with_reducible refine grdO_goT (fun _ => ?_) (fun _ => ?_) | with_reducible refine grdO_goF (fun _ => ?_) (fun _ => ?_) | with_reducible refine grdF_goT (fun _ => ?_) (fun _ => ?_) | with_reducible refine grdF_goF (fun _ => ?_) (fun _ => ?_) | refine Doing.fresh (oc_build (n := 4) (es := [[.s (.int .i64 m.im.length)], [.s (.int .i64 m.co.length)], [.s (.int .i64 m.da.length)], [.s (.int .i64 m.re.length)]]) ap54 (fun _ h => by cases h; rfl) rfl rfl rfl (.cons rfl (.cons rfl (.cons rfl (.cons rfl .nil)))) (by decide) (by decide) (by decide)) fun _ _ _ => ?_ | refine Doing.eq (oc_min) ?_))
    exact Fin.plain (by simp (maxDischargeDepth := 9) only [go_sem, *, ↓reduceIte, reduceCtorEq, Nat.reduceEqDiff, Nat.reduceAdd, Nat.reduceLeDiff, Nat.reduceLT, Nat.reduceMul, Int.reduceEq, Int.reduceNe, Int.reduceLE, Int.reduceLT, Int.reduceBEq, Int.reduceBNe, Int.reduceToNat]; rfl) (by (repeat (first | exact Sub.refl _ | assumption | refine Sub.upd2 ?_ _ _ | refine Sub.fresh ?_ (by assumption) | refine Sub.upd ?_ (by (first | assumption | exact nu1 (by assumption) | exact nu2 (by assumption) | exact nu3 (by assumption) | exact nu4 (by assumption) | exact nu5 (by assumption) | exact nu6 (by assumption) | exact nu7 (by assumption) | exact none_put (by assumption) (by assumption) | exact none_put (by assumption) (nu1 (by assumption)) | exact none_put (by assumption) (nu2 (by assumption)) | exact none_put (by assumption) (nu3 (by assumption)) | exact none_put (by assumption) (nu4 (by assumption)) | exact none_put (by assumption) (nu5 (by assumption))))))) ⟨by first | rfl | (simp [resV, *]; done), rfl⟩
  | true =>
    rw [if_pos rfl]
    have hq := of_decide_eq_true q1
    have w1 : IntKind.i64.wrap ((m.ex.length : Int) + x1) = (m.ex.length : Int) + x1 := wi64 (by omega) (by omega)
    have w2 : IntKind.i64.wrap ((m.ex.length : Int) + x1 + x2) = (m.ex.length : Int) + x1 + x2 := wi64 (by omega) (by omega)
    have w3 : IntKind.i64.wrap ((m.ex.length : Int) + x1 + x2 + x3) = (m.ex.length : Int) + x1 + x2 + x3 := wi64 (by omega) (by omega)
    have w4 : IntKind.i64.wrap ((m.ex.length : Int) + x1 + x2 + x3 + x4) = (m.ex.length : Int) + x1 + x2 + x3 + x4 := wi64 (by omega) (by omega)
    replace hq := later hq
    replace a1 := later a1
    replace a2 := later a2
    replace a3 := later a3
    replace a4 := later a4
    cases q2 : decide ((m.ex.length : Int) + x1 ≤ 65536) with
    | false =>
      rw [if_neg (by decide)]
      (repeat' (first | with_reducible refine ARun.seq ?_ | with_reducible refine ARun.block ?_ | with_reducible refine ARun.inBlock ?_ | with_reducible refine ARun.skip ?_ | with_reducible refine And.intro ?_ ?_ | ((with_reducible refine ARun.region ?_ ?_); · rfl) | with_reducible refine Fresh.go fun _ _ _ => ?_ | with_reducible refine ARun.loop ?_ | with_reducible refine ARun.inLoop ?_ | ((with_reducible apply ARun.exit); · rfl) | with_reducible refine ARun.ret ?_ | ((with_reducible refine ARun.cond_t ?_ ?_); · rfl) | ((with_reducible refine ARun.cond_f ?_ ?_); · rfl) | ((with_reducible apply ARun.cond) <;> first | intro _ | rfl) | simp (maxDischargeDepth := 9) only [go_sem, *, ↓reduceIte, reduceCtorEq, Nat.reduceEqDiff, Nat.reduceAdd, Nat.reduceLeDiff, Nat.reduceLT, Nat.reduceMul, Int.reduceEq, Int.reduceNe, Int.reduceLE, Int.reduceLT, Int.reduceBEq, Int.reduceBNe, Int.reduceToNat] | with_reducible refine grdO_goT (fun _ => ?_) (fun _ => ?_) | with_reducible refine grdO_goF (fun _ => ?_) (fun _ => ?_) | with_reducible refine grdF_goT (fun _ => ?_) (fun _ => ?_) | with_reducible refine grdF_goF (fun _ => ?_) (fun _ => ?_) | refine Doing.fresh (oc_build (n := 4) (es := [[.s (.int .i64 m.im.length)], [.s (.int .i64 m.co.length)], [.s (.int .i64 m.da.length)], [.s (.int .i64 m.re.length)]]) ap54 (fun _ h => by cases h; rfl) rfl rfl rfl (.cons rfl (.cons rfl (.cons rfl (.cons rfl .nil)))) (by decide) (by decide) (by decide)) fun _ _ _ => ?_ | refine Doing.eq (oc_min) ?_))
      exact Fin.plain (by simp (maxDischargeDepth := 9) only [go_sem, *, ↓reduceIte, reduceCtorEq, Nat.reduceEqDiff, Nat.reduceAdd, Nat.reduceLeDiff, Nat.reduceLT, Nat.reduceMul, Int.reduceEq, Int.reduceNe, Int.reduceLE, Int.reduceLT, Int.reduceBEq, Int.reduceBNe, Int.reduceToNat]; rfl) (by (repeat (first | exact Sub.refl _ | assumption | refine Sub.upd2 ?_ _ _ | refine Sub.fresh ?_ (by assumption) | refine Sub.upd ?_ (by (first | assumption | exact nu1 (by assumption) | exact nu2 (by assumption) | exact nu3 (by assumption) | exact nu4 (by assumption) | exact nu5 (by assumption) | exact nu6 (by assumption) | exact nu7 (by assumption) | exact none_put (by assumption) (by assumption) | exact none_put (by assumption) (nu1 (by assumption)) | exact none_put (by assumption) (nu2 (by assumption)) | exact none_put (by assumption) (nu3 (by assumption)) | exact none_put (by assumption) (nu4 (by assumption)) | exact none_put (by assumption) (nu5 (by assumption))))))) ⟨by first | rfl | (simp [resV, *]; done), rfl⟩
    | true =>
      rw [if_pos rfl]
      cases q3 : decide ((m.ex.length : Int) + x1 + x2 ≤ 65536) with
      | false =>
        rw [if_neg (by decide)]
        (repeat' (first | with_reducible refine ARun.seq ?_ | with_reducible refine ARun.block ?_ | with_reducible refine ARun.inBlock ?_ | with_reducible refine ARun.skip ?_ | with_reducible refine And.intro ?_ ?_ | ((with_reducible refine ARun.region ?_ ?_); · rfl) | with_reducible refine Fresh.go fun _ _ _ => ?_ | with_reducible refine ARun.loop ?_ | with_reducible refine ARun.inLoop ?_ | ((with_reducible apply ARun.exit); · rfl) | with_reducible refine ARun.ret ?_ | ((with_reducible refine ARun.cond_t ?_ ?_); · rfl) | ((with_reducible refine ARun.cond_f ?_ ?_); · rfl) | ((with_reducible apply ARun.cond) <;> first | intro _ | rfl) | simp (maxDischargeDepth := 9) only [go_sem, *, ↓reduceIte, reduceCtorEq, Nat.reduceEqDiff, Nat.reduceAdd, Nat.reduceLeDiff, Nat.reduceLT, Nat.reduceMul, Int.reduceEq, Int.reduceNe, Int.reduceLE, Int.reduceLT, Int.reduceBEq, Int.reduceBNe, Int.reduceToNat] | with_reducible refine grdO_goT (fun _ => ?_) (fun _ => ?_) | with_reducible refine grdO_goF (fun _ => ?_) (fun _ => ?_) | with_reducible refine grdF_goT (fun _ => ?_) (fun _ => ?_) | with_reducible refine grdF_goF (fun _ => ?_) (fun _ => ?_) | refine Doing.fresh (oc_build (n := 4) (es := [[.s (.int .i64 m.im.length)], [.s (.int .i64 m.co.length)], [.s (.int .i64 m.da.length)], [.s (.int .i64 m.re.length)]]) ap54 (fun _ h => by cases h; rfl) rfl rfl rfl (.cons rfl (.cons rfl (.cons rfl (.cons rfl .nil)))) (by decide) (by decide) (by decide)) fun _ _ _ => ?_ | refine Doing.eq (oc_min) ?_))
        exact Fin.plain (by simp (maxDischargeDepth := 9) only [go_sem, *, ↓reduceIte, reduceCtorEq, Nat.reduceEqDiff, Nat.reduceAdd, Nat.reduceLeDiff, Nat.reduceLT, Nat.reduceMul, Int.reduceEq, Int.reduceNe, Int.reduceLE, Int.reduceLT, Int.reduceBEq, Int.reduceBNe, Int.reduceToNat]; rfl) (by (repeat (first | exact Sub.refl _ | assumption | refine Sub.upd2 ?_ _ _ | refine Sub.fresh ?_ (by assumption) | refine Sub.upd ?_ (by (first | assumption | exact nu1 (by assumption) | exact nu2 (by assumption) | exact nu3 (by assumption) | exact nu4 (by assumption) | exact nu5 (by assumption) | exact nu6 (by assumption) | exact nu7 (by assumption) | exact none_put (by assumption) (by assumption) | exact none_put (by assumption) (nu1 (by assumption)) | exact none_put (by assumption) (nu2 (by assumption)) | exact none_put (by assumption) (nu3 (by assumption)) | exact none_put (by assumption) (nu4 (by assumption)) | exact none_put (by assumption) (nu5 (by assumption))))))) ⟨by first | rfl | (simp [resV, *]; done), rfl⟩
      | true =>
        rw [if_pos rfl]
        cases q4 : decide ((m.ex.length : Int) + x1 + x2 + x3 ≤ 65536) with
        | false =>
          rw [if_neg (by decide)]
          (repeat' (first | with_reducible refine ARun.seq ?_ | with_reducible refine ARun.block ?_ | with_reducible refine ARun.inBlock ?_ | with_reducible refine ARun.skip ?_ | with_reducible refine And.intro ?_ ?_ | ((with_reducible refine ARun.region ?_ ?_); · rfl) | with_reducible refine Fresh.go fun _ _ _ => ?_ | with_reducible refine ARun.loop ?_ | with_reducible refine ARun.inLoop ?_ | ((with_reducible apply ARun.exit); · rfl) | with_reducible refine ARun.ret ?_ | ((with_reducible refine ARun.cond_t ?_ ?_); · rfl) | ((with_reducible refine ARun.cond_f ?_ ?_); · rfl) | ((with_reducible apply ARun.cond) <;> first | intro _ | rfl) | simp (maxDischargeDepth := 9) only [go_sem, *, ↓reduceIte, reduceCtorEq, Nat.reduceEqDiff, Nat.reduceAdd, Nat.reduceLeDiff, Nat.reduceLT, Nat.reduceMul, Int.reduceEq, Int.reduceNe, Int.reduceLE, Int.reduceLT, Int.reduceBEq, Int.reduceBNe, Int.reduceToNat] | with_reducible refine grdO_goT (fun _ => ?_) (fun _ => ?_) | with_reducible refine grdO_goF (fun _ => ?_) (fun _ => ?_) | with_reducible refine grdF_goT (fun _ => ?_) (fun _ => ?_) | with_reducible refine grdF_goF (fun _ => ?_) (fun _ => ?_) | refine Doing.fresh (oc_build (n := 4) (es := [[.s (.int .i64 m.im.length)], [.s (.int .i64 m.co.length)], [.s (.int .i64 m.da.length)], [.s (.int .i64 m.re.length)]]) ap54 (fun _ h => by cases h; rfl) rfl rfl rfl (.cons rfl (.cons rfl (.cons rfl (.cons rfl .nil)))) (by decide) (by decide) (by decide)) fun _ _ _ => ?_ | refine Doing.eq (oc_min) ?_))
          exact Fin.plain (by simp (maxDischargeDepth := 9) only [go_sem, *, ↓reduceIte, reduceCtorEq, Nat.reduceEqDiff, Nat.reduceAdd, Nat.reduceLeDiff, Nat.reduceLT, Nat.reduceMul, Int.reduceEq, Int.reduceNe, Int.reduceLE, Int.reduceLT, Int.reduceBEq, Int.reduceBNe, Int.reduceToNat]; rfl) (by (repeat (first | exact Sub.refl _ | assumption | refine Sub.upd2 ?_ _ _ | refine Sub.fresh ?_ (by assumption) | refine Sub.upd ?_ (by (first | assumption | exact nu1 (by assumption) | exact nu2 (by assumption) | exact nu3 (by assumption) | exact nu4 (by assumption) | exact nu5 (by assumption) | exact nu6 (by assumption) | exact nu7 (by assumption) | exact none_put (by assumption) (by assumption) | exact none_put (by assumption) (nu1 (by assumption)) | exact none_put (by assumption) (nu2 (by assumption)) | exact none_put (by assumption) (nu3 (by assumption)) | exact none_put (by assumption) (nu4 (by assumption)) | exact none_put (by assumption) (nu5 (by assumption))))))) ⟨by first | rfl | (simp [resV, *]; done), rfl⟩
        | true =>
          rw [if_pos rfl]
          (repeat' (first | with_reducible refine ARun.seq ?_ | with_reducible refine ARun.block ?_ | with_reducible refine ARun.inBlock ?_ | with_reducible refine ARun.skip ?_ | with_reducible refine And.intro ?_ ?_ | ((with_reducible refine ARun.region ?_ ?_); · rfl) | with_reducible refine Fresh.go fun _ _ _ => ?_ | with_reducible refine ARun.loop ?_ | with_reducible refine ARun.inLoop ?_ | ((with_reducible apply ARun.exit); · rfl) | with_reducible refine ARun.ret ?_ | ((with_reducible refine ARun.cond_t ?_ ?_); · rfl) | ((with_reducible refine ARun.cond_f ?_ ?_); · rfl) | ((with_reducible apply ARun.cond) <;> first | intro _ | rfl) | simp (maxDischargeDepth := 9) only [go_sem, *, ↓reduceIte, reduceCtorEq, Nat.reduceEqDiff, Nat.reduceAdd, Nat.reduceLeDiff, Nat.reduceLT, Nat.reduceMul, Int.reduceEq, Int.reduceNe, Int.reduceLE, Int.reduceLT, Int.reduceBEq, Int.reduceBNe, Int.reduceToNat] | with_reducible refine grdO_goT (fun _ => ?_) (fun _ => ?_) | with_reducible refine grdO_goF (fun _ => ?_) (fun _ => ?_) | with_reducible refine grdF_goT (fun _ => ?_) (fun _ => ?_) | with_reducible refine grdF_goF (fun _ => ?_) (fun _ => ?_) | refine Doing.fresh (oc_build (n := 4) (es := [[.s (.int .i64 m.im.length)], [.s (.int .i64 m.co.length)], [.s (.int .i64 m.da.length)], [.s (.int .i64 m.re.length)]]) ap54 (fun _ h => by cases h; rfl) rfl rfl rfl (.cons rfl (.cons rfl (.cons rfl (.cons rfl .nil)))) (by decide) (by decide) (by decide)) fun _ _ _ => ?_ | refine Doing.eq (oc_min) ?_))
          exact Fin.plain (by simp (maxDischargeDepth := 9) only [go_sem, *, ↓reduceIte, reduceCtorEq, Nat.reduceEqDiff, Nat.reduceAdd, Nat.reduceLeDiff, Nat.reduceLT, Nat.reduceMul, Int.reduceEq, Int.reduceNe, Int.reduceLE, Int.reduceLT, Int.reduceBEq, Int.reduceBNe, Int.reduceToNat]; rfl) (by (repeat (first | exact Sub.refl _ | assumption | refine Sub.upd2 ?_ _ _ | refine Sub.fresh ?_ (by assumption) | refine Sub.upd ?_ (by (first | assumption | exact nu1 (by assumption) | exact nu2 (by assumption) | exact nu3 (by assumption) | exact nu4 (by assumption) | exact nu5 (by assumption) | exact nu6 (by assumption) | exact nu7 (by assumption) | exact none_put (by assumption) (by assumption) | exact none_put (by assumption) (nu1 (by assumption)) | exact none_put (by assumption) (nu2 (by assumption)) | exact none_put (by assumption) (nu3 (by assumption)) | exact none_put (by assumption) (nu4 (by assumption)) | exact none_put (by assumption) (nu5 (by assumption))))))) ⟨by first | rfl | (simp [resV, *]; done), rfl⟩
end Go.Abs
