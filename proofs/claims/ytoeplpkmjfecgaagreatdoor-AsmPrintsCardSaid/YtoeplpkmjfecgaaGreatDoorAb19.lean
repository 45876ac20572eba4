import Derived.Test.YtoeplpkmjfecgaaGreatDoorAb18
/- The walk's steps, as lemmas that find their own proofs. -/
namespace Go.Abs
set_option linter.unusedSimpArgs false
set_option linter.unusedVariables false
set_option linter.unusedVariables false
/-- What simp finds. -/
theorem ag {G : Prop} (h : G := by simp (maxDischargeDepth := 9) only [go_sem, *, ↓reduceIte, reduceCtorEq, Nat.reduceEqDiff, Nat.reduceAdd, Nat.reduceLeDiff, Nat.reduceLT, Nat.reduceMul, Int.reduceEq, Int.reduceNe, Int.reduceLE, Int.reduceLT, Int.reduceBEq, Int.reduceBNe, Int.reduceToNat]) : G := h
theorem agr {α : Type} {a b : α} (h : a = b := by simp (maxDischargeDepth := 9) only [go_sem, *, ↓reduceIte, reduceCtorEq, Nat.reduceEqDiff, Nat.reduceAdd, Nat.reduceLeDiff, Nat.reduceLT, Nat.reduceMul, Int.reduceEq, Int.reduceNe, Int.reduceLE, Int.reduceLT, Int.reduceBEq, Int.reduceBNe, Int.reduceToNat]; rfl) : a = b := h
/-- What simp makes of it. -/
theorem wa {R G : Prop} (r : R) (h : Later R → G := by
  intro rr
  simp (maxDischargeDepth := 9) only [go_sem, *, ↓reduceIte, reduceCtorEq, Nat.reduceEqDiff, Nat.reduceAdd, Nat.reduceLeDiff, Nat.reduceLT, Nat.reduceMul, Int.reduceEq, Int.reduceNe, Int.reduceLE, Int.reduceLT, Int.reduceBEq, Int.reduceBNe, Int.reduceToNat]
  exact Later.go rr) : G := h r
/-- As far as the walk goes, with one place left. -/
theorem wk {R G : Prop} (r : R) (h : Later R → G := by
  intro rr
  first
    | with_reducible refine ARun.seq ?_
    | with_reducible refine ARun.block ?_
    | with_reducible refine ARun.inBlock ?_
    | with_reducible refine ARun.skip ?_
    | ((with_reducible refine ARun.region ?_ ?_); · rfl)
    | ((with_reducible apply ARun.exit); · rfl)
    | with_reducible refine ARun.ret ?_
    | with_reducible refine ARun.retM ?_
    | ((with_reducible refine ARun.cond_t ?_ ?_); · rfl)
    | ((with_reducible refine ARun.cond_f ?_ ?_); · rfl)
    | (fail_if_success with_reducible first | refine And.intro ?_ ?_ | refine Fresh.go fun _ _ _ => ?_
       simp (maxDischargeDepth := 9) only [go_sem, *, ↓reduceIte, reduceCtorEq, Nat.reduceEqDiff, Nat.reduceAdd, Nat.reduceLeDiff, Nat.reduceLT, Nat.reduceMul, Int.reduceEq, Int.reduceNe, Int.reduceLE, Int.reduceLT, Int.reduceBEq, Int.reduceBNe, Int.reduceToNat])
  repeat (first
    | with_reducible refine ARun.seq ?_
    | with_reducible refine ARun.block ?_
    | with_reducible refine ARun.inBlock ?_
    | with_reducible refine ARun.skip ?_
    | ((with_reducible refine ARun.region ?_ ?_); · rfl)
    | ((with_reducible apply ARun.exit); · rfl)
    | with_reducible refine ARun.ret ?_
    | with_reducible refine ARun.retM ?_
    | ((with_reducible refine ARun.cond_t ?_ ?_); · rfl)
    | ((with_reducible refine ARun.cond_f ?_ ?_); · rfl)
    | (fail_if_success with_reducible first | refine And.intro ?_ ?_ | refine Fresh.go fun _ _ _ => ?_
       simp (maxDischargeDepth := 9) only [go_sem, *, ↓reduceIte, reduceCtorEq, Nat.reduceEqDiff, Nat.reduceAdd, Nat.reduceLeDiff, Nat.reduceLT, Nat.reduceMul, Int.reduceEq, Int.reduceNe, Int.reduceLE, Int.reduceLT, Int.reduceBEq, Int.reduceBNe, Int.reduceToNat]))
  exact Later.go rr) : G := h r
/-- A fork: two places left. -/
theorem wk2 {R S G : Prop} (r : R) (s : S) (h : Later R → Later S → G := by
  intro rr ss
  with_reducible first
    | exact And.intro (Later.go rr) (Later.go ss)
    | exact grdO_goT (Later.go rr) (Later.go ss)
    | exact grdO_goF (Later.go rr) (Later.go ss)
    | exact grdF_goT (Later.go rr) (Later.go ss)
    | exact grdF_goF (Later.go rr) (Later.go ss)
    | exact ARun.cond rfl (Later.go rr) (Later.go ss)) : G := h r s
theorem wkF {H : Heap} {k : Nat → Prop} (h : ∀ b, H b = none → (∀ p, (H p).isSome = true → (p = b) = False ∧ (b = p) = False) → k b) : Fresh H k := h
theorem sb {H H' : Heap} (h : Sub H H' := by repeat (first | exact Sub.refl _ | assumption | refine Sub.upd2 ?_ _ _ | refine Sub.fresh ?_ (by assumption) | refine Sub.upd ?_ (by (first | assumption | exact nu1 (by assumption) | exact nu2 (by assumption) | exact nu3 (by assumption) | exact nu4 (by assumption) | exact nu5 (by assumption) | exact nu6 (by assumption) | exact nu7 (by assumption) | exact none_put (by assumption) (by assumption) | exact none_put (by assumption) (nu1 (by assumption)) | exact none_put (by assumption) (nu2 (by assumption)) | exact none_put (by assumption) (nu3 (by assumption)) | exact none_put (by assumption) (nu4 (by assumption)) | exact none_put (by assumption) (nu5 (by assumption)))))) : Sub H H' := h
theorem leK {E E' : List (Nat × TV)} {H H' : Heap} (hs : Sub H H') (h : ∀ p ∈ E, look E' p.1 = some p.2 := by
  simp only [List.forall_mem_cons, List.not_mem_nil, false_implies, implies_true, and_true, look_cons, ↓reduceIte, Nat.reduceEqDiff, *] <;> simp) : AS.le ⟨E, H⟩ ⟨E', H'⟩ := AS.le_of h hs
/-- At the return. -/
theorem fin1 {P : Program} {A : AS} {res : List ResultVar} {C : TV → Heap → Prop} {vs : List TV} {H' : Heap} (h' : C (resV vs) H') (h : resL P A res = some vs := by
  simp (maxDischargeDepth := 9) only [go_sem, *, ↓reduceIte, reduceCtorEq, Nat.reduceEqDiff, Nat.reduceAdd, Nat.reduceLeDiff, Nat.reduceLT, Nat.reduceMul, Int.reduceEq, Int.reduceNe, Int.reduceLE, Int.reduceLT, Int.reduceBEq, Int.reduceBNe, Int.reduceToNat]
  rfl) (hs : Sub H' A.H := by exact sb) : Fin P res C A := Fin.plain h hs h'
theorem fin0 {P : Program} {A : AS} {res : List ResultVar} {C : TV → Heap → Prop} {vs : List TV} {H' : Heap} (h : resL P A res = some vs := by
  simp (maxDischargeDepth := 9) only [go_sem, *, ↓reduceIte, reduceCtorEq, Nat.reduceEqDiff, Nat.reduceAdd, Nat.reduceLeDiff, Nat.reduceLT, Nat.reduceMul, Int.reduceEq, Int.reduceNe, Int.reduceLE, Int.reduceLT, Int.reduceBEq, Int.reduceBNe, Int.reduceToNat]
  rfl) (h' : C (resV vs) H' := by exact ⟨by first | rfl | (simp [resV, *]; done), rfl⟩) (hs : Sub H' A.H := by exact sb) : Fin P res C A := Fin.plain h hs h'
end Go.Abs
