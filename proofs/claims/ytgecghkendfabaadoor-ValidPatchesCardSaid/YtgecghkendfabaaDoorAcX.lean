import Derived.Test.YtgecghkendfabaaDoorAcV
import Derived.Test.YtgecghkendfabaaDoorAcO
import Derived.Test.YtgecghkendfabaaDoorAcJ
/- Modules that are looked at: what the program's functions make. -/
namespace Go.Abs
set_option linter.unusedSimpArgs false
set_option linter.unusedVariables false
open Go.Proofs Go.Nm Go.Wd
set_option linter.unusedVariables false
set_option maxRecDepth 8000
variable {H : Heap}
/-- Numbers in their ranges; lists and texts that memory holds. -/
structure Mod.ok (m : Mod) : Prop where
  co : ∀ x ∈ m.co, x < 2 ^ 32
  da : ∀ x ∈ m.da, x < 2 ^ 32
  re : ∀ r ∈ m.re, r.k < 256 ∧ r.a < 65536 ∧ r.w < 65536
  lex : m.ex.length < 4611686018427387904
  lim : m.im.length < 4611686018427387904
  lco : m.co.length < 4611686018427387904
  lda : m.da.length < 4611686018427387904
  lre : m.re.length < 4611686018427387904
def longB (s : ByteArray) : Bool := decide ((96 : Int) < s.size)
def kindB (r : Rlc) : Bool := decide ((7 : Int) < r.k)
theorem long_c (x : ByteArray) (H : Heap) : AC Tryd.prog 39 [.s (.string x)] H (fun r H' => r = .s (.bool (longB x)) ∧ H' = H) := by
  refine AC.body Tryd.func39 rfl rfl (n := 6) (res := [.tmp 2]) rfl rfl (by simp) ?_
  simp only [ent]
  (repeat' (first | with_reducible refine ARun.seq ?_ | with_reducible refine ARun.block ?_ | with_reducible refine ARun.inBlock ?_ | with_reducible refine ARun.skip ?_ | with_reducible refine And.intro ?_ ?_ | ((with_reducible refine ARun.region ?_ ?_); · rfl) | with_reducible refine Fresh.go fun _ _ _ => ?_ | ((with_reducible apply ARun.exit); · rfl) | with_reducible refine ARun.ret ?_ | ((with_reducible refine ARun.cond_t ?_ ?_); · rfl) | ((with_reducible refine ARun.cond_f ?_ ?_); · rfl) | ((with_reducible apply ARun.cond) <;> first | intro _ | rfl) | simp (maxDischargeDepth := 9) only [go_sem, *, ↓reduceIte, reduceCtorEq, Nat.reduceEqDiff, Nat.reduceAdd, Nat.reduceLeDiff, Nat.reduceLT, Nat.reduceMul, Int.reduceEq, Int.reduceNe, Int.reduceLE, Int.reduceLT, Int.reduceBEq, Int.reduceBNe, Int.reduceToNat] | with_reducible refine grdO_goT (fun _ => ?_) (fun _ => ?_) | with_reducible refine grdO_goF (fun _ => ?_) (fun _ => ?_) | with_reducible refine grdF_goT (fun _ => ?_) (fun _ => ?_) | with_reducible refine grdF_goF (fun _ => ?_) (fun _ => ?_)))
  all_goals
    refine Fin.plain (by simp (maxDischargeDepth := 9) only [go_sem, *, ↓reduceIte, reduceCtorEq, Nat.reduceEqDiff, Nat.reduceAdd, Nat.reduceLeDiff, Nat.reduceLT, Nat.reduceMul, Int.reduceEq, Int.reduceNe, Int.reduceLE, Int.reduceLT, Int.reduceBEq, Int.reduceBNe, Int.reduceToNat]; rfl) (by (repeat (first | exact Sub.refl _ | assumption | refine Sub.upd2 ?_ _ _ | refine Sub.fresh ?_ (by assumption) | refine Sub.upd ?_ (by (first | assumption | exact nu1 (by assumption) | exact nu2 (by assumption) | exact nu3 (by assumption) | exact nu4 (by assumption) | exact nu5 (by assumption) | exact nu6 (by assumption) | exact nu7 (by assumption) | exact none_put (by assumption) (by assumption) | exact none_put (by assumption) (nu1 (by assumption)) | exact none_put (by assumption) (nu2 (by assumption)) | exact none_put (by assumption) (nu3 (by assumption)) | exact none_put (by assumption) (nu4 (by assumption)) | exact none_put (by assumption) (nu5 (by assumption))))))) ⟨?_, rfl⟩
    first | rfl | (simp only [resV, longB, *, Bool.or_false, Bool.or_true, Bool.false_or, Bool.true_or, Bool.and_false, Bool.and_true, Bool.false_and, Bool.true_and, Bool.not_true, Bool.not_false, Bool.false_eq_true, if_true, if_false]; done) | (simp only [resV, longB]; simp_all; done) | (simp only [resV, longB]; simp_all <;> omega)
theorem kind_c (x : Rlc) (H : Heap) : AC Tryd.prog 42 [.agg (relE x)] H (fun r H' => r = .s (.bool (kindB x)) ∧ H' = H) := by
  refine AC.body Tryd.func42 rfl rfl (n := 6) (res := [.tmp 2]) rfl rfl (by simp) ?_
  simp only [ent]
  simp only [relE_def]
  (repeat' (first | with_reducible refine ARun.seq ?_ | with_reducible refine ARun.block ?_ | with_reducible refine ARun.inBlock ?_ | with_reducible refine ARun.skip ?_ | with_reducible refine And.intro ?_ ?_ | ((with_reducible refine ARun.region ?_ ?_); · rfl) | with_reducible refine Fresh.go fun _ _ _ => ?_ | ((with_reducible apply ARun.exit); · rfl) | with_reducible refine ARun.ret ?_ | ((with_reducible refine ARun.cond_t ?_ ?_); · rfl) | ((with_reducible refine ARun.cond_f ?_ ?_); · rfl) | ((with_reducible apply ARun.cond) <;> first | intro _ | rfl) | simp (maxDischargeDepth := 9) only [go_sem, *, ↓reduceIte, reduceCtorEq, Nat.reduceEqDiff, Nat.reduceAdd, Nat.reduceLeDiff, Nat.reduceLT, Nat.reduceMul, Int.reduceEq, Int.reduceNe, Int.reduceLE, Int.reduceLT, Int.reduceBEq, Int.reduceBNe, Int.reduceToNat] | with_reducible refine grdO_goT (fun _ => ?_) (fun _ => ?_) | with_reducible refine grdO_goF (fun _ => ?_) (fun _ => ?_) | with_reducible refine grdF_goT (fun _ => ?_) (fun _ => ?_) | with_reducible refine grdF_goF (fun _ => ?_) (fun _ => ?_)))
  all_goals
    refine Fin.plain (by simp (maxDischargeDepth := 9) only [go_sem, *, ↓reduceIte, reduceCtorEq, Nat.reduceEqDiff, Nat.reduceAdd, Nat.reduceLeDiff, Nat.reduceLT, Nat.reduceMul, Int.reduceEq, Int.reduceNe, Int.reduceLE, Int.reduceLT, Int.reduceBEq, Int.reduceBNe, Int.reduceToNat]; rfl) (by (repeat (first | exact Sub.refl _ | assumption | refine Sub.upd2 ?_ _ _ | refine Sub.fresh ?_ (by assumption) | refine Sub.upd ?_ (by (first | assumption | exact nu1 (by assumption) | exact nu2 (by assumption) | exact nu3 (by assumption) | exact nu4 (by assumption) | exact nu5 (by assumption) | exact nu6 (by assumption) | exact nu7 (by assumption) | exact none_put (by assumption) (by assumption) | exact none_put (by assumption) (nu1 (by assumption)) | exact none_put (by assumption) (nu2 (by assumption)) | exact none_put (by assumption) (nu3 (by assumption)) | exact none_put (by assumption) (nu4 (by assumption)) | exact none_put (by assumption) (nu5 (by assumption))))))) ⟨?_, rfl⟩
    first | rfl | (simp only [resV, kindB, *, Bool.or_false, Bool.or_true, Bool.false_or, Bool.true_or, Bool.and_false, Bool.and_true, Bool.false_and, Bool.true_and, Bool.not_true, Bool.not_false, Bool.false_eq_true, if_true, if_false]; done) | (simp only [resV, kindB]; simp_all; done) | (simp only [resV, kindB]; simp_all <;> omega)
def anyB {α : Type} (p : α → Bool) (l : List α) : Bool := decide (0 ≤ fi p l)
def Mod.obj (m : Mod) : Int :=
  if decide ((8 : Int) < m.ex.length) || (decide ((16 : Int) < m.im.length) || decide ((256 : Int) < m.re.length)) then 5
  else if decide ((512 : Int) < m.co.length) || decide ((128 : Int) < m.da.length) then 5
  else if longB m.nm || (decide (0 ≤ fi longB m.ex) || decide (0 ≤ fi longB m.im)) then 5
  else if decide (0 ≤ fi kindB m.re) then 2 else 0
theorem obj_c (m : Mod) (hm : m.ok) (H : Heap) : AC Tryd.prog 20 [m.tv] H (fun r H' => r = .s (.int .i64 m.obj) ∧ H' = H) := by
  refine AC.body Tryd.func20 rfl rfl (n := 53) (res := [.tmp 2]) rfl rfl (by simp) ?_
  simp only [ent]
  simp only [Mod.tv_def]
  have L := long_c m.nm
  have E := fun H => (cofS_c m.ex hm.lex 39 [] longB H (fun x _ => long_c x H)).func
  have I := fun H => (cofS_c m.im hm.lim 39 [] longB H (fun x _ => long_c x H)).func
  have K := fun H => (cofR_c m.re hm.lre 42 [] kindB H (fun x _ => kind_c x H)).func
  clear hm
  (repeat' (first | with_reducible refine ARun.seq ?_ | with_reducible refine ARun.block ?_ | with_reducible refine ARun.inBlock ?_ | with_reducible refine ARun.skip ?_ | with_reducible refine And.intro ?_ ?_ | ((with_reducible refine ARun.region ?_ ?_); · rfl) | with_reducible refine Fresh.go fun _ _ _ => ?_ | ((with_reducible apply ARun.exit); · rfl) | with_reducible refine ARun.ret ?_ | ((with_reducible refine ARun.cond_t ?_ ?_); · rfl) | ((with_reducible refine ARun.cond_f ?_ ?_); · rfl) | ((with_reducible apply ARun.cond) <;> first | intro _ | rfl) | simp (maxDischargeDepth := 9) only [go_sem, *, ↓reduceIte, reduceCtorEq, Nat.reduceEqDiff, Nat.reduceAdd, Nat.reduceLeDiff, Nat.reduceLT, Nat.reduceMul, Int.reduceEq, Int.reduceNe, Int.reduceLE, Int.reduceLT, Int.reduceBEq, Int.reduceBNe, Int.reduceToNat] | with_reducible refine grdO_goT (fun _ => ?_) (fun _ => ?_) | with_reducible refine grdO_goF (fun _ => ?_) (fun _ => ?_) | with_reducible refine grdF_goT (fun _ => ?_) (fun _ => ?_) | with_reducible refine grdF_goF (fun _ => ?_) (fun _ => ?_) | refine Calling.eq (L _) ?_ | refine Calling.eq (E _) ?_ | refine Calling.eq (I _) ?_ | refine Calling.eq (K _) ?_))
  all_goals
    refine Fin.plain (by simp (maxDischargeDepth := 9) only [go_sem, *, ↓reduceIte, reduceCtorEq, Nat.reduceEqDiff, Nat.reduceAdd, Nat.reduceLeDiff, Nat.reduceLT, Nat.reduceMul, Int.reduceEq, Int.reduceNe, Int.reduceLE, Int.reduceLT, Int.reduceBEq, Int.reduceBNe, Int.reduceToNat]; rfl) (by (repeat (first | exact Sub.refl _ | assumption | refine Sub.upd2 ?_ _ _ | refine Sub.fresh ?_ (by assumption) | refine Sub.upd ?_ (by (first | assumption | exact nu1 (by assumption) | exact nu2 (by assumption) | exact nu3 (by assumption) | exact nu4 (by assumption) | exact nu5 (by assumption) | exact nu6 (by assumption) | exact nu7 (by assumption) | exact none_put (by assumption) (by assumption) | exact none_put (by assumption) (nu1 (by assumption)) | exact none_put (by assumption) (nu2 (by assumption)) | exact none_put (by assumption) (nu3 (by assumption)) | exact none_put (by assumption) (nu4 (by assumption)) | exact none_put (by assumption) (nu5 (by assumption))))))) ⟨?_, rfl⟩
    first | rfl | (simp only [resV, Mod.obj, *, Bool.or_false, Bool.or_true, Bool.false_or, Bool.true_or, Bool.and_false, Bool.and_true, Bool.false_and, Bool.true_and, Bool.not_true, Bool.not_false, Bool.false_eq_true, if_true, if_false]; done) | (simp only [resV, Mod.obj]; simp_all; done) | (simp only [resV, Mod.obj]; simp_all <;> omega)
def badN (s : ByteArray) : Bool := chk s != 0
/-- A text that stood ahead. -/
def dup (l : List ByteArray) (i : Nat) : Bool := match l[i]? with
  | some x => decide (0 ≤ fi (fun y => x.toList == y.toList) (l.take i))
  | none => false
def rep (l : List ByteArray) : Int := fi (dup l) (List.range l.length)
theorem range_get {n i : Nat} (h : i < n) : (List.range n)[i]? = some i := by rw [List.getElem?_eq_getElem (by simpa using h)]; simp
theorem rep_some {l : List ByteArray} {i : Nat} (hi : i < l.length) (h : dup l i = true) (hn : noneB (dup l) (List.range l.length) i) : rep l = i := fi_some (range_get hi) h hn
theorem repeated_c (l : List ByteArray) (hl : l.length < 4611686018427387904) (H : Heap) : AC Tryd.prog 45 [.vs 1 (l.map s1)] H (fun r H' => r = .s (.int .i64 (rep l)) ∧ H' = H) := by
  refine AC.body Tryd.func45 rfl rfl (n := 19) (res := [.tmp 2]) rfl rfl (by simp) ?_
  simp only [ent]
  (repeat' (first | with_reducible refine ARun.seq ?_ | with_reducible refine ARun.block ?_ | with_reducible refine ARun.inBlock ?_ | with_reducible refine ARun.skip ?_ | with_reducible refine And.intro ?_ ?_ | ((with_reducible refine ARun.region ?_ ?_); · rfl) | with_reducible refine Fresh.go fun _ _ _ => ?_ | ((with_reducible apply ARun.exit); · rfl) | with_reducible refine ARun.ret ?_ | ((with_reducible refine ARun.cond_t ?_ ?_); · rfl) | ((with_reducible refine ARun.cond_f ?_ ?_); · rfl) | ((with_reducible apply ARun.cond) <;> first | intro _ | rfl) | simp (maxDischargeDepth := 9) only [go_sem, *, ↓reduceIte, reduceCtorEq, Nat.reduceEqDiff, Nat.reduceAdd, Nat.reduceLeDiff, Nat.reduceLT, Nat.reduceMul, Int.reduceEq, Int.reduceNe, Int.reduceLE, Int.reduceLT, Int.reduceBEq, Int.reduceBNe, Int.reduceToNat] | with_reducible refine grdO_goT (fun _ => ?_) (fun _ => ?_) | with_reducible refine grdO_goF (fun _ => ?_) (fun _ => ?_) | with_reducible refine grdF_goT (fun _ => ?_) (fun _ => ?_) | with_reducible refine grdF_goF (fun _ => ?_) (fun _ => ?_)))
  refine ARun.rounds (fun i : Nat => ⟨[(0, .vs 1 (l.map s1)), (5, .vs 1 (l.map s1)), (6, .s (.int .i64 l.length)), (7, .s (.int .i64 i))], H⟩) (fun i => l.length - i) (fun i => i ≤ l.length ∧ noneB (dup l) (List.range l.length) i) ?_ 0 ⟨by omega, .zero⟩ ?_
  · rintro i ⟨hi, hno⟩ next
    replace hno := later hno
    by_cases hlt : i < l.length
    · have h1 : (i : Int) < l.length := by omega
      have h2 : (0 : Int) ≤ i := by omega
      have h3 : (i : Int) ≤ l.length := by omega
      obtain ⟨x, hx⟩ := at_ hlt
      have hx1 := vget s1 hx
      rw [s1_def] at hx1
      have hw := w64s (i := i) (by omega)
      have hd : dup l i = decide (0 ≤ fi (fun y => x.toList == y.toList) (l.take i)) := by unfold dup; rw [hx]
      have C := fun H => coS_c (l.take i) (by rw [List.length_take]; omega) x H
      rw [← hd, List.map_take] at C
      replace hx := later hx
      cases hdup : dup l i with
      | true =>
        rw [hdup] at C
        rw [rep_some hlt hdup hno.go]
        clear hd next
        (repeat' (first | with_reducible refine ARun.seq ?_ | with_reducible refine ARun.block ?_ | with_reducible refine ARun.inBlock ?_ | with_reducible refine ARun.skip ?_ | with_reducible refine And.intro ?_ ?_ | ((with_reducible refine ARun.region ?_ ?_); · rfl) | with_reducible refine Fresh.go fun _ _ _ => ?_ | ((with_reducible apply ARun.exit); · rfl) | with_reducible refine ARun.ret ?_ | ((with_reducible refine ARun.cond_t ?_ ?_); · rfl) | ((with_reducible refine ARun.cond_f ?_ ?_); · rfl) | ((with_reducible apply ARun.cond) <;> first | intro _ | rfl) | simp (maxDischargeDepth := 9) only [go_sem, *, ↓reduceIte, reduceCtorEq, Nat.reduceEqDiff, Nat.reduceAdd, Nat.reduceLeDiff, Nat.reduceLT, Nat.reduceMul, Int.reduceEq, Int.reduceNe, Int.reduceLE, Int.reduceLT, Int.reduceBEq, Int.reduceBNe, Int.reduceToNat] | with_reducible refine grdO_goT (fun _ => ?_) (fun _ => ?_) | with_reducible refine grdO_goF (fun _ => ?_) (fun _ => ?_) | with_reducible refine grdF_goT (fun _ => ?_) (fun _ => ?_) | with_reducible refine grdF_goF (fun _ => ?_) (fun _ => ?_) | refine Calling.eq (C _) ?_))
        exact Fin.plain (by simp (maxDischargeDepth := 9) only [go_sem, *, ↓reduceIte, reduceCtorEq, Nat.reduceEqDiff, Nat.reduceAdd, Nat.reduceLeDiff, Nat.reduceLT, Nat.reduceMul, Int.reduceEq, Int.reduceNe, Int.reduceLE, Int.reduceLT, Int.reduceBEq, Int.reduceBNe, Int.reduceToNat]; rfl) (by (repeat (first | exact Sub.refl _ | assumption | refine Sub.upd2 ?_ _ _ | refine Sub.fresh ?_ (by assumption) | refine Sub.upd ?_ (by (first | assumption | exact nu1 (by assumption) | exact nu2 (by assumption) | exact nu3 (by assumption) | exact nu4 (by assumption) | exact nu5 (by assumption) | exact nu6 (by assumption) | exact nu7 (by assumption) | exact none_put (by assumption) (by assumption) | exact none_put (by assumption) (nu1 (by assumption)) | exact none_put (by assumption) (nu2 (by assumption)) | exact none_put (by assumption) (nu3 (by assumption)) | exact none_put (by assumption) (nu4 (by assumption)) | exact none_put (by assumption) (nu5 (by assumption))))))) ⟨by first | rfl | (simp [resV, *]; done), rfl⟩
      | false =>
        rw [hdup] at C
        clear hd
        (repeat' (first | with_reducible refine ARun.seq ?_ | with_reducible refine ARun.block ?_ | with_reducible refine ARun.inBlock ?_ | with_reducible refine ARun.skip ?_ | with_reducible refine And.intro ?_ ?_ | ((with_reducible refine ARun.region ?_ ?_); · rfl) | with_reducible refine Fresh.go fun _ _ _ => ?_ | ((with_reducible apply ARun.exit); · rfl) | with_reducible refine ARun.ret ?_ | ((with_reducible refine ARun.cond_t ?_ ?_); · rfl) | ((with_reducible refine ARun.cond_f ?_ ?_); · rfl) | ((with_reducible apply ARun.cond) <;> first | intro _ | rfl) | simp (maxDischargeDepth := 9) only [go_sem, *, ↓reduceIte, reduceCtorEq, Nat.reduceEqDiff, Nat.reduceAdd, Nat.reduceLeDiff, Nat.reduceLT, Nat.reduceMul, Int.reduceEq, Int.reduceNe, Int.reduceLE, Int.reduceLT, Int.reduceBEq, Int.reduceBNe, Int.reduceToNat] | with_reducible refine grdO_goT (fun _ => ?_) (fun _ => ?_) | with_reducible refine grdO_goF (fun _ => ?_) (fun _ => ?_) | with_reducible refine grdF_goT (fun _ => ?_) (fun _ => ?_) | with_reducible refine grdF_goF (fun _ => ?_) (fun _ => ?_) | refine Calling.eq (C _) ?_))
        exact ARun.weaken (next.go (i + 1) ⟨by omega, hno.go.succ (range_get hlt) hdup⟩ (by omega)) (AS.le_of (by simp only [List.forall_mem_cons, List.not_mem_nil, false_implies, implies_true, and_true, look_cons, ↓reduceIte, Nat.reduceEqDiff, *] <;> simp) (Sub.refl _))
    · have h1 : decide ((i : Int) < l.length) = false := by simp; omega
      have he : rep l = -1 := fi_end (by simp; omega) hno.go
      rw [he]
      clear next he
      (repeat' (first | with_reducible refine ARun.seq ?_ | with_reducible refine ARun.block ?_ | with_reducible refine ARun.inBlock ?_ | with_reducible refine ARun.skip ?_ | with_reducible refine And.intro ?_ ?_ | ((with_reducible refine ARun.region ?_ ?_); · rfl) | with_reducible refine Fresh.go fun _ _ _ => ?_ | ((with_reducible apply ARun.exit); · rfl) | with_reducible refine ARun.ret ?_ | ((with_reducible refine ARun.cond_t ?_ ?_); · rfl) | ((with_reducible refine ARun.cond_f ?_ ?_); · rfl) | ((with_reducible apply ARun.cond) <;> first | intro _ | rfl) | simp (maxDischargeDepth := 9) only [go_sem, *, ↓reduceIte, reduceCtorEq, Nat.reduceEqDiff, Nat.reduceAdd, Nat.reduceLeDiff, Nat.reduceLT, Nat.reduceMul, Int.reduceEq, Int.reduceNe, Int.reduceLE, Int.reduceLT, Int.reduceBEq, Int.reduceBNe, Int.reduceToNat] | with_reducible refine grdO_goT (fun _ => ?_) (fun _ => ?_) | with_reducible refine grdO_goF (fun _ => ?_) (fun _ => ?_) | with_reducible refine grdF_goT (fun _ => ?_) (fun _ => ?_) | with_reducible refine grdF_goF (fun _ => ?_) (fun _ => ?_)))
      exact Fin.plain (by simp (maxDischargeDepth := 9) only [go_sem, *, ↓reduceIte, reduceCtorEq, Nat.reduceEqDiff, Nat.reduceAdd, Nat.reduceLeDiff, Nat.reduceLT, Nat.reduceMul, Int.reduceEq, Int.reduceNe, Int.reduceLE, Int.reduceLT, Int.reduceBEq, Int.reduceBNe, Int.reduceToNat]; rfl) (by (repeat (first | exact Sub.refl _ | assumption | refine Sub.upd2 ?_ _ _ | refine Sub.fresh ?_ (by assumption) | refine Sub.upd ?_ (by (first | assumption | exact nu1 (by assumption) | exact nu2 (by assumption) | exact nu3 (by assumption) | exact nu4 (by assumption) | exact nu5 (by assumption) | exact nu6 (by assumption) | exact nu7 (by assumption) | exact none_put (by assumption) (by assumption) | exact none_put (by assumption) (nu1 (by assumption)) | exact none_put (by assumption) (nu2 (by assumption)) | exact none_put (by assumption) (nu3 (by assumption)) | exact none_put (by assumption) (nu4 (by assumption)) | exact none_put (by assumption) (nu5 (by assumption))))))) ⟨by first | rfl | (simp [resV, *]; done), rfl⟩
  · exact AS.le_of (by simp only [List.forall_mem_cons, List.not_mem_nil, false_implies, implies_true, and_true, look_cons, ↓reduceIte, Nat.reduceEqDiff, *] <;> simp) (Sub.refl _)
theorem grow_c {n : Nat} (h0 : 0 < n) (hn : n < 1000000) (H : Heap) : AC Tryd.prog 63 [.nils, .s (.int .i64 n)] H (fun r H' => ∃ b, H b = none ∧ r = .rs b 0 0 1 ∧ H' = upd H b (.cells [])) := by
  refine AC.body Tryd.func63 rfl rfl (n := 27) (res := [.tmp 4]) rfl rfl (by simp) ?_
  simp only [ent]
  have e1 : IntKind.i64.wrap (0 - 0) = 0 := rfl
  have e2 : IntKind.i64.wrap ((n : Int) - 0) = n := wi64 (by omega) (by omega)
  have h1 : (0 : Int) < n := by omega
  (repeat' (first | with_reducible refine ARun.seq ?_ | with_reducible refine ARun.block ?_ | with_reducible refine ARun.inBlock ?_ | with_reducible refine ARun.skip ?_ | with_reducible refine And.intro ?_ ?_ | ((with_reducible refine ARun.region ?_ ?_); · rfl) | with_reducible refine Fresh.go fun _ _ _ => ?_ | ((with_reducible apply ARun.exit); · rfl) | with_reducible refine ARun.ret ?_ | ((with_reducible refine ARun.cond_t ?_ ?_); · rfl) | ((with_reducible refine ARun.cond_f ?_ ?_); · rfl) | ((with_reducible apply ARun.cond) <;> first | intro _ | rfl) | simp (maxDischargeDepth := 9) only [go_sem, *, ↓reduceIte, reduceCtorEq, Nat.reduceEqDiff, Nat.reduceAdd, Nat.reduceLeDiff, Nat.reduceLT, Nat.reduceMul, Int.reduceEq, Int.reduceNe, Int.reduceLE, Int.reduceLT, Int.reduceBEq, Int.reduceBNe, Int.reduceToNat] | with_reducible refine grdO_goT (fun _ => ?_) (fun _ => ?_) | with_reducible refine grdO_goF (fun _ => ?_) (fun _ => ?_) | with_reducible refine grdF_goT (fun _ => ?_) (fun _ => ?_) | with_reducible refine grdF_goF (fun _ => ?_) (fun _ => ?_) | refine Doing.eq (oc_cap_nils us22) ?_ | refine Doing.fresh (oc_grow ap22 (kx := .i64) rfl h0 (by decide) (by omega) (by omega)) fun _ _ _ => ?_))
  exact Fin.plain (by simp (maxDischargeDepth := 9) only [go_sem, *, ↓reduceIte, reduceCtorEq, Nat.reduceEqDiff, Nat.reduceAdd, Nat.reduceLeDiff, Nat.reduceLT, Nat.reduceMul, Int.reduceEq, Int.reduceNe, Int.reduceLE, Int.reduceLT, Int.reduceBEq, Int.reduceBNe, Int.reduceToNat]; rfl) (Sub.refl _) ⟨_, by assumption, rfl, rfl⟩
end Go.Abs
