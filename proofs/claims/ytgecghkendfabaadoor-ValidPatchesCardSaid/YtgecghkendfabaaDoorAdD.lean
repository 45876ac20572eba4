import Derived.Test.YtgecghkendfabaaDoorAdC
/- The document's answer about modules: names, texts that stand twice, words. -/
namespace Go.Abs
set_option linter.unusedSimpArgs false
set_option linter.unusedVariables false
open Go.Proofs Go.Nm Go.Wd
set_option linter.unusedVariables false
set_option maxRecDepth 8000
variable {H : Heap}
def Mod.nmI (m : Mod) : Int := if badN m.nm then 0 else if decide (0 ≤ fi badN m.ex) then 1 + fi badN m.ex else if decide (0 ≤ fi badN m.im) then 9 + fi badN m.im else -1
/-- All texts are short. -/
structure Mod.short (m : Mod) : Prop where
  nm : few m.nm
  ex : ∀ s ∈ m.ex, few s
  im : ∀ s ∈ m.im, few s
theorem rnames_c (m : Mod) (hm : m.ok) (hf : m.short) (H : Heap) : AC Tryd.prog 25 [m.tv] H (fun r H' => r = .s (.int .i64 m.nmI) ∧ H' = H) := by
  refine AC.body Tryd.func25 rfl rfl (n := 41) (res := [.tmp 2]) rfl rfl (by simp) ?_
  simp only [ent]
  simp only [Mod.tv_def]
  have hlex := hm.lex
  have hlim := hm.lim
  have hexs := later hf.ex
  have hims := later hf.im
  have K := fun H => rCheck_c (H := H) hf.nm
  have ht : m.nmI = if badN m.nm then 0 else if decide (0 ≤ fi badN m.ex) then 1 + fi badN m.ex else if decide (0 ≤ fi badN m.im) then 9 + fi badN m.im else -1 := rfl
  clear hm hf
  cases q0 : badN m.nm with
  | true =>
    rw [q0, if_pos rfl] at ht
    rw [ht]
    have q0' := chk_bad q0
    clear ht q0
    (repeat' (first | with_reducible refine ARun.seq ?_ | with_reducible refine ARun.block ?_ | with_reducible refine ARun.inBlock ?_ | with_reducible refine ARun.skip ?_ | with_reducible refine And.intro ?_ ?_ | ((with_reducible refine ARun.region ?_ ?_); · rfl) | with_reducible refine Fresh.go fun _ _ _ => ?_ | ((with_reducible apply ARun.exit); · rfl) | with_reducible refine ARun.ret ?_ | ((with_reducible refine ARun.cond_t ?_ ?_); · rfl) | ((with_reducible refine ARun.cond_f ?_ ?_); · rfl) | ((with_reducible apply ARun.cond) <;> first | intro _ | rfl) | simp (maxDischargeDepth := 9) only [go_sem, *, ↓reduceIte, reduceCtorEq, Nat.reduceEqDiff, Nat.reduceAdd, Nat.reduceLeDiff, Nat.reduceLT, Nat.reduceMul, Int.reduceEq, Int.reduceNe, Int.reduceLE, Int.reduceLT, Int.reduceBEq, Int.reduceBNe, Int.reduceToNat] | with_reducible refine grdO_goT (fun _ => ?_) (fun _ => ?_) | with_reducible refine grdO_goF (fun _ => ?_) (fun _ => ?_) | with_reducible refine grdF_goT (fun _ => ?_) (fun _ => ?_) | with_reducible refine grdF_goF (fun _ => ?_) (fun _ => ?_) | refine Calling.eq (K _) ?_))
    exact Fin.plain (by simp (maxDischargeDepth := 9) only [go_sem, *, ↓reduceIte, reduceCtorEq, Nat.reduceEqDiff, Nat.reduceAdd, Nat.reduceLeDiff, Nat.reduceLT, Nat.reduceMul, Int.reduceEq, Int.reduceNe, Int.reduceLE, Int.reduceLT, Int.reduceBEq, Int.reduceBNe, Int.reduceToNat]; rfl) (by (repeat (first | exact Sub.refl _ | assumption | refine Sub.upd2 ?_ _ _ | refine Sub.fresh ?_ (by assumption) | refine Sub.upd ?_ (by (first | assumption | exact nu1 (by assumption) | exact nu2 (by assumption) | exact nu3 (by assumption) | exact nu4 (by assumption) | exact nu5 (by assumption) | exact nu6 (by assumption) | exact nu7 (by assumption) | exact none_put (by assumption) (by assumption) | exact none_put (by assumption) (nu1 (by assumption)) | exact none_put (by assumption) (nu2 (by assumption)) | exact none_put (by assumption) (nu3 (by assumption)) | exact none_put (by assumption) (nu4 (by assumption)) | exact none_put (by assumption) (nu5 (by assumption))))))) ⟨by first | rfl | (simp [resV, *]; done), rfl⟩
  | false =>
    rw [q0, if_neg (by decide)] at ht
    have q0' := chk_bad q0
    replace ht := later ht
    clear q0
    (repeat' (first | with_reducible refine ARun.seq ?_ | with_reducible refine ARun.block ?_ | with_reducible refine ARun.inBlock ?_ | with_reducible refine ARun.skip ?_ | with_reducible refine And.intro ?_ ?_ | ((with_reducible refine ARun.region ?_ ?_); · rfl) | with_reducible refine Fresh.go fun _ _ _ => ?_ | ((with_reducible apply ARun.exit); · rfl) | with_reducible refine ARun.ret ?_ | ((with_reducible refine ARun.cond_t ?_ ?_); · rfl) | ((with_reducible refine ARun.cond_f ?_ ?_); · rfl) | ((with_reducible apply ARun.cond) <;> first | intro _ | rfl) | simp (maxDischargeDepth := 9) only [go_sem, *, ↓reduceIte, reduceCtorEq, Nat.reduceEqDiff, Nat.reduceAdd, Nat.reduceLeDiff, Nat.reduceLT, Nat.reduceMul, Int.reduceEq, Int.reduceNe, Int.reduceLE, Int.reduceLT, Int.reduceBEq, Int.reduceBNe, Int.reduceToNat] | with_reducible refine grdO_goT (fun _ => ?_) (fun _ => ?_) | with_reducible refine grdO_goF (fun _ => ?_) (fun _ => ?_) | with_reducible refine grdF_goT (fun _ => ?_) (fun _ => ?_) | with_reducible refine grdF_goF (fun _ => ?_) (fun _ => ?_)))
    rename_i v hv hvn
    (repeat' (first | with_reducible refine ARun.seq ?_ | with_reducible refine ARun.block ?_ | with_reducible refine ARun.inBlock ?_ | with_reducible refine ARun.skip ?_ | with_reducible refine And.intro ?_ ?_ | ((with_reducible refine ARun.region ?_ ?_); · rfl) | with_reducible refine Fresh.go fun _ _ _ => ?_ | ((with_reducible apply ARun.exit); · rfl) | with_reducible refine ARun.ret ?_ | ((with_reducible refine ARun.cond_t ?_ ?_); · rfl) | ((with_reducible refine ARun.cond_f ?_ ?_); · rfl) | ((with_reducible apply ARun.cond) <;> first | intro _ | rfl) | simp (maxDischargeDepth := 9) only [go_sem, *, ↓reduceIte, reduceCtorEq, Nat.reduceEqDiff, Nat.reduceAdd, Nat.reduceLeDiff, Nat.reduceLT, Nat.reduceMul, Int.reduceEq, Int.reduceNe, Int.reduceLE, Int.reduceLT, Int.reduceBEq, Int.reduceBNe, Int.reduceToNat] | with_reducible refine grdO_goT (fun _ => ?_) (fun _ => ?_) | with_reducible refine grdO_goF (fun _ => ?_) (fun _ => ?_) | with_reducible refine grdF_goT (fun _ => ?_) (fun _ => ?_) | with_reducible refine grdF_goF (fun _ => ?_) (fun _ => ?_) | refine Calling.eq (K _) ?_))
    clear K q0'
    refine ARun.rounds (fun i : Nat => ⟨[(1, .s (.pointer (some ⟨v, 0, none⟩))), (3, .s (.int .i64 i))], upd H v (.cells [.s (.string m.nm), .vs 1 (m.ex.map s1), .vs 1 (m.im.map s1), .vs 1 (m.co.map u1), .vs 1 (m.da.map u1), .vs 3 (m.re.map relE)])⟩) (fun i => m.ex.length - i) (fun i => i ≤ m.ex.length ∧ noneB badN m.ex i) ?_ 0 ⟨by omega, .zero⟩ ?_
    · rintro i ⟨hi, hno⟩ next
      replace hno := later hno
      by_cases hlt : i < m.ex.length
      · have h1 : (i : Int) < m.ex.length := by omega
        have h2 : (0 : Int) ≤ i := by omega
        obtain ⟨x, hx⟩ := at_ hlt
        have hx1 := vget s1 hx
        rw [s1_def] at hx1
        have hw := w64s (i := i) (by omega)
        have K := fun H => rCheck_c (H := H) (hexs.go x (List.mem_of_getElem? hx))
        cases hb : badN x with
        | true =>
          have hb' := chk_bad hb
          have hf := fi_some hx hb hno.go
          have ht' : m.nmI = ((i + 1 : Nat) : Int) := by rw [ht.go, hf, if_pos (by simp)]; omega
          have hw2 : IntKind.i64.wrap (1 + (i : Int)) = ((i + 1 : Nat) : Int) := by rw [Int.add_comm]; exact hw
          rw [ht']
          clear hx next hf ht' hb
          (repeat' (first | with_reducible refine ARun.seq ?_ | with_reducible refine ARun.block ?_ | with_reducible refine ARun.inBlock ?_ | with_reducible refine ARun.skip ?_ | with_reducible refine And.intro ?_ ?_ | ((with_reducible refine ARun.region ?_ ?_); · rfl) | with_reducible refine Fresh.go fun _ _ _ => ?_ | ((with_reducible apply ARun.exit); · rfl) | with_reducible refine ARun.ret ?_ | ((with_reducible refine ARun.cond_t ?_ ?_); · rfl) | ((with_reducible refine ARun.cond_f ?_ ?_); · rfl) | ((with_reducible apply ARun.cond) <;> first | intro _ | rfl) | simp (maxDischargeDepth := 9) only [go_sem, *, ↓reduceIte, reduceCtorEq, Nat.reduceEqDiff, Nat.reduceAdd, Nat.reduceLeDiff, Nat.reduceLT, Nat.reduceMul, Int.reduceEq, Int.reduceNe, Int.reduceLE, Int.reduceLT, Int.reduceBEq, Int.reduceBNe, Int.reduceToNat] | with_reducible refine grdO_goT (fun _ => ?_) (fun _ => ?_) | with_reducible refine grdO_goF (fun _ => ?_) (fun _ => ?_) | with_reducible refine grdF_goT (fun _ => ?_) (fun _ => ?_) | with_reducible refine grdF_goF (fun _ => ?_) (fun _ => ?_) | refine Calling.eq (K _) ?_))
          exact Fin.plain (by simp (maxDischargeDepth := 9) only [go_sem, *, ↓reduceIte, reduceCtorEq, Nat.reduceEqDiff, Nat.reduceAdd, Nat.reduceLeDiff, Nat.reduceLT, Nat.reduceMul, Int.reduceEq, Int.reduceNe, Int.reduceLE, Int.reduceLT, Int.reduceBEq, Int.reduceBNe, Int.reduceToNat]; rfl) (by (repeat (first | exact Sub.refl _ | assumption | refine Sub.upd2 ?_ _ _ | refine Sub.fresh ?_ (by assumption) | refine Sub.upd ?_ (by (first | assumption | exact nu1 (by assumption) | exact nu2 (by assumption) | exact nu3 (by assumption) | exact nu4 (by assumption) | exact nu5 (by assumption) | exact nu6 (by assumption) | exact nu7 (by assumption) | exact none_put (by assumption) (by assumption) | exact none_put (by assumption) (nu1 (by assumption)) | exact none_put (by assumption) (nu2 (by assumption)) | exact none_put (by assumption) (nu3 (by assumption)) | exact none_put (by assumption) (nu4 (by assumption)) | exact none_put (by assumption) (nu5 (by assumption))))))) ⟨by first | rfl | (simp [resV, *]; done), rfl⟩
        | false =>
          have hb' := chk_bad hb
          have nx := next.go (i + 1) ⟨by omega, hno.go.succ hx hb⟩ (by omega)
          clear hx next hb
          (repeat' (first | with_reducible refine ARun.seq ?_ | with_reducible refine ARun.block ?_ | with_reducible refine ARun.inBlock ?_ | with_reducible refine ARun.skip ?_ | with_reducible refine And.intro ?_ ?_ | ((with_reducible refine ARun.region ?_ ?_); · rfl) | with_reducible refine Fresh.go fun _ _ _ => ?_ | ((with_reducible apply ARun.exit); · rfl) | with_reducible refine ARun.ret ?_ | ((with_reducible refine ARun.cond_t ?_ ?_); · rfl) | ((with_reducible refine ARun.cond_f ?_ ?_); · rfl) | ((with_reducible apply ARun.cond) <;> first | intro _ | rfl) | simp (maxDischargeDepth := 9) only [go_sem, *, ↓reduceIte, reduceCtorEq, Nat.reduceEqDiff, Nat.reduceAdd, Nat.reduceLeDiff, Nat.reduceLT, Nat.reduceMul, Int.reduceEq, Int.reduceNe, Int.reduceLE, Int.reduceLT, Int.reduceBEq, Int.reduceBNe, Int.reduceToNat] | with_reducible refine grdO_goT (fun _ => ?_) (fun _ => ?_) | with_reducible refine grdO_goF (fun _ => ?_) (fun _ => ?_) | with_reducible refine grdF_goT (fun _ => ?_) (fun _ => ?_) | with_reducible refine grdF_goF (fun _ => ?_) (fun _ => ?_) | refine Calling.eq (K _) ?_))
          exact ARun.weaken nx (AS.le_of (by simp only [List.forall_mem_cons, List.not_mem_nil, false_implies, implies_true, and_true, look_cons, ↓reduceIte, Nat.reduceEqDiff, *] <;> simp) (Sub.refl _))
      · have h1 : decide ((i : Int) < m.ex.length) = false := by simp; omega
        have hA1 : fi badN m.ex = -1 := fi_end (by omega) hno.go
        replace ht := ht.go
        rw [hA1, if_neg (by decide)] at ht
        replace ht := later ht
        clear next hA1
        (repeat' (first | with_reducible refine ARun.seq ?_ | with_reducible refine ARun.block ?_ | with_reducible refine ARun.inBlock ?_ | with_reducible refine ARun.skip ?_ | with_reducible refine And.intro ?_ ?_ | ((with_reducible refine ARun.region ?_ ?_); · rfl) | with_reducible refine Fresh.go fun _ _ _ => ?_ | ((with_reducible apply ARun.exit); · rfl) | with_reducible refine ARun.ret ?_ | ((with_reducible refine ARun.cond_t ?_ ?_); · rfl) | ((with_reducible refine ARun.cond_f ?_ ?_); · rfl) | ((with_reducible apply ARun.cond) <;> first | intro _ | rfl) | simp (maxDischargeDepth := 9) only [go_sem, *, ↓reduceIte, reduceCtorEq, Nat.reduceEqDiff, Nat.reduceAdd, Nat.reduceLeDiff, Nat.reduceLT, Nat.reduceMul, Int.reduceEq, Int.reduceNe, Int.reduceLE, Int.reduceLT, Int.reduceBEq, Int.reduceBNe, Int.reduceToNat] | with_reducible refine grdO_goT (fun _ => ?_) (fun _ => ?_) | with_reducible refine grdO_goF (fun _ => ?_) (fun _ => ?_) | with_reducible refine grdF_goT (fun _ => ?_) (fun _ => ?_) | with_reducible refine grdF_goF (fun _ => ?_) (fun _ => ?_)))
        refine ARun.rounds (fun i : Nat => ⟨[(1, .s (.pointer (some ⟨v, 0, none⟩))), (4, .s (.int .i64 i))], upd H v (.cells [.s (.string m.nm), .vs 1 (m.ex.map s1), .vs 1 (m.im.map s1), .vs 1 (m.co.map u1), .vs 1 (m.da.map u1), .vs 3 (m.re.map relE)])⟩) (fun i => m.im.length - i) (fun i => i ≤ m.im.length ∧ noneB badN m.im i) ?_ 0 ⟨by omega, .zero⟩ ?_
        · rintro i ⟨hi, hno⟩ next
          replace hno := later hno
          clear h1
          by_cases hlt : i < m.im.length
          · have h1 : (i : Int) < m.im.length := by omega
            have h2 : (0 : Int) ≤ i := by omega
            obtain ⟨x, hx⟩ := at_ hlt
            have hx1 := vget s1 hx
            rw [s1_def] at hx1
            have hw := w64s (i := i) (by omega)
            have K := fun H => rCheck_c (H := H) (hims.go x (List.mem_of_getElem? hx))
            cases hb : badN x with
            | true =>
              have hb' := chk_bad hb
              have hf := fi_some hx hb hno.go
              have ht' : m.nmI = ((i + 9 : Nat) : Int) := by rw [ht.go, hf, if_pos (by simp)]; omega
              have hw2 : IntKind.i64.wrap (9 + (i : Int)) = ((i + 9 : Nat) : Int) := by rw [wi64 (by omega) (by omega)]; omega
              rw [ht']
              clear hx next hf ht' hb
              (repeat' (first | with_reducible refine ARun.seq ?_ | with_reducible refine ARun.block ?_ | with_reducible refine ARun.inBlock ?_ | with_reducible refine ARun.skip ?_ | with_reducible refine And.intro ?_ ?_ | ((with_reducible refine ARun.region ?_ ?_); · rfl) | with_reducible refine Fresh.go fun _ _ _ => ?_ | ((with_reducible apply ARun.exit); · rfl) | with_reducible refine ARun.ret ?_ | ((with_reducible refine ARun.cond_t ?_ ?_); · rfl) | ((with_reducible refine ARun.cond_f ?_ ?_); · rfl) | ((with_reducible apply ARun.cond) <;> first | intro _ | rfl) | simp (maxDischargeDepth := 9) only [go_sem, *, ↓reduceIte, reduceCtorEq, Nat.reduceEqDiff, Nat.reduceAdd, Nat.reduceLeDiff, Nat.reduceLT, Nat.reduceMul, Int.reduceEq, Int.reduceNe, Int.reduceLE, Int.reduceLT, Int.reduceBEq, Int.reduceBNe, Int.reduceToNat] | with_reducible refine grdO_goT (fun _ => ?_) (fun _ => ?_) | with_reducible refine grdO_goF (fun _ => ?_) (fun _ => ?_) | with_reducible refine grdF_goT (fun _ => ?_) (fun _ => ?_) | with_reducible refine grdF_goF (fun _ => ?_) (fun _ => ?_) | refine Calling.eq (K _) ?_))
              exact Fin.plain (by simp (maxDischargeDepth := 9) only [go_sem, *, ↓reduceIte, reduceCtorEq, Nat.reduceEqDiff, Nat.reduceAdd, Nat.reduceLeDiff, Nat.reduceLT, Nat.reduceMul, Int.reduceEq, Int.reduceNe, Int.reduceLE, Int.reduceLT, Int.reduceBEq, Int.reduceBNe, Int.reduceToNat]; rfl) (by (repeat (first | exact Sub.refl _ | assumption | refine Sub.upd2 ?_ _ _ | refine Sub.fresh ?_ (by assumption) | refine Sub.upd ?_ (by (first | assumption | exact nu1 (by assumption) | exact nu2 (by assumption) | exact nu3 (by assumption) | exact nu4 (by assumption) | exact nu5 (by assumption) | exact nu6 (by assumption) | exact nu7 (by assumption) | exact none_put (by assumption) (by assumption) | exact none_put (by assumption) (nu1 (by assumption)) | exact none_put (by assumption) (nu2 (by assumption)) | exact none_put (by assumption) (nu3 (by assumption)) | exact none_put (by assumption) (nu4 (by assumption)) | exact none_put (by assumption) (nu5 (by assumption))))))) ⟨by first | rfl | (simp [resV, *]; done), rfl⟩
            | false =>
              have hb' := chk_bad hb
              have nx := next.go (i + 1) ⟨by omega, hno.go.succ hx hb⟩ (by omega)
              clear hx next hb
              (repeat' (first | with_reducible refine ARun.seq ?_ | with_reducible refine ARun.block ?_ | with_reducible refine ARun.inBlock ?_ | with_reducible refine ARun.skip ?_ | with_reducible refine And.intro ?_ ?_ | ((with_reducible refine ARun.region ?_ ?_); · rfl) | with_reducible refine Fresh.go fun _ _ _ => ?_ | ((with_reducible apply ARun.exit); · rfl) | with_reducible refine ARun.ret ?_ | ((with_reducible refine ARun.cond_t ?_ ?_); · rfl) | ((with_reducible refine ARun.cond_f ?_ ?_); · rfl) | ((with_reducible apply ARun.cond) <;> first | intro _ | rfl) | simp (maxDischargeDepth := 9) only [go_sem, *, ↓reduceIte, reduceCtorEq, Nat.reduceEqDiff, Nat.reduceAdd, Nat.reduceLeDiff, Nat.reduceLT, Nat.reduceMul, Int.reduceEq, Int.reduceNe, Int.reduceLE, Int.reduceLT, Int.reduceBEq, Int.reduceBNe, Int.reduceToNat] | with_reducible refine grdO_goT (fun _ => ?_) (fun _ => ?_) | with_reducible refine grdO_goF (fun _ => ?_) (fun _ => ?_) | with_reducible refine grdF_goT (fun _ => ?_) (fun _ => ?_) | with_reducible refine grdF_goF (fun _ => ?_) (fun _ => ?_) | refine Calling.eq (K _) ?_))
              exact ARun.weaken nx (AS.le_of (by simp only [List.forall_mem_cons, List.not_mem_nil, false_implies, implies_true, and_true, look_cons, ↓reduceIte, Nat.reduceEqDiff, *] <;> simp) (Sub.refl _))
          · have h1 : decide ((i : Int) < m.im.length) = false := by simp; omega
            have hA1 : fi badN m.im = -1 := fi_end (by omega) hno.go
            have ht' : m.nmI = -1 := by rw [ht.go, hA1]; rfl
            rw [ht']
            clear next hA1 ht'
            (repeat' (first | with_reducible refine ARun.seq ?_ | with_reducible refine ARun.block ?_ | with_reducible refine ARun.inBlock ?_ | with_reducible refine ARun.skip ?_ | with_reducible refine And.intro ?_ ?_ | ((with_reducible refine ARun.region ?_ ?_); · rfl) | with_reducible refine Fresh.go fun _ _ _ => ?_ | ((with_reducible apply ARun.exit); · rfl) | with_reducible refine ARun.ret ?_ | ((with_reducible refine ARun.cond_t ?_ ?_); · rfl) | ((with_reducible refine ARun.cond_f ?_ ?_); · rfl) | ((with_reducible apply ARun.cond) <;> first | intro _ | rfl) | simp (maxDischargeDepth := 9) only [go_sem, *, ↓reduceIte, reduceCtorEq, Nat.reduceEqDiff, Nat.reduceAdd, Nat.reduceLeDiff, Nat.reduceLT, Nat.reduceMul, Int.reduceEq, Int.reduceNe, Int.reduceLE, Int.reduceLT, Int.reduceBEq, Int.reduceBNe, Int.reduceToNat] | with_reducible refine grdO_goT (fun _ => ?_) (fun _ => ?_) | with_reducible refine grdO_goF (fun _ => ?_) (fun _ => ?_) | with_reducible refine grdF_goT (fun _ => ?_) (fun _ => ?_) | with_reducible refine grdF_goF (fun _ => ?_) (fun _ => ?_)))
            exact Fin.plain (by simp (maxDischargeDepth := 9) only [go_sem, *, ↓reduceIte, reduceCtorEq, Nat.reduceEqDiff, Nat.reduceAdd, Nat.reduceLeDiff, Nat.reduceLT, Nat.reduceMul, Int.reduceEq, Int.reduceNe, Int.reduceLE, Int.reduceLT, Int.reduceBEq, Int.reduceBNe, Int.reduceToNat]; rfl) (by (repeat (first | exact Sub.refl _ | assumption | refine Sub.upd2 ?_ _ _ | refine Sub.fresh ?_ (by assumption) | refine Sub.upd ?_ (by (first | assumption | exact nu1 (by assumption) | exact nu2 (by assumption) | exact nu3 (by assumption) | exact nu4 (by assumption) | exact nu5 (by assumption) | exact nu6 (by assumption) | exact nu7 (by assumption) | exact none_put (by assumption) (by assumption) | exact none_put (by assumption) (nu1 (by assumption)) | exact none_put (by assumption) (nu2 (by assumption)) | exact none_put (by assumption) (nu3 (by assumption)) | exact none_put (by assumption) (nu4 (by assumption)) | exact none_put (by assumption) (nu5 (by assumption))))))) ⟨by first | rfl | (simp [resV, *]; done), rfl⟩
        · exact AS.le_of (by simp only [List.forall_mem_cons, List.not_mem_nil, false_implies, implies_true, and_true, look_cons, ↓reduceIte, Nat.reduceEqDiff, *] <;> simp) (Sub.refl _)
    · exact AS.le_of (by simp only [List.forall_mem_cons, List.not_mem_nil, false_implies, implies_true, and_true, look_cons, ↓reduceIte, Nat.reduceEqDiff, *] <;> simp) (Sub.refl _)
theorem dup_yes {l : List ByteArray} {i k : Nat} {x y : ByteArray} (hx : l[i]? = some x) (hk : k < i) (hy : l[k]? = some y) (h : (x.toList == y.toList) = true) (hn : noneB (fun y => x.toList == y.toList) l k) : dup l i = true := by
  unfold dup
  rw [hx]
  have : fi (fun y => x.toList == y.toList) (l.take i) = k := fi_some (x := y) (by rw [List.getElem?_take_of_lt hk]; exact hy) h (fun j z hj hz => hn j z hj (by rw [List.getElem?_take_of_lt (by omega)] at hz; exact hz))
  simp only [this]; simp
theorem dup_no {l : List ByteArray} {i : Nat} {x : ByteArray} (hx : l[i]? = some x) (hn : noneB (fun y => x.toList == y.toList) l i) : dup l i = false := by
  unfold dup
  rw [hx]
  have : fi (fun y => x.toList == y.toList) (l.take i) = -1 := fi_end (i := i) (by rw [List.length_take]; omega) (fun j z hj hz => hn j z hj (by rw [List.getElem?_take_of_lt (by omega)] at hz; exact hz))
  simp only [this]; rfl
theorem ragain_c (l : List ByteArray) (hl : l.length < 4611686018427387904) (H : Heap) : AC Tryd.prog 54 [.vs 1 (l.map s1)] H (fun r H' => r = .s (.int .i64 (rep l)) ∧ H' = H) := by
  refine AC.body Tryd.func54 rfl rfl (n := 26) (res := [.tmp 2]) rfl rfl (by simp) ?_
  simp only [ent]
  (repeat' (first | with_reducible refine ARun.seq ?_ | with_reducible refine ARun.block ?_ | with_reducible refine ARun.inBlock ?_ | with_reducible refine ARun.skip ?_ | with_reducible refine And.intro ?_ ?_ | ((with_reducible refine ARun.region ?_ ?_); · rfl) | with_reducible refine Fresh.go fun _ _ _ => ?_ | ((with_reducible apply ARun.exit); · rfl) | with_reducible refine ARun.ret ?_ | ((with_reducible refine ARun.cond_t ?_ ?_); · rfl) | ((with_reducible refine ARun.cond_f ?_ ?_); · rfl) | ((with_reducible apply ARun.cond) <;> first | intro _ | rfl) | simp (maxDischargeDepth := 9) only [go_sem, *, ↓reduceIte, reduceCtorEq, Nat.reduceEqDiff, Nat.reduceAdd, Nat.reduceLeDiff, Nat.reduceLT, Nat.reduceMul, Int.reduceEq, Int.reduceNe, Int.reduceLE, Int.reduceLT, Int.reduceBEq, Int.reduceBNe, Int.reduceToNat] | with_reducible refine grdO_goT (fun _ => ?_) (fun _ => ?_) | with_reducible refine grdO_goF (fun _ => ?_) (fun _ => ?_) | with_reducible refine grdF_goT (fun _ => ?_) (fun _ => ?_) | with_reducible refine grdF_goF (fun _ => ?_) (fun _ => ?_)))
  refine ARun.rounds (fun i : Nat => ⟨[(0, .vs 1 (l.map s1)), (3, .s (.int .i64 i))], H⟩) (fun i => l.length - i) (fun i => i ≤ l.length ∧ noneB (dup l) (List.range l.length) i) ?_ 0 ⟨by omega, .zero⟩ ?_
  · rintro i ⟨hi, hno⟩ next
    replace hno := later hno
    by_cases hlt : i < l.length
    · have h1 : (i : Int) < l.length := by omega
      have h2 : (0 : Int) ≤ i := by omega
      obtain ⟨x, hx⟩ := at_ hlt
      have hx1 := vget s1 hx
      rw [s1_def] at hx1
      have hw := w64s (i := i) (by omega)
      replace hx := later hx
      (repeat' (first | with_reducible refine ARun.seq ?_ | with_reducible refine ARun.block ?_ | with_reducible refine ARun.inBlock ?_ | with_reducible refine ARun.skip ?_ | with_reducible refine And.intro ?_ ?_ | ((with_reducible refine ARun.region ?_ ?_); · rfl) | with_reducible refine Fresh.go fun _ _ _ => ?_ | ((with_reducible apply ARun.exit); · rfl) | with_reducible refine ARun.ret ?_ | ((with_reducible refine ARun.cond_t ?_ ?_); · rfl) | ((with_reducible refine ARun.cond_f ?_ ?_); · rfl) | ((with_reducible apply ARun.cond) <;> first | intro _ | rfl) | simp (maxDischargeDepth := 9) only [go_sem, *, ↓reduceIte, reduceCtorEq, Nat.reduceEqDiff, Nat.reduceAdd, Nat.reduceLeDiff, Nat.reduceLT, Nat.reduceMul, Int.reduceEq, Int.reduceNe, Int.reduceLE, Int.reduceLT, Int.reduceBEq, Int.reduceBNe, Int.reduceToNat] | with_reducible refine grdO_goT (fun _ => ?_) (fun _ => ?_) | with_reducible refine grdO_goF (fun _ => ?_) (fun _ => ?_) | with_reducible refine grdF_goT (fun _ => ?_) (fun _ => ?_) | with_reducible refine grdF_goF (fun _ => ?_) (fun _ => ?_)))
      refine ARun.rounds (fun k : Nat => ⟨[(0, .vs 1 (l.map s1)), (3, .s (.int .i64 i)), (4, .s (.int .i64 k))], H⟩) (fun k => i - k) (fun k => k ≤ i ∧ noneB (fun y => x.toList == y.toList) l k) ?_ 0 ⟨by omega, .zero⟩ ?_
      · rintro k ⟨hk, hnk⟩ nextk
        replace hnk := later hnk
        by_cases hkl : k < i
        · have g1 : (k : Int) < i := by omega
          have g2 : (0 : Int) ≤ k := by omega
          have g3 : (k : Int) < l.length := by omega
          obtain ⟨y, hy⟩ := at_ (show k < l.length by omega)
          have hy1 := vget s1 hy
          rw [s1_def] at hy1
          have hw2 := w64s (i := k) (by omega)
          cases hb : (x.toList == y.toList) with
          | true =>
            have hd := dup_yes hx.go hkl hy hb hnk.go
            rw [rep_some hlt hd hno.go]
            clear hd next nextk hy
            (repeat' (first | with_reducible refine ARun.seq ?_ | with_reducible refine ARun.block ?_ | with_reducible refine ARun.inBlock ?_ | with_reducible refine ARun.skip ?_ | with_reducible refine And.intro ?_ ?_ | ((with_reducible refine ARun.region ?_ ?_); · rfl) | with_reducible refine Fresh.go fun _ _ _ => ?_ | ((with_reducible apply ARun.exit); · rfl) | with_reducible refine ARun.ret ?_ | ((with_reducible refine ARun.cond_t ?_ ?_); · rfl) | ((with_reducible refine ARun.cond_f ?_ ?_); · rfl) | ((with_reducible apply ARun.cond) <;> first | intro _ | rfl) | simp (maxDischargeDepth := 9) only [go_sem, *, ↓reduceIte, reduceCtorEq, Nat.reduceEqDiff, Nat.reduceAdd, Nat.reduceLeDiff, Nat.reduceLT, Nat.reduceMul, Int.reduceEq, Int.reduceNe, Int.reduceLE, Int.reduceLT, Int.reduceBEq, Int.reduceBNe, Int.reduceToNat] | with_reducible refine grdO_goT (fun _ => ?_) (fun _ => ?_) | with_reducible refine grdO_goF (fun _ => ?_) (fun _ => ?_) | with_reducible refine grdF_goT (fun _ => ?_) (fun _ => ?_) | with_reducible refine grdF_goF (fun _ => ?_) (fun _ => ?_)))
            refine ARun.drawB mixed [([], [0, 1, 2, 3, 4, 5, 6, 7, 8], none)] (by kernel_rfl) (by rfl) ?_
            (repeat' (first | with_reducible refine ARun.seq ?_ | with_reducible refine ARun.block ?_ | with_reducible refine ARun.inBlock ?_ | with_reducible refine ARun.skip ?_ | with_reducible refine And.intro ?_ ?_ | ((with_reducible refine ARun.region ?_ ?_); · rfl) | with_reducible refine Fresh.go fun _ _ _ => ?_ | ((with_reducible apply ARun.exit); · rfl) | with_reducible refine ARun.ret ?_ | ((with_reducible refine ARun.cond_t ?_ ?_); · rfl) | ((with_reducible refine ARun.cond_f ?_ ?_); · rfl) | ((with_reducible apply ARun.cond) <;> first | intro _ | rfl) | simp (maxDischargeDepth := 9) only [go_sem, *, ↓reduceIte, reduceCtorEq, Nat.reduceEqDiff, Nat.reduceAdd, Nat.reduceLeDiff, Nat.reduceLT, Nat.reduceMul, Int.reduceEq, Int.reduceNe, Int.reduceLE, Int.reduceLT, Int.reduceBEq, Int.reduceBNe, Int.reduceToNat] | with_reducible refine grdO_goT (fun _ => ?_) (fun _ => ?_) | with_reducible refine grdO_goF (fun _ => ?_) (fun _ => ?_) | with_reducible refine grdF_goT (fun _ => ?_) (fun _ => ?_) | with_reducible refine grdF_goF (fun _ => ?_) (fun _ => ?_)))
            exact Fin.plain (by simp (maxDischargeDepth := 9) only [go_sem, *, ↓reduceIte, reduceCtorEq, Nat.reduceEqDiff, Nat.reduceAdd, Nat.reduceLeDiff, Nat.reduceLT, Nat.reduceMul, Int.reduceEq, Int.reduceNe, Int.reduceLE, Int.reduceLT, Int.reduceBEq, Int.reduceBNe, Int.reduceToNat]; rfl) (by (repeat (first | exact Sub.refl _ | assumption | refine Sub.upd2 ?_ _ _ | refine Sub.fresh ?_ (by assumption) | refine Sub.upd ?_ (by (first | assumption | exact nu1 (by assumption) | exact nu2 (by assumption) | exact nu3 (by assumption) | exact nu4 (by assumption) | exact nu5 (by assumption) | exact nu6 (by assumption) | exact nu7 (by assumption) | exact none_put (by assumption) (by assumption) | exact none_put (by assumption) (nu1 (by assumption)) | exact none_put (by assumption) (nu2 (by assumption)) | exact none_put (by assumption) (nu3 (by assumption)) | exact none_put (by assumption) (nu4 (by assumption)) | exact none_put (by assumption) (nu5 (by assumption))))))) ⟨by first | rfl | (simp [resV, *]; done), rfl⟩
          | false =>
            have nx := nextk.go (k + 1) ⟨by omega, hnk.go.succ hy hb⟩ (by omega)
            clear next nextk hy
            (repeat' (first | with_reducible refine ARun.seq ?_ | with_reducible refine ARun.block ?_ | with_reducible refine ARun.inBlock ?_ | with_reducible refine ARun.skip ?_ | with_reducible refine And.intro ?_ ?_ | ((with_reducible refine ARun.region ?_ ?_); · rfl) | with_reducible refine Fresh.go fun _ _ _ => ?_ | ((with_reducible apply ARun.exit); · rfl) | with_reducible refine ARun.ret ?_ | ((with_reducible refine ARun.cond_t ?_ ?_); · rfl) | ((with_reducible refine ARun.cond_f ?_ ?_); · rfl) | ((with_reducible apply ARun.cond) <;> first | intro _ | rfl) | simp (maxDischargeDepth := 9) only [go_sem, *, ↓reduceIte, reduceCtorEq, Nat.reduceEqDiff, Nat.reduceAdd, Nat.reduceLeDiff, Nat.reduceLT, Nat.reduceMul, Int.reduceEq, Int.reduceNe, Int.reduceLE, Int.reduceLT, Int.reduceBEq, Int.reduceBNe, Int.reduceToNat] | with_reducible refine grdO_goT (fun _ => ?_) (fun _ => ?_) | with_reducible refine grdO_goF (fun _ => ?_) (fun _ => ?_) | with_reducible refine grdF_goT (fun _ => ?_) (fun _ => ?_) | with_reducible refine grdF_goF (fun _ => ?_) (fun _ => ?_)))
            refine ARun.drawB mixed [([], [0, 1, 2, 3, 4, 5, 6, 7, 8], none)] (by kernel_rfl) (by rfl) ?_
            (repeat' (first | with_reducible refine ARun.seq ?_ | with_reducible refine ARun.block ?_ | with_reducible refine ARun.inBlock ?_ | with_reducible refine ARun.skip ?_ | with_reducible refine And.intro ?_ ?_ | ((with_reducible refine ARun.region ?_ ?_); · rfl) | with_reducible refine Fresh.go fun _ _ _ => ?_ | ((with_reducible apply ARun.exit); · rfl) | with_reducible refine ARun.ret ?_ | ((with_reducible refine ARun.cond_t ?_ ?_); · rfl) | ((with_reducible refine ARun.cond_f ?_ ?_); · rfl) | ((with_reducible apply ARun.cond) <;> first | intro _ | rfl) | simp (maxDischargeDepth := 9) only [go_sem, *, ↓reduceIte, reduceCtorEq, Nat.reduceEqDiff, Nat.reduceAdd, Nat.reduceLeDiff, Nat.reduceLT, Nat.reduceMul, Int.reduceEq, Int.reduceNe, Int.reduceLE, Int.reduceLT, Int.reduceBEq, Int.reduceBNe, Int.reduceToNat] | with_reducible refine grdO_goT (fun _ => ?_) (fun _ => ?_) | with_reducible refine grdO_goF (fun _ => ?_) (fun _ => ?_) | with_reducible refine grdF_goT (fun _ => ?_) (fun _ => ?_) | with_reducible refine grdF_goF (fun _ => ?_) (fun _ => ?_)))
            exact ARun.weaken nx (AS.le_of (by simp only [List.forall_mem_cons, List.not_mem_nil, false_implies, implies_true, and_true, look_cons, ↓reduceIte, Nat.reduceEqDiff, *] <;> simp) (Sub.refl _))
        · have g1 : decide ((k : Int) < i) = false := by simp; omega
          obtain rfl : k = i := by omega
          have hd := dup_no hx.go hnk.go
          have nx := next.go (k + 1) ⟨by omega, hno.go.succ (range_get hlt) hd⟩ (by omega)
          clear next nextk hd
          (repeat' (first | with_reducible refine ARun.seq ?_ | with_reducible refine ARun.block ?_ | with_reducible refine ARun.inBlock ?_ | with_reducible refine ARun.skip ?_ | with_reducible refine And.intro ?_ ?_ | ((with_reducible refine ARun.region ?_ ?_); · rfl) | with_reducible refine Fresh.go fun _ _ _ => ?_ | ((with_reducible apply ARun.exit); · rfl) | with_reducible refine ARun.ret ?_ | ((with_reducible refine ARun.cond_t ?_ ?_); · rfl) | ((with_reducible refine ARun.cond_f ?_ ?_); · rfl) | ((with_reducible apply ARun.cond) <;> first | intro _ | rfl) | simp (maxDischargeDepth := 9) only [go_sem, *, ↓reduceIte, reduceCtorEq, Nat.reduceEqDiff, Nat.reduceAdd, Nat.reduceLeDiff, Nat.reduceLT, Nat.reduceMul, Int.reduceEq, Int.reduceNe, Int.reduceLE, Int.reduceLT, Int.reduceBEq, Int.reduceBNe, Int.reduceToNat] | with_reducible refine grdO_goT (fun _ => ?_) (fun _ => ?_) | with_reducible refine grdO_goF (fun _ => ?_) (fun _ => ?_) | with_reducible refine grdF_goT (fun _ => ?_) (fun _ => ?_) | with_reducible refine grdF_goF (fun _ => ?_) (fun _ => ?_)))
          exact ARun.weaken nx (AS.le_of (by simp only [List.forall_mem_cons, List.not_mem_nil, false_implies, implies_true, and_true, look_cons, ↓reduceIte, Nat.reduceEqDiff, *] <;> simp) (Sub.refl _))
      · exact AS.le_of (by simp only [List.forall_mem_cons, List.not_mem_nil, false_implies, implies_true, and_true, look_cons, ↓reduceIte, Nat.reduceEqDiff, *] <;> simp) (Sub.refl _)
    · have h1 : decide ((i : Int) < l.length) = false := by simp; omega
      have he : rep l = -1 := fi_end (by simp; omega) hno.go
      rw [he]
      clear next he
      (repeat' (first | with_reducible refine ARun.seq ?_ | with_reducible refine ARun.block ?_ | with_reducible refine ARun.inBlock ?_ | with_reducible refine ARun.skip ?_ | with_reducible refine And.intro ?_ ?_ | ((with_reducible refine ARun.region ?_ ?_); · rfl) | with_reducible refine Fresh.go fun _ _ _ => ?_ | ((with_reducible apply ARun.exit); · rfl) | with_reducible refine ARun.ret ?_ | ((with_reducible refine ARun.cond_t ?_ ?_); · rfl) | ((with_reducible refine ARun.cond_f ?_ ?_); · rfl) | ((with_reducible apply ARun.cond) <;> first | intro _ | rfl) | simp (maxDischargeDepth := 9) only [go_sem, *, ↓reduceIte, reduceCtorEq, Nat.reduceEqDiff, Nat.reduceAdd, Nat.reduceLeDiff, Nat.reduceLT, Nat.reduceMul, Int.reduceEq, Int.reduceNe, Int.reduceLE, Int.reduceLT, Int.reduceBEq, Int.reduceBNe, Int.reduceToNat] | with_reducible refine grdO_goT (fun _ => ?_) (fun _ => ?_) | with_reducible refine grdO_goF (fun _ => ?_) (fun _ => ?_) | with_reducible refine grdF_goT (fun _ => ?_) (fun _ => ?_) | with_reducible refine grdF_goF (fun _ => ?_) (fun _ => ?_)))
      exact Fin.plain (by simp (maxDischargeDepth := 9) only [go_sem, *, ↓reduceIte, reduceCtorEq, Nat.reduceEqDiff, Nat.reduceAdd, Nat.reduceLeDiff, Nat.reduceLT, Nat.reduceMul, Int.reduceEq, Int.reduceNe, Int.reduceLE, Int.reduceLT, Int.reduceBEq, Int.reduceBNe, Int.reduceToNat]; rfl) (by (repeat (first | exact Sub.refl _ | assumption | refine Sub.upd2 ?_ _ _ | refine Sub.fresh ?_ (by assumption) | refine Sub.upd ?_ (by (first | assumption | exact nu1 (by assumption) | exact nu2 (by assumption) | exact nu3 (by assumption) | exact nu4 (by assumption) | exact nu5 (by assumption) | exact nu6 (by assumption) | exact nu7 (by assumption) | exact none_put (by assumption) (by assumption) | exact none_put (by assumption) (nu1 (by assumption)) | exact none_put (by assumption) (nu2 (by assumption)) | exact none_put (by assumption) (nu3 (by assumption)) | exact none_put (by assumption) (nu4 (by assumption)) | exact none_put (by assumption) (nu5 (by assumption))))))) ⟨by first | rfl | (simp [resV, *]; done), rfl⟩
  · exact AS.le_of (by simp only [List.forall_mem_cons, List.not_mem_nil, false_implies, implies_true, and_true, look_cons, ↓reduceIte, Nat.reduceEqDiff, *] <;> simp) (Sub.refl _)
end Go.Abs
