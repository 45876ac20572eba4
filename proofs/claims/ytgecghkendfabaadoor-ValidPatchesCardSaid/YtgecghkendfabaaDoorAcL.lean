import Derived.Test.YtgecghkendfabaaDoorAcK
/- Instructions: what the references make. -/
namespace Go.Abs
set_option linter.unusedSimpArgs false
set_option linter.unusedVariables false
open Go.Proofs Go.Wd
set_option linter.unusedVariables false
set_option maxRecDepth 8000
variable {H : Heap}
theorem ruses_c {o : Nat} : AC Tryd.prog 71 [.s (.int .u8 o)] H (fun r H' => r = .agg (b4 (usesR o)) ∧ H' = H) := by
  refine AC.body Tryd.func71 rfl rfl (n := 33) (res := [.cell 2 94]) rfl rfl (by simp) ?_
  simp only [ent]
  have hc := op_cases (o : Int)
  have h0 : (0 : Int) ≤ o := Int.natCast_nonneg _
  generalize (o : Int) = z at hc h0
  rcases hc with h | h | h | h | h | h | h | h | h | h | h | h | h | h | h | h | h | h | h | h | h | h | h | h
  case inr.inr.inr.inr.inr.inr.inr.inr.inr.inr.inr.inr.inr.inr.inr.inr.inr.inr.inr.inr.inr.inr.inr =>
    have e : ∀ k : Int, k ≤ 21 → (z == k) = false := fun k hk => by simp; omega
    have q2 := e 2 (by decide)
    have q3 := e 3 (by decide)
    have q4 := e 4 (by decide)
    have q5 := e 5 (by decide)
    have q6 := e 6 (by decide)
    have q7 := e 7 (by decide)
    have q8 := e 8 (by decide)
    have q9 := e 9 (by decide)
    have q10 := e 10 (by decide)
    have q11 := e 11 (by decide)
    have q12 := e 12 (by decide)
    have q13 := e 13 (by decide)
    have q14 := e 14 (by decide)
    have q15 := e 15 (by decide)
    have q16 := e 16 (by decide)
    have q17 := e 17 (by decide)
    have q19 := e 19 (by decide)
    have q21 := e 21 (by decide)
    have hu : usesR z = (false, false, false, false) := by unfold usesR; rw [if_neg (by omega), if_neg (by omega), if_neg (by omega), if_neg (by omega), if_neg (by omega)]
    rw [hu, b4_mk]
    clear hu e
    (repeat' (first | with_reducible refine ARun.seq ?_ | with_reducible refine ARun.block ?_ | with_reducible refine ARun.inBlock ?_ | with_reducible refine ARun.skip ?_ | with_reducible refine And.intro ?_ ?_ | ((with_reducible refine ARun.region ?_ ?_); · rfl) | with_reducible refine Fresh.go fun _ _ _ => ?_ | ((with_reducible apply ARun.exit); · rfl) | with_reducible refine ARun.ret ?_ | ((with_reducible refine ARun.cond_t ?_ ?_); · rfl) | ((with_reducible refine ARun.cond_f ?_ ?_); · rfl) | ((with_reducible apply ARun.cond) <;> first | intro _ | rfl) | simp (maxDischargeDepth := 9) only [go_sem, *, ↓reduceIte, reduceCtorEq, Nat.reduceEqDiff, Nat.reduceAdd, Nat.reduceLeDiff, Nat.reduceLT, Nat.reduceMul, Int.reduceEq, Int.reduceNe, Int.reduceLE, Int.reduceLT, Int.reduceBEq, Int.reduceBNe, Int.reduceToNat] | with_reducible refine grdO_goT (fun _ => ?_) (fun _ => ?_) | with_reducible refine grdO_goF (fun _ => ?_) (fun _ => ?_) | with_reducible refine grdF_goT (fun _ => ?_) (fun _ => ?_) | with_reducible refine grdF_goF (fun _ => ?_) (fun _ => ?_)))
    exact Fin.plain (by simp (maxDischargeDepth := 9) only [go_sem, *, ↓reduceIte, reduceCtorEq, Nat.reduceEqDiff, Nat.reduceAdd, Nat.reduceLeDiff, Nat.reduceLT, Nat.reduceMul, Int.reduceEq, Int.reduceNe, Int.reduceLE, Int.reduceLT, Int.reduceBEq, Int.reduceBNe, Int.reduceToNat]; rfl) (by (repeat (first | exact Sub.refl _ | assumption | refine Sub.upd2 ?_ _ _ | refine Sub.fresh ?_ (by assumption) | refine Sub.upd ?_ (by (first | assumption | exact nu1 (by assumption) | exact nu2 (by assumption) | exact nu3 (by assumption) | exact nu4 (by assumption) | exact nu5 (by assumption) | exact nu6 (by assumption) | exact nu7 (by assumption) | exact none_put (by assumption) (by assumption) | exact none_put (by assumption) (nu1 (by assumption)) | exact none_put (by assumption) (nu2 (by assumption)) | exact none_put (by assumption) (nu3 (by assumption)) | exact none_put (by assumption) (nu4 (by assumption)) | exact none_put (by assumption) (nu5 (by assumption))))))) ⟨by first | rfl | (simp [resV, *]; done), rfl⟩
  case inl => omega
  all_goals
    subst h
    (repeat' (first | with_reducible refine ARun.seq ?_ | with_reducible refine ARun.block ?_ | with_reducible refine ARun.inBlock ?_ | with_reducible refine ARun.skip ?_ | with_reducible refine And.intro ?_ ?_ | ((with_reducible refine ARun.region ?_ ?_); · rfl) | with_reducible refine Fresh.go fun _ _ _ => ?_ | ((with_reducible apply ARun.exit); · rfl) | with_reducible refine ARun.ret ?_ | ((with_reducible refine ARun.cond_t ?_ ?_); · rfl) | ((with_reducible refine ARun.cond_f ?_ ?_); · rfl) | ((with_reducible apply ARun.cond) <;> first | intro _ | rfl) | simp (maxDischargeDepth := 9) only [go_sem, *, ↓reduceIte, reduceCtorEq, Nat.reduceEqDiff, Nat.reduceAdd, Nat.reduceLeDiff, Nat.reduceLT, Nat.reduceMul, Int.reduceEq, Int.reduceNe, Int.reduceLE, Int.reduceLT, Int.reduceBEq, Int.reduceBNe, Int.reduceToNat] | with_reducible refine grdO_goT (fun _ => ?_) (fun _ => ?_) | with_reducible refine grdO_goF (fun _ => ?_) (fun _ => ?_) | with_reducible refine grdF_goT (fun _ => ?_) (fun _ => ?_) | with_reducible refine grdF_goF (fun _ => ?_) (fun _ => ?_)))
    exact Fin.plain (by simp (maxDischargeDepth := 9) only [go_sem, *, ↓reduceIte, reduceCtorEq, Nat.reduceEqDiff, Nat.reduceAdd, Nat.reduceLeDiff, Nat.reduceLT, Nat.reduceMul, Int.reduceEq, Int.reduceNe, Int.reduceLE, Int.reduceLT, Int.reduceBEq, Int.reduceBNe, Int.reduceToNat]; rfl) (by (repeat (first | exact Sub.refl _ | assumption | refine Sub.upd2 ?_ _ _ | refine Sub.fresh ?_ (by assumption) | refine Sub.upd ?_ (by (first | assumption | exact nu1 (by assumption) | exact nu2 (by assumption) | exact nu3 (by assumption) | exact nu4 (by assumption) | exact nu5 (by assumption) | exact nu6 (by assumption) | exact nu7 (by assumption) | exact none_put (by assumption) (by assumption) | exact none_put (by assumption) (nu1 (by assumption)) | exact none_put (by assumption) (nu2 (by assumption)) | exact none_put (by assumption) (nu3 (by assumption)) | exact none_put (by assumption) (nu4 (by assumption)) | exact none_put (by assumption) (nu5 (by assumption))))))) ⟨by first | rfl | (simp [resV, *]; done), rfl⟩
set_option maxHeartbeats 2000000 in
theorem rCheckI_c {x : Ins} (hx : x.ok) : AC Tryd.prog 86 [.agg x.enc] H (fun r H' => r = .s (.int .i64 x.chk) ∧ H' = H) := by
  refine AC.body Tryd.func86 rfl rfl (n := 95) (res := [.tmp 2]) rfl rfl (by simp) ?_
  simp only [ent]
  obtain ⟨o, d, a, b, i⟩ := x
  simp only [Ins.enc_def, Ins.ok] at hx ⊢
  obtain ⟨_, _, _, _, h5, h6⟩ := hx
  have hw : IntKind.i64.wrap i = i := wi64 (by omega) (by omega)
  have hf : ∀ H : Heap, AC Tryd.prog 93 [.s (.int .i64 i), .s (.int .i64 21)] H (fun r H' => r = .s (.bool (fits21 i)) ∧ H' = H) := fun H => rfits_c
  have hu : usesR o = ((usesR o).1, (usesR o).2.1, (usesR o).2.2.1, (usesR o).2.2.2) := rfl
  generalize hu1 : (usesR o).1 = u1 at hu
  generalize hu2 : (usesR o).2.1 = u2 at hu
  generalize hu3 : (usesR o).2.2.1 = u3 at hu
  generalize hu4 : (usesR o).2.2.2 = u4 at hu
  have hU : ∀ H : Heap, AC Tryd.prog 71 [.s (.int .u8 o)] H (fun r H' => r = .agg [.s (.bool u1), .s (.bool u2), .s (.bool u3), .s (.bool u4)] ∧ H' = H) := fun H => by have := ruses_c (H := H) (o := o); rw [hu] at this; exact this
  clear hu
  (repeat' (first | with_reducible refine ARun.seq ?_ | with_reducible refine ARun.block ?_ | with_reducible refine ARun.inBlock ?_ | with_reducible refine ARun.skip ?_ | with_reducible refine And.intro ?_ ?_ | ((with_reducible refine ARun.region ?_ ?_); · rfl) | with_reducible refine Fresh.go fun _ _ _ => ?_ | ((with_reducible apply ARun.exit); · rfl) | with_reducible refine ARun.ret ?_ | ((with_reducible refine ARun.cond_t ?_ ?_); · rfl) | ((with_reducible refine ARun.cond_f ?_ ?_); · rfl) | ((with_reducible apply ARun.cond) <;> first | intro _ | rfl) | simp (maxDischargeDepth := 9) only [go_sem, *, ↓reduceIte, reduceCtorEq, Nat.reduceEqDiff, Nat.reduceAdd, Nat.reduceLeDiff, Nat.reduceLT, Nat.reduceMul, Int.reduceEq, Int.reduceNe, Int.reduceLE, Int.reduceLT, Int.reduceBEq, Int.reduceBNe, Int.reduceToNat] | with_reducible refine grdO_goT (fun _ => ?_) (fun _ => ?_) | with_reducible refine grdO_goF (fun _ => ?_) (fun _ => ?_) | with_reducible refine grdF_goT (fun _ => ?_) (fun _ => ?_) | with_reducible refine grdF_goF (fun _ => ?_) (fun _ => ?_) | refine Calling.eq (hU _) ?_ | refine Calling.eq (hf _) ?_))
  all_goals
    refine Fin.plain (by simp (maxDischargeDepth := 9) only [go_sem, *, ↓reduceIte, reduceCtorEq, Nat.reduceEqDiff, Nat.reduceAdd, Nat.reduceLeDiff, Nat.reduceLT, Nat.reduceMul, Int.reduceEq, Int.reduceNe, Int.reduceLE, Int.reduceLT, Int.reduceBEq, Int.reduceBNe, Int.reduceToNat]; rfl) (by (repeat (first | exact Sub.refl _ | assumption | refine Sub.upd2 ?_ _ _ | refine Sub.fresh ?_ (by assumption) | refine Sub.upd ?_ (by (first | assumption | exact nu1 (by assumption) | exact nu2 (by assumption) | exact nu3 (by assumption) | exact nu4 (by assumption) | exact nu5 (by assumption) | exact nu6 (by assumption) | exact nu7 (by assumption) | exact none_put (by assumption) (by assumption) | exact none_put (by assumption) (nu1 (by assumption)) | exact none_put (by assumption) (nu2 (by assumption)) | exact none_put (by assumption) (nu3 (by assumption)) | exact none_put (by assumption) (nu4 (by assumption)) | exact none_put (by assumption) (nu5 (by assumption))))))) ⟨?_, rfl⟩
    clear hU hf
    simp only [resV, Ins.chk, checkR, badR, regR, hu1, hu2, hu3, hu4]
    simp_all
    try omega
theorem enc_low {o d a b : Nat} {i : Int} (low : Nat) (hl : low < 2 ^ 21) (e : cutN i ||| b = low) : withN (withN (withN (withN 0 27 5 o) 24 3 d) 21 3 a) 0 21 low = encN o d a b i := by
  unfold encN
  rw [e]
  have hl2 : low < 2 ^ 32 := by omega
  refine word_ext (withN_lt _ _ _ _) (withN_lt _ _ _ _) fun j hj => ?_
  rw [withN_bit _ _ _ _ _ (withN_lt _ _ _ _) (by decide) hj, withN_bit _ _ _ _ _ (withN_lt _ _ _ _) (by decide) hj, withN_bit _ _ _ _ _ (withN_lt _ _ _ _) (by decide) hj, withN_bit _ _ _ _ _ (by decide) (by decide) hj,
    withN_bit _ _ _ _ _ (withN_lt _ _ _ _) (by decide) hj, withN_bit _ _ _ _ _ (withN_lt _ _ _ _) (by decide) hj, withN_bit _ _ _ _ _ hl2 (by decide) hj]
  repeat' split
  all_goals first | rfl | (exfalso; omega) | (simp; done) | skip
  all_goals (have hz := bit_out hl (i := j) (by omega); simp [hz])
theorem rEncode_c {x : Ins} (hx : x.ok) : AC Tryd.prog 73 [.agg x.enc] H (fun r H' => r = .tup [.s (.int .u32 (x.word : Nat)), .s (.int .i64 x.chk)] ∧ H' = H) := by
  have hk := fun H => rCheckI_c (H := H) hx
  by_cases hc : x.chk = 0
  · have hw : x.word = encN x.o x.d x.a x.b x.i := by unfold Ins.word; rw [if_pos hc]
    rw [hw, hc]
    obtain ⟨o, d, a, b, i⟩ := x
    obtain ⟨z1, z2, z3, z4, z5, z6, z7⟩ := check_zero (o := o) (d := d) (a := a) (b := b) (i := i) hc
    simp only [Ins.enc_def, Ins.ok, hc] at hx hk ⊢
    obtain ⟨h1, h2, h3, h4, h5, h6⟩ := hx
    clear hw hc
    have e1 := w8to32 h1
    have e2 := w8to32 h2
    have e3 := w8to32 h3
    have e4 := w8to32 h4
    have c1 := cutN_lt i
    have A1 := fun H => rwith_c (H := H) (w := 0) (a := 27) (n := 5) (v := o) (by decide) (by omega) (by decide)
    have A2 := fun H => rwith_c (H := H) (w := withN 0 27 5 o) (a := 24) (n := 3) (v := d) (withN_lt _ _ _ _) (by omega) (by decide)
    have A3 := fun H => rwith_c (H := H) (w := withN (withN 0 27 5 o) 24 3 d) (a := 21) (n := 3) (v := a) (withN_lt _ _ _ _) (by omega) (by decide)
    have U := fun H => ruses_c (H := H) (o := o)
    have hu : usesR o = ((usesR o).1, (usesR o).2.1, (usesR o).2.2.1, (usesR o).2.2.2) := rfl
    cases hu3 : (usesR (o : Int)).2.2.1 with
    | true =>
      have hi0 : i = 0 := by
        rcases z5 with h | h
        · rw [usesB o hu3] at h; cases h
        · exact h
      have hb8 := (reg_lt (Int.natCast_nonneg b) z4).1
      have A4 := fun H => rwith_c (H := H) (w := withN (withN (withN 0 27 5 o) 24 3 d) 21 3 a) (a := 0) (n := 21) (v := b) (withN_lt _ _ _ _) (by omega) (by decide)
      rw [enc_low (o := o) (d := d) (a := a) (b := b) (i := i) b (by omega) (by rw [hi0]; simp [cutN])] at A4
      rw [hu3] at hu
      generalize (usesR (o : Int)).1 = u1 at hu
      generalize (usesR (o : Int)).2.1 = u2 at hu
      generalize (usesR (o : Int)).2.2.2 = u4 at hu
      rw [hu] at U
      simp only [b4_mk, Int.cast_ofNat_Int] at U A1 A2 A3 A4
      clear z1 z2 z3 z4 z5 z6 z7 hu hu3 hi0
      refine AC.body Tryd.func73 rfl rfl (n := 39) (res := [.tmp 2, .tmp 3]) rfl rfl (by simp) ?_
      simp only [ent]
      (repeat' (first | with_reducible refine ARun.seq ?_ | with_reducible refine ARun.block ?_ | with_reducible refine ARun.inBlock ?_ | with_reducible refine ARun.skip ?_ | with_reducible refine And.intro ?_ ?_ | ((with_reducible refine ARun.region ?_ ?_); · rfl) | with_reducible refine Fresh.go fun _ _ _ => ?_ | ((with_reducible apply ARun.exit); · rfl) | with_reducible refine ARun.ret ?_ | ((with_reducible refine ARun.cond_t ?_ ?_); · rfl) | ((with_reducible refine ARun.cond_f ?_ ?_); · rfl) | ((with_reducible apply ARun.cond) <;> first | intro _ | rfl) | simp (maxDischargeDepth := 9) only [go_sem, *, ↓reduceIte, reduceCtorEq, Nat.reduceEqDiff, Nat.reduceAdd, Nat.reduceLeDiff, Nat.reduceLT, Nat.reduceMul, Int.reduceEq, Int.reduceNe, Int.reduceLE, Int.reduceLT, Int.reduceBEq, Int.reduceBNe, Int.reduceToNat] | with_reducible refine grdO_goT (fun _ => ?_) (fun _ => ?_) | with_reducible refine grdO_goF (fun _ => ?_) (fun _ => ?_) | with_reducible refine grdF_goT (fun _ => ?_) (fun _ => ?_) | with_reducible refine grdF_goF (fun _ => ?_) (fun _ => ?_) | refine Calling.eq (hk _) ?_ | refine Calling.eq (A1 _) ?_ | refine Calling.eq (A2 _) ?_ | refine Calling.eq (A3 _) ?_ | refine Calling.eq (U _) ?_ | refine Calling.eq (A4 _) ?_))
      exact Fin.plain (by simp (maxDischargeDepth := 9) only [go_sem, *, ↓reduceIte, reduceCtorEq, Nat.reduceEqDiff, Nat.reduceAdd, Nat.reduceLeDiff, Nat.reduceLT, Nat.reduceMul, Int.reduceEq, Int.reduceNe, Int.reduceLE, Int.reduceLT, Int.reduceBEq, Int.reduceBNe, Int.reduceToNat]; rfl) (by (repeat (first | exact Sub.refl _ | assumption | refine Sub.upd2 ?_ _ _ | refine Sub.fresh ?_ (by assumption) | refine Sub.upd ?_ (by (first | assumption | exact nu1 (by assumption) | exact nu2 (by assumption) | exact nu3 (by assumption) | exact nu4 (by assumption) | exact nu5 (by assumption) | exact nu6 (by assumption) | exact nu7 (by assumption) | exact none_put (by assumption) (by assumption) | exact none_put (by assumption) (nu1 (by assumption)) | exact none_put (by assumption) (nu2 (by assumption)) | exact none_put (by assumption) (nu3 (by assumption)) | exact none_put (by assumption) (nu4 (by assumption)) | exact none_put (by assumption) (nu5 (by assumption))))))) ⟨by first | rfl | (simp [resV, *]; done), rfl⟩
    | false =>
      have hb0 : b = 0 := by have := (reg_lt (Int.natCast_nonneg b) z4).2 hu3; omega
      have A4 := fun H => rwith_c (H := H) (w := withN (withN (withN 0 27 5 o) 24 3 d) 21 3 a) (a := 0) (n := 21) (v := cutN i) (withN_lt _ _ _ _) (by omega) (by decide)
      rw [enc_low (i := i) (b := b) (cutN i) c1 (by rw [hb0]; simp)] at A4
      rw [hu3] at hu
      generalize (usesR (o : Int)).1 = u1 at hu
      generalize (usesR (o : Int)).2.1 = u2 at hu
      generalize (usesR (o : Int)).2.2.2 = u4 at hu
      rw [hu] at U
      simp only [b4_mk, Int.cast_ofNat_Int] at U A1 A2 A3 A4
      clear z1 z2 z3 z4 z5 z6 z7 hu hu3 hb0
      refine AC.body Tryd.func73 rfl rfl (n := 39) (res := [.tmp 2, .tmp 3]) rfl rfl (by simp) ?_
      simp only [ent]
      (repeat' (first | with_reducible refine ARun.seq ?_ | with_reducible refine ARun.block ?_ | with_reducible refine ARun.inBlock ?_ | with_reducible refine ARun.skip ?_ | with_reducible refine And.intro ?_ ?_ | ((with_reducible refine ARun.region ?_ ?_); · rfl) | with_reducible refine Fresh.go fun _ _ _ => ?_ | ((with_reducible apply ARun.exit); · rfl) | with_reducible refine ARun.ret ?_ | ((with_reducible refine ARun.cond_t ?_ ?_); · rfl) | ((with_reducible refine ARun.cond_f ?_ ?_); · rfl) | ((with_reducible apply ARun.cond) <;> first | intro _ | rfl) | simp (maxDischargeDepth := 9) only [go_sem, *, ↓reduceIte, reduceCtorEq, Nat.reduceEqDiff, Nat.reduceAdd, Nat.reduceLeDiff, Nat.reduceLT, Nat.reduceMul, Int.reduceEq, Int.reduceNe, Int.reduceLE, Int.reduceLT, Int.reduceBEq, Int.reduceBNe, Int.reduceToNat] | with_reducible refine grdO_goT (fun _ => ?_) (fun _ => ?_) | with_reducible refine grdO_goF (fun _ => ?_) (fun _ => ?_) | with_reducible refine grdF_goT (fun _ => ?_) (fun _ => ?_) | with_reducible refine grdF_goF (fun _ => ?_) (fun _ => ?_) | refine Calling.eq (hk _) ?_ | refine Calling.eq (A1 _) ?_ | refine Calling.eq (A2 _) ?_ | refine Calling.eq (A3 _) ?_ | refine Calling.eq (U _) ?_ | refine Calling.eq (rcut_c) ?_ | refine Calling.eq (A4 _) ?_))
      exact Fin.plain (by simp (maxDischargeDepth := 9) only [go_sem, *, ↓reduceIte, reduceCtorEq, Nat.reduceEqDiff, Nat.reduceAdd, Nat.reduceLeDiff, Nat.reduceLT, Nat.reduceMul, Int.reduceEq, Int.reduceNe, Int.reduceLE, Int.reduceLT, Int.reduceBEq, Int.reduceBNe, Int.reduceToNat]; rfl) (by (repeat (first | exact Sub.refl _ | assumption | refine Sub.upd2 ?_ _ _ | refine Sub.fresh ?_ (by assumption) | refine Sub.upd ?_ (by (first | assumption | exact nu1 (by assumption) | exact nu2 (by assumption) | exact nu3 (by assumption) | exact nu4 (by assumption) | exact nu5 (by assumption) | exact nu6 (by assumption) | exact nu7 (by assumption) | exact none_put (by assumption) (by assumption) | exact none_put (by assumption) (nu1 (by assumption)) | exact none_put (by assumption) (nu2 (by assumption)) | exact none_put (by assumption) (nu3 (by assumption)) | exact none_put (by assumption) (nu4 (by assumption)) | exact none_put (by assumption) (nu5 (by assumption))))))) ⟨by first | rfl | (simp [resV, *]; done), rfl⟩
  · have hw : x.word = 0 := by unfold Ins.word; rw [if_neg hc]
    rw [hw]
    have hb : (x.chk != 0) = true := by simpa using hc
    simp only [Ins.enc_def] at hk ⊢
    refine AC.body Tryd.func73 rfl rfl (n := 39) (res := [.tmp 2, .tmp 3]) rfl rfl (by simp) ?_
    simp only [ent]
    (repeat' (first | with_reducible refine ARun.seq ?_ | with_reducible refine ARun.block ?_ | with_reducible refine ARun.inBlock ?_ | with_reducible refine ARun.skip ?_ | with_reducible refine And.intro ?_ ?_ | ((with_reducible refine ARun.region ?_ ?_); · rfl) | with_reducible refine Fresh.go fun _ _ _ => ?_ | ((with_reducible apply ARun.exit); · rfl) | with_reducible refine ARun.ret ?_ | ((with_reducible refine ARun.cond_t ?_ ?_); · rfl) | ((with_reducible refine ARun.cond_f ?_ ?_); · rfl) | ((with_reducible apply ARun.cond) <;> first | intro _ | rfl) | simp (maxDischargeDepth := 9) only [go_sem, *, ↓reduceIte, reduceCtorEq, Nat.reduceEqDiff, Nat.reduceAdd, Nat.reduceLeDiff, Nat.reduceLT, Nat.reduceMul, Int.reduceEq, Int.reduceNe, Int.reduceLE, Int.reduceLT, Int.reduceBEq, Int.reduceBNe, Int.reduceToNat] | with_reducible refine grdO_goT (fun _ => ?_) (fun _ => ?_) | with_reducible refine grdO_goF (fun _ => ?_) (fun _ => ?_) | with_reducible refine grdF_goT (fun _ => ?_) (fun _ => ?_) | with_reducible refine grdF_goF (fun _ => ?_) (fun _ => ?_) | refine Calling.eq (hk _) ?_))
    exact Fin.plain (by simp (maxDischargeDepth := 9) only [go_sem, *, ↓reduceIte, reduceCtorEq, Nat.reduceEqDiff, Nat.reduceAdd, Nat.reduceLeDiff, Nat.reduceLT, Nat.reduceMul, Int.reduceEq, Int.reduceNe, Int.reduceLE, Int.reduceLT, Int.reduceBEq, Int.reduceBNe, Int.reduceToNat]; rfl) (by (repeat (first | exact Sub.refl _ | assumption | refine Sub.upd2 ?_ _ _ | refine Sub.fresh ?_ (by assumption) | refine Sub.upd ?_ (by (first | assumption | exact nu1 (by assumption) | exact nu2 (by assumption) | exact nu3 (by assumption) | exact nu4 (by assumption) | exact nu5 (by assumption) | exact nu6 (by assumption) | exact nu7 (by assumption) | exact none_put (by assumption) (by assumption) | exact none_put (by assumption) (nu1 (by assumption)) | exact none_put (by assumption) (nu2 (by assumption)) | exact none_put (by assumption) (nu3 (by assumption)) | exact none_put (by assumption) (nu4 (by assumption)) | exact none_put (by assumption) (nu5 (by assumption))))))) ⟨by first | rfl | (simp [resV, *]; done), rfl⟩
theorem rDecode_c {w : Nat} (hw : w < 2 ^ 32) : AC Tryd.prog 55 [.s (.int .u32 w)] H (fun r H' => r = .tup [.agg (dec w).enc, .s (.int .i64 (decE w))] ∧ H' = H) := by
  have B1 := fun H => rbits_c (H := H) (w := w) (a := 27) (n := 5) hw (by decide)
  have B2 := fun H => rbits_c (H := H) (w := w) (a := 24) (n := 3) hw (by decide)
  have B3 := fun H => rbits_c (H := H) (w := w) (a := 21) (n := 3) hw (by decide)
  have B4 := fun H => rbits_c (H := H) (w := w) (a := 0) (n := 3) hw (by decide)
  have S := fun H => rsigned_c (H := H) hw
  simp only [Int.cast_ofNat_Int] at B1 B2 B3 B4
  have e1 := bits_c' hw (a := 27) (n := 5) (by decide) (by decide)
  have e2 := bits_c' hw (a := 24) (n := 3) (by decide) (by decide)
  have e3 := bits_c' hw (a := 21) (n := 3) (by decide) (by decide)
  have e4 := bits_c' hw (a := 0) (n := 3) (by decide) (by decide)
  have hp := parts_ok w
  have E := fun H => rEncode_c (H := H) hp
  have U := fun H => ruses_c (H := H) (o := bitsN w 27 5)
  have hi : ∀ b : Bool, insOk w = b → dec w = (if b = true then parts w else Ins.zero) ∧ decE w = (if b = true then 0 else 10) := fun b h => by unfold dec decE; rw [h]; exact ⟨rfl, rfl⟩
  have ho : insOk w = (decide ((parts w).chk = 0) && (parts w).word == w) := rfl
  have hu : usesR ((bitsN w 27 5 : Nat) : Int) = ((usesR ((bitsN w 27 5 : Nat) : Int)).1, (usesR ((bitsN w 27 5 : Nat) : Int)).2.1, (usesR ((bitsN w 27 5 : Nat) : Int)).2.2.1, (usesR ((bitsN w 27 5 : Nat) : Int)).2.2.2) := rfl
  cases hu3 : (usesR ((bitsN w 27 5 : Nat) : Int)).2.2.1 with
  | true =>
    have hpe : parts w = ⟨bitsN w 27 5, bitsN w 24 3, bitsN w 21 3, bitsN w 0 3, 0⟩ := by unfold parts iN opN; rw [hu3]; rfl
    rw [hu3] at hu
    generalize (usesR ((bitsN w 27 5 : Nat) : Int)).1 = u1 at hu
    generalize (usesR ((bitsN w 27 5 : Nat) : Int)).2.1 = u2 at hu
    generalize (usesR ((bitsN w 27 5 : Nat) : Int)).2.2.2 = u4 at hu
    rw [hu] at U
    simp only [b4_mk] at U
    generalize hk : (parts w).chk = k at E ho
    generalize hv : (parts w).word = v at E ho
    rw [hpe, Ins.enc_def] at E
    simp only [] at E
    clear hk hv hp hu3 hu
    by_cases hk0 : k = 0
    · subst hk0
      by_cases hv0 : v = w
      · subst hv0
        obtain ⟨h1, h2⟩ := hi true (by simpa using ho)
        rw [if_pos rfl, hpe] at h1
        rw [if_pos rfl] at h2
        clear ho hi hpe
        rw [h1, h2, Ins.enc_def]
        clear h1 h2
        refine AC.body Tryd.func55 rfl rfl (n := 42) (res := [.cell 2 47, .tmp 3]) rfl rfl (by simp) ?_
        simp only [ent]
        (repeat' (first | with_reducible refine ARun.seq ?_ | with_reducible refine ARun.block ?_ | with_reducible refine ARun.inBlock ?_ | with_reducible refine ARun.skip ?_ | with_reducible refine And.intro ?_ ?_ | ((with_reducible refine ARun.region ?_ ?_); · rfl) | with_reducible refine Fresh.go fun _ _ _ => ?_ | ((with_reducible apply ARun.exit); · rfl) | with_reducible refine ARun.ret ?_ | ((with_reducible refine ARun.cond_t ?_ ?_); · rfl) | ((with_reducible refine ARun.cond_f ?_ ?_); · rfl) | ((with_reducible apply ARun.cond) <;> first | intro _ | rfl) | simp (maxDischargeDepth := 9) only [go_sem, *, ↓reduceIte, reduceCtorEq, Nat.reduceEqDiff, Nat.reduceAdd, Nat.reduceLeDiff, Nat.reduceLT, Nat.reduceMul, Int.reduceEq, Int.reduceNe, Int.reduceLE, Int.reduceLT, Int.reduceBEq, Int.reduceBNe, Int.reduceToNat] | with_reducible refine grdO_goT (fun _ => ?_) (fun _ => ?_) | with_reducible refine grdO_goF (fun _ => ?_) (fun _ => ?_) | with_reducible refine grdF_goT (fun _ => ?_) (fun _ => ?_) | with_reducible refine grdF_goF (fun _ => ?_) (fun _ => ?_) | refine Calling.eq (B1 _) ?_ | refine Calling.eq (B2 _) ?_ | refine Calling.eq (B3 _) ?_ | refine Calling.eq (B4 _) ?_ | refine Calling.eq (S _) ?_ | refine Calling.eq (U _) ?_ | refine Calling.eq (E _) ?_))
        exact Fin.plain (by simp (maxDischargeDepth := 9) only [go_sem, *, ↓reduceIte, reduceCtorEq, Nat.reduceEqDiff, Nat.reduceAdd, Nat.reduceLeDiff, Nat.reduceLT, Nat.reduceMul, Int.reduceEq, Int.reduceNe, Int.reduceLE, Int.reduceLT, Int.reduceBEq, Int.reduceBNe, Int.reduceToNat]; rfl) (by (repeat (first | exact Sub.refl _ | assumption | refine Sub.upd2 ?_ _ _ | refine Sub.fresh ?_ (by assumption) | refine Sub.upd ?_ (by (first | assumption | exact nu1 (by assumption) | exact nu2 (by assumption) | exact nu3 (by assumption) | exact nu4 (by assumption) | exact nu5 (by assumption) | exact nu6 (by assumption) | exact nu7 (by assumption) | exact none_put (by assumption) (by assumption) | exact none_put (by assumption) (nu1 (by assumption)) | exact none_put (by assumption) (nu2 (by assumption)) | exact none_put (by assumption) (nu3 (by assumption)) | exact none_put (by assumption) (nu4 (by assumption)) | exact none_put (by assumption) (nu5 (by assumption))))))) ⟨by first | rfl | (simp [resV, *]; done), rfl⟩
      · have hb : (((v : Nat) : Int) != (w : Int)) = true := by simp; omega
        obtain ⟨h1, h2⟩ := hi false (by rw [ho]; simp [hv0])
        rw [if_neg (by simp)] at h1 h2
        clear ho hi hpe
        rw [h1, h2]
        clear h1 h2
        refine AC.body Tryd.func55 rfl rfl (n := 42) (res := [.cell 2 47, .tmp 3]) rfl rfl (by simp) ?_
        simp only [ent]
        (repeat' (first | with_reducible refine ARun.seq ?_ | with_reducible refine ARun.block ?_ | with_reducible refine ARun.inBlock ?_ | with_reducible refine ARun.skip ?_ | with_reducible refine And.intro ?_ ?_ | ((with_reducible refine ARun.region ?_ ?_); · rfl) | with_reducible refine Fresh.go fun _ _ _ => ?_ | ((with_reducible apply ARun.exit); · rfl) | with_reducible refine ARun.ret ?_ | ((with_reducible refine ARun.cond_t ?_ ?_); · rfl) | ((with_reducible refine ARun.cond_f ?_ ?_); · rfl) | ((with_reducible apply ARun.cond) <;> first | intro _ | rfl) | simp (maxDischargeDepth := 9) only [go_sem, *, ↓reduceIte, reduceCtorEq, Nat.reduceEqDiff, Nat.reduceAdd, Nat.reduceLeDiff, Nat.reduceLT, Nat.reduceMul, Int.reduceEq, Int.reduceNe, Int.reduceLE, Int.reduceLT, Int.reduceBEq, Int.reduceBNe, Int.reduceToNat] | with_reducible refine grdO_goT (fun _ => ?_) (fun _ => ?_) | with_reducible refine grdO_goF (fun _ => ?_) (fun _ => ?_) | with_reducible refine grdF_goT (fun _ => ?_) (fun _ => ?_) | with_reducible refine grdF_goF (fun _ => ?_) (fun _ => ?_) | refine Calling.eq (B1 _) ?_ | refine Calling.eq (B2 _) ?_ | refine Calling.eq (B3 _) ?_ | refine Calling.eq (B4 _) ?_ | refine Calling.eq (S _) ?_ | refine Calling.eq (U _) ?_ | refine Calling.eq (E _) ?_))
        exact Fin.plain (by simp (maxDischargeDepth := 9) only [go_sem, *, ↓reduceIte, reduceCtorEq, Nat.reduceEqDiff, Nat.reduceAdd, Nat.reduceLeDiff, Nat.reduceLT, Nat.reduceMul, Int.reduceEq, Int.reduceNe, Int.reduceLE, Int.reduceLT, Int.reduceBEq, Int.reduceBNe, Int.reduceToNat]; rfl) (by (repeat (first | exact Sub.refl _ | assumption | refine Sub.upd2 ?_ _ _ | refine Sub.fresh ?_ (by assumption) | refine Sub.upd ?_ (by (first | assumption | exact nu1 (by assumption) | exact nu2 (by assumption) | exact nu3 (by assumption) | exact nu4 (by assumption) | exact nu5 (by assumption) | exact nu6 (by assumption) | exact nu7 (by assumption) | exact none_put (by assumption) (by assumption) | exact none_put (by assumption) (nu1 (by assumption)) | exact none_put (by assumption) (nu2 (by assumption)) | exact none_put (by assumption) (nu3 (by assumption)) | exact none_put (by assumption) (nu4 (by assumption)) | exact none_put (by assumption) (nu5 (by assumption))))))) ⟨by first | rfl | (simp [resV, *]; done), rfl⟩
    · have hb : (k != 0) = true := by simpa using hk0
      obtain ⟨h1, h2⟩ := hi false (by rw [ho]; simp [hk0])
      rw [if_neg (by simp)] at h1 h2
      clear ho hi hpe
      rw [h1, h2]
      clear h1 h2
      refine AC.body Tryd.func55 rfl rfl (n := 42) (res := [.cell 2 47, .tmp 3]) rfl rfl (by simp) ?_
      simp only [ent]
      (repeat' (first | with_reducible refine ARun.seq ?_ | with_reducible refine ARun.block ?_ | with_reducible refine ARun.inBlock ?_ | with_reducible refine ARun.skip ?_ | with_reducible refine And.intro ?_ ?_ | ((with_reducible refine ARun.region ?_ ?_); · rfl) | with_reducible refine Fresh.go fun _ _ _ => ?_ | ((with_reducible apply ARun.exit); · rfl) | with_reducible refine ARun.ret ?_ | ((with_reducible refine ARun.cond_t ?_ ?_); · rfl) | ((with_reducible refine ARun.cond_f ?_ ?_); · rfl) | ((with_reducible apply ARun.cond) <;> first | intro _ | rfl) | simp (maxDischargeDepth := 9) only [go_sem, *, ↓reduceIte, reduceCtorEq, Nat.reduceEqDiff, Nat.reduceAdd, Nat.reduceLeDiff, Nat.reduceLT, Nat.reduceMul, Int.reduceEq, Int.reduceNe, Int.reduceLE, Int.reduceLT, Int.reduceBEq, Int.reduceBNe, Int.reduceToNat] | with_reducible refine grdO_goT (fun _ => ?_) (fun _ => ?_) | with_reducible refine grdO_goF (fun _ => ?_) (fun _ => ?_) | with_reducible refine grdF_goT (fun _ => ?_) (fun _ => ?_) | with_reducible refine grdF_goF (fun _ => ?_) (fun _ => ?_) | refine Calling.eq (B1 _) ?_ | refine Calling.eq (B2 _) ?_ | refine Calling.eq (B3 _) ?_ | refine Calling.eq (B4 _) ?_ | refine Calling.eq (S _) ?_ | refine Calling.eq (U _) ?_ | refine Calling.eq (E _) ?_))
      exact Fin.plain (by simp (maxDischargeDepth := 9) only [go_sem, *, ↓reduceIte, reduceCtorEq, Nat.reduceEqDiff, Nat.reduceAdd, Nat.reduceLeDiff, Nat.reduceLT, Nat.reduceMul, Int.reduceEq, Int.reduceNe, Int.reduceLE, Int.reduceLT, Int.reduceBEq, Int.reduceBNe, Int.reduceToNat]; rfl) (by (repeat (first | exact Sub.refl _ | assumption | refine Sub.upd2 ?_ _ _ | refine Sub.fresh ?_ (by assumption) | refine Sub.upd ?_ (by (first | assumption | exact nu1 (by assumption) | exact nu2 (by assumption) | exact nu3 (by assumption) | exact nu4 (by assumption) | exact nu5 (by assumption) | exact nu6 (by assumption) | exact nu7 (by assumption) | exact none_put (by assumption) (by assumption) | exact none_put (by assumption) (nu1 (by assumption)) | exact none_put (by assumption) (nu2 (by assumption)) | exact none_put (by assumption) (nu3 (by assumption)) | exact none_put (by assumption) (nu4 (by assumption)) | exact none_put (by assumption) (nu5 (by assumption))))))) ⟨by first | rfl | (simp [resV, *]; done), rfl⟩
  | false =>
    have hpe : parts w = ⟨bitsN w 27 5, bitsN w 24 3, bitsN w 21 3, 0, signN w⟩ := by unfold parts iN opN; rw [hu3]; rfl
    rw [hu3] at hu
    generalize (usesR ((bitsN w 27 5 : Nat) : Int)).1 = u1 at hu
    generalize (usesR ((bitsN w 27 5 : Nat) : Int)).2.1 = u2 at hu
    generalize (usesR ((bitsN w 27 5 : Nat) : Int)).2.2.2 = u4 at hu
    rw [hu] at U
    simp only [b4_mk] at U
    generalize hk : (parts w).chk = k at E ho
    generalize hv : (parts w).word = v at E ho
    rw [hpe, Ins.enc_def] at E
    simp only [Int.cast_ofNat_Int] at E
    clear hk hv hp hu3 hu
    by_cases hk0 : k = 0
    · subst hk0
      by_cases hv0 : v = w
      · subst hv0
        obtain ⟨h1, h2⟩ := hi true (by simpa using ho)
        rw [if_pos rfl, hpe] at h1
        rw [if_pos rfl] at h2
        clear ho hi hpe
        rw [h1, h2, Ins.enc_def]
        clear h1 h2
        refine AC.body Tryd.func55 rfl rfl (n := 42) (res := [.cell 2 47, .tmp 3]) rfl rfl (by simp) ?_
        simp only [ent]
        (repeat' (first | with_reducible refine ARun.seq ?_ | with_reducible refine ARun.block ?_ | with_reducible refine ARun.inBlock ?_ | with_reducible refine ARun.skip ?_ | with_reducible refine And.intro ?_ ?_ | ((with_reducible refine ARun.region ?_ ?_); · rfl) | with_reducible refine Fresh.go fun _ _ _ => ?_ | ((with_reducible apply ARun.exit); · rfl) | with_reducible refine ARun.ret ?_ | ((with_reducible refine ARun.cond_t ?_ ?_); · rfl) | ((with_reducible refine ARun.cond_f ?_ ?_); · rfl) | ((with_reducible apply ARun.cond) <;> first | intro _ | rfl) | simp (maxDischargeDepth := 9) only [go_sem, *, ↓reduceIte, reduceCtorEq, Nat.reduceEqDiff, Nat.reduceAdd, Nat.reduceLeDiff, Nat.reduceLT, Nat.reduceMul, Int.reduceEq, Int.reduceNe, Int.reduceLE, Int.reduceLT, Int.reduceBEq, Int.reduceBNe, Int.reduceToNat] | with_reducible refine grdO_goT (fun _ => ?_) (fun _ => ?_) | with_reducible refine grdO_goF (fun _ => ?_) (fun _ => ?_) | with_reducible refine grdF_goT (fun _ => ?_) (fun _ => ?_) | with_reducible refine grdF_goF (fun _ => ?_) (fun _ => ?_) | refine Calling.eq (B1 _) ?_ | refine Calling.eq (B2 _) ?_ | refine Calling.eq (B3 _) ?_ | refine Calling.eq (B4 _) ?_ | refine Calling.eq (S _) ?_ | refine Calling.eq (U _) ?_ | refine Calling.eq (E _) ?_))
        exact Fin.plain (by simp (maxDischargeDepth := 9) only [go_sem, *, ↓reduceIte, reduceCtorEq, Nat.reduceEqDiff, Nat.reduceAdd, Nat.reduceLeDiff, Nat.reduceLT, Nat.reduceMul, Int.reduceEq, Int.reduceNe, Int.reduceLE, Int.reduceLT, Int.reduceBEq, Int.reduceBNe, Int.reduceToNat]; rfl) (by (repeat (first | exact Sub.refl _ | assumption | refine Sub.upd2 ?_ _ _ | refine Sub.fresh ?_ (by assumption) | refine Sub.upd ?_ (by (first | assumption | exact nu1 (by assumption) | exact nu2 (by assumption) | exact nu3 (by assumption) | exact nu4 (by assumption) | exact nu5 (by assumption) | exact nu6 (by assumption) | exact nu7 (by assumption) | exact none_put (by assumption) (by assumption) | exact none_put (by assumption) (nu1 (by assumption)) | exact none_put (by assumption) (nu2 (by assumption)) | exact none_put (by assumption) (nu3 (by assumption)) | exact none_put (by assumption) (nu4 (by assumption)) | exact none_put (by assumption) (nu5 (by assumption))))))) ⟨by first | rfl | (simp [resV, *]; done), rfl⟩
      · have hb : (((v : Nat) : Int) != (w : Int)) = true := by simp; omega
        obtain ⟨h1, h2⟩ := hi false (by rw [ho]; simp [hv0])
        rw [if_neg (by simp)] at h1 h2
        clear ho hi hpe
        rw [h1, h2]
        clear h1 h2
        refine AC.body Tryd.func55 rfl rfl (n := 42) (res := [.cell 2 47, .tmp 3]) rfl rfl (by simp) ?_
        simp only [ent]
        (repeat' (first | with_reducible refine ARun.seq ?_ | with_reducible refine ARun.block ?_ | with_reducible refine ARun.inBlock ?_ | with_reducible refine ARun.skip ?_ | with_reducible refine And.intro ?_ ?_ | ((with_reducible refine ARun.region ?_ ?_); · rfl) | with_reducible refine Fresh.go fun _ _ _ => ?_ | ((with_reducible apply ARun.exit); · rfl) | with_reducible refine ARun.ret ?_ | ((with_reducible refine ARun.cond_t ?_ ?_); · rfl) | ((with_reducible refine ARun.cond_f ?_ ?_); · rfl) | ((with_reducible apply ARun.cond) <;> first | intro _ | rfl) | simp (maxDischargeDepth := 9) only [go_sem, *, ↓reduceIte, reduceCtorEq, Nat.reduceEqDiff, Nat.reduceAdd, Nat.reduceLeDiff, Nat.reduceLT, Nat.reduceMul, Int.reduceEq, Int.reduceNe, Int.reduceLE, Int.reduceLT, Int.reduceBEq, Int.reduceBNe, Int.reduceToNat] | with_reducible refine grdO_goT (fun _ => ?_) (fun _ => ?_) | with_reducible refine grdO_goF (fun _ => ?_) (fun _ => ?_) | with_reducible refine grdF_goT (fun _ => ?_) (fun _ => ?_) | with_reducible refine grdF_goF (fun _ => ?_) (fun _ => ?_) | refine Calling.eq (B1 _) ?_ | refine Calling.eq (B2 _) ?_ | refine Calling.eq (B3 _) ?_ | refine Calling.eq (B4 _) ?_ | refine Calling.eq (S _) ?_ | refine Calling.eq (U _) ?_ | refine Calling.eq (E _) ?_))
        exact Fin.plain (by simp (maxDischargeDepth := 9) only [go_sem, *, ↓reduceIte, reduceCtorEq, Nat.reduceEqDiff, Nat.reduceAdd, Nat.reduceLeDiff, Nat.reduceLT, Nat.reduceMul, Int.reduceEq, Int.reduceNe, Int.reduceLE, Int.reduceLT, Int.reduceBEq, Int.reduceBNe, Int.reduceToNat]; rfl) (by (repeat (first | exact Sub.refl _ | assumption | refine Sub.upd2 ?_ _ _ | refine Sub.fresh ?_ (by assumption) | refine Sub.upd ?_ (by (first | assumption | exact nu1 (by assumption) | exact nu2 (by assumption) | exact nu3 (by assumption) | exact nu4 (by assumption) | exact nu5 (by assumption) | exact nu6 (by assumption) | exact nu7 (by assumption) | exact none_put (by assumption) (by assumption) | exact none_put (by assumption) (nu1 (by assumption)) | exact none_put (by assumption) (nu2 (by assumption)) | exact none_put (by assumption) (nu3 (by assumption)) | exact none_put (by assumption) (nu4 (by assumption)) | exact none_put (by assumption) (nu5 (by assumption))))))) ⟨by first | rfl | (simp [resV, *]; done), rfl⟩
    · have hb : (k != 0) = true := by simpa using hk0
      obtain ⟨h1, h2⟩ := hi false (by rw [ho]; simp [hk0])
      rw [if_neg (by simp)] at h1 h2
      clear ho hi hpe
      rw [h1, h2]
      clear h1 h2
      refine AC.body Tryd.func55 rfl rfl (n := 42) (res := [.cell 2 47, .tmp 3]) rfl rfl (by simp) ?_
      simp only [ent]
      (repeat' (first | with_reducible refine ARun.seq ?_ | with_reducible refine ARun.block ?_ | with_reducible refine ARun.inBlock ?_ | with_reducible refine ARun.skip ?_ | with_reducible refine And.intro ?_ ?_ | ((with_reducible refine ARun.region ?_ ?_); · rfl) | with_reducible refine Fresh.go fun _ _ _ => ?_ | ((with_reducible apply ARun.exit); · rfl) | with_reducible refine ARun.ret ?_ | ((with_reducible refine ARun.cond_t ?_ ?_); · rfl) | ((with_reducible refine ARun.cond_f ?_ ?_); · rfl) | ((with_reducible apply ARun.cond) <;> first | intro _ | rfl) | simp (maxDischargeDepth := 9) only [go_sem, *, ↓reduceIte, reduceCtorEq, Nat.reduceEqDiff, Nat.reduceAdd, Nat.reduceLeDiff, Nat.reduceLT, Nat.reduceMul, Int.reduceEq, Int.reduceNe, Int.reduceLE, Int.reduceLT, Int.reduceBEq, Int.reduceBNe, Int.reduceToNat] | with_reducible refine grdO_goT (fun _ => ?_) (fun _ => ?_) | with_reducible refine grdO_goF (fun _ => ?_) (fun _ => ?_) | with_reducible refine grdF_goT (fun _ => ?_) (fun _ => ?_) | with_reducible refine grdF_goF (fun _ => ?_) (fun _ => ?_) | refine Calling.eq (B1 _) ?_ | refine Calling.eq (B2 _) ?_ | refine Calling.eq (B3 _) ?_ | refine Calling.eq (B4 _) ?_ | refine Calling.eq (S _) ?_ | refine Calling.eq (U _) ?_ | refine Calling.eq (E _) ?_))
      exact Fin.plain (by simp (maxDischargeDepth := 9) only [go_sem, *, ↓reduceIte, reduceCtorEq, Nat.reduceEqDiff, Nat.reduceAdd, Nat.reduceLeDiff, Nat.reduceLT, Nat.reduceMul, Int.reduceEq, Int.reduceNe, Int.reduceLE, Int.reduceLT, Int.reduceBEq, Int.reduceBNe, Int.reduceToNat]; rfl) (by (repeat (first | exact Sub.refl _ | assumption | refine Sub.upd2 ?_ _ _ | refine Sub.fresh ?_ (by assumption) | refine Sub.upd ?_ (by (first | assumption | exact nu1 (by assumption) | exact nu2 (by assumption) | exact nu3 (by assumption) | exact nu4 (by assumption) | exact nu5 (by assumption) | exact nu6 (by assumption) | exact nu7 (by assumption) | exact none_put (by assumption) (by assumption) | exact none_put (by assumption) (nu1 (by assumption)) | exact none_put (by assumption) (nu2 (by assumption)) | exact none_put (by assumption) (nu3 (by assumption)) | exact none_put (by assumption) (nu4 (by assumption)) | exact none_put (by assumption) (nu5 (by assumption))))))) ⟨by first | rfl | (simp [resV, *]; done), rfl⟩
end Go.Abs
