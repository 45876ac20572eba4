import Derived.Test.YtgecghkendfabaaDoorAdL
/- What is told of modules whose rows are one's own; what every right program tells of some modules. -/
namespace Go.Abs
set_option linter.unusedSimpArgs false
set_option linter.unusedVariables false
open Go.Proofs Go.Nm Go.Wd
set_option linter.unusedVariables false
set_option maxRecDepth 8000
variable {H : Heap}
theorem flatG {G : Heap} (g : GH G) : Flat G := fun b r h => by
  obtain ⟨o, ho⟩ := g.exact b (by rw [h]; simp)
  rw [ho] at h; cases h; rfl
theorem mod_conv {G K : Heap} {m : Mod} {b1 b2 b3 b4 b5 : Nat} (O : Owns G K (m.rows b1 b2 b3 b4 b5)) : Conv K G (m.own b1 b2 b3 b4 b5) m.tv := by
  have hf := O.free
  have hh := O.held
  simp only [Mod.rows_def, List.forall_mem_cons, List.not_mem_nil, false_implies, implies_true, and_true] at hf hh
  obtain ⟨f1, f2, f3, f4, f5⟩ := hf
  obtain ⟨h1, h2, h3, h4, h5⟩ := hh
  rw [Mod.own_def, Mod.tv_def]
  exact Conv.agg (.cons (Conv.refl O.sub _) (.cons (conv_own O.sub h1 f1 (each_s1 _)) (.cons (conv_own O.sub h2 f2 (each_s1 _)) (.cons (conv_own O.sub h3 f3 (each_u1 _)) (.cons (conv_own O.sub h4 f4 (each_u1 _)) (.cons (conv_own O.sub h5 f5 (each_relE _)) .nil))))))
theorem modO_c {G K : Heap} (g : GH G) {m : Mod} (hm : m.ok) {b1 b2 b3 b4 b5 : Nat} (O : Owns G K (m.rows b1 b2 b3 b4 b5)) : AC Tryd.prog 12 [m.own b1 b2 b3 b4 b5] K (fun r H' => r = .tup [.s (.int .u8 m.flt.1), .s (.int .i64 m.flt.2)] ∧ H' = K) :=
  AC.frame (module_c g (Sub.refl _) m hm) rfl (flatG g) O.sub (.cons (mod_conv O) .nil)
theorem chkO_c {G K : Heap} (g : GH G) {m : Mod} (hm : m.ok) {b1 b2 b3 b4 b5 : Nat} (O : Owns G K (m.rows b1 b2 b3 b4 b5)) : AC Tryd.prog 14 [m.own b1 b2 b3 b4 b5] K (fun r H' => r = .s (.int .i64 m.chk) ∧ H' = K) :=
  AC.frame (vCheck_c g (Sub.refl _) m hm) rfl (flatG g) O.sub (.cons (mod_conv O) .nil)
theorem sameO_c {G K : Heap} (g : GH G) {m n : Mod} (hm : m.ok) {b1 b2 b3 b4 b5 : Nat} (O : Owns G K (m.rows b1 b2 b3 b4 b5)) : AC Tryd.prog 16 [m.own b1 b2 b3 b4 b5, n.tv] K (fun r H' => r = .s (.bool (decide (m = n))) ∧ H' = K) :=
  AC.frame (same_c m n hm G) rfl (flatG g) O.sub (.cons (mod_conv O) (ConvL.refl O.sub _))
/-- A module of nothing but code. -/
def bare (s : ByteArray) (co : List Nat) : Mod := ⟨s, [], [], co, [], []⟩
theorem bare_ok {s : ByteArray} {co : List Nat} (hs : s.size ≤ 100) (hc : co.all (· < 2 ^ 32) = true) (hl : co.length ≤ 100) : (bare s co).ok where
  co := fun x h => by simpa using List.all_eq_true.1 hc x h
  da := fun s h => (List.not_mem_nil h).elim
  re := fun s h => (List.not_mem_nil h).elim
  lex := (by decide : (0 : Nat) < 4611686018427387904)
  lim := (by decide : (0 : Nat) < 4611686018427387904)
  lco := Nat.lt_of_le_of_lt hl (by decide)
  lda := (by decide : (0 : Nat) < 4611686018427387904)
  lre := (by decide : (0 : Nat) < 4611686018427387904)
theorem bare_tv (s : ByteArray) (co : List Nat) : (bare s co).tv = .agg [.s (.string s), .vs 1 [], .vs 1 [], .vs 1 (co.map u1), .vs 1 [], .vs 3 []] := rfl
theorem bare_c {G : Heap} (g : GH G) (hs : Sub G H) {s : ByteArray} {co : List Nat} (h1 : s.size ≤ 100) (h2 : co.all (· < 2 ^ 32) = true) (h3 : co.length ≤ 100) {b : Nat} (hb : H b = some (.cells (co.map u1).flatten)) (hn : G b = none) :
    AC Tryd.prog 12 [.agg [.s (.string s), .nils, .nils, .rs b 0 co.length 1, .nils, .nils]] H (fun r H' => r = .tup [.s (.int .u8 (bare s co).flt.1), .s (.int .i64 (bare s co).flt.2)] ∧ H' = H) := by
  have h := module_c g (Sub.refl _) (bare s co) (bare_ok h1 h2 h3)
  rw [bare_tv] at h
  refine AC.frame h rfl (flatG g) hs (.cons (Conv.agg (.cons (Conv.refl hs _) (.cons conv_nils (.cons conv_nils (.cons ?_ (.cons conv_nils (.cons conv_nils .nil))))))) .nil)
  have := conv_rs (k := 1) hs hb hn (each_u1 co)
  rw [List.length_map] at this
  exact this
theorem bare0_c {G : Heap} (g : GH G) (hs : Sub G H) {s : ByteArray} (h1 : s.size ≤ 100) :
    AC Tryd.prog 12 [.agg [.s (.string s), .nils, .nils, .nils, .nils, .nils]] H (fun r H' => r = .tup [.s (.int .u8 (bare s []).flt.1), .s (.int .i64 (bare s []).flt.2)] ∧ H' = H) := by
  have h := module_c g (Sub.refl _) (bare s []) (bare_ok h1 rfl (by decide))
  rw [bare_tv] at h
  exact AC.frame h rfl (flatG g) hs (.cons (Conv.agg (.cons (Conv.refl hs _) (.cons conv_nils (.cons conv_nils (.cons conv_nils (.cons conv_nils (.cons conv_nils .nil))))))) .nil)
theorem bareC_c {G : Heap} (g : GH G) (hs : Sub G H) {s : ByteArray} (h1 : s.size ≤ 100) :
    AC Tryd.prog 14 [.agg [.s (.string s), .nils, .nils, .nils, .nils, .nils]] H (fun r H' => r = .s (.int .i64 (bare s []).chk) ∧ H' = H) := by
  have h := vCheck_c g (Sub.refl _) (bare s []) (bare_ok h1 rfl (by decide))
  rw [bare_tv] at h
  exact AC.frame h rfl (flatG g) hs (.cons (Conv.agg (.cons (Conv.refl hs _) (.cons conv_nils (.cons conv_nils (.cons conv_nils (.cons conv_nils (.cons conv_nils .nil))))))) .nil)
theorem fA : (bare ⟨#[109]⟩ [0]).flt = (0, 0) := by kernel_rfl
theorem fB : (bare ⟨#[109]⟩ []).flt = (4, 0) := by kernel_rfl
theorem fC : (bare ⟨#[109]⟩ [0, 2281701381]).flt = (9, 1) := by kernel_rfl
theorem fZ : (bare ⟨#[]⟩ []).chk = 20 := by kernel_rfl
theorem awA {G : Heap} (g : GH G) (hs : Sub G H) {b : Nat} (hb : H b = some (.cells [.s (.int .u32 0)])) (hn : G b = none) : AC Tryd.prog 12 [.agg [.s (.string ⟨#[109]⟩), .nils, .nils, .rs b 0 1 1, .nils, .nils]] H (fun r H' => r = .tup [.s (.int .u8 0), .s (.int .i64 0)] ∧ H' = H) := by
  have h := bare_c (s := ⟨#[109]⟩) (co := [0]) g hs (by decide) rfl (by decide) hb hn
  rw [fA] at h; exact h
theorem awC {G : Heap} (g : GH G) (hs : Sub G H) {b : Nat} (hb : H b = some (.cells [.s (.int .u32 0), .s (.int .u32 2281701381)])) (hn : G b = none) : AC Tryd.prog 12 [.agg [.s (.string ⟨#[109]⟩), .nils, .nils, .rs b 0 2 1, .nils, .nils]] H (fun r H' => r = .tup [.s (.int .u8 9), .s (.int .i64 1)] ∧ H' = H) := by
  have h := bare_c (s := ⟨#[109]⟩) (co := [0, 2281701381]) g hs (by decide) rfl (by decide) hb hn
  rw [fC] at h; exact h
theorem awB {G : Heap} (g : GH G) (hs : Sub G H) : AC Tryd.prog 12 [.agg [.s (.string ⟨#[109]⟩), .nils, .nils, .nils, .nils, .nils]] H (fun r H' => r = .tup [.s (.int .u8 4), .s (.int .i64 0)] ∧ H' = H) := by
  have h := bare0_c (s := ⟨#[109]⟩) g hs (by decide)
  rw [fB] at h; exact h
theorem awZ {G : Heap} (g : GH G) (hs : Sub G H) : AC Tryd.prog 14 [.agg [.s (.string ByteArray.empty), .nils, .nils, .nils, .nils, .nils]] H (fun r H' => r = .s (.int .i64 20) ∧ H' = H) := by
  have h := bareC_c (s := ⟨#[]⟩) g hs (by decide)
  rw [fZ] at h; exact h
theorem awake_c {G : Heap} (g : GH G) (hs : Sub G H) : AC Tryd.prog 10 [] H (fun r H' => r = .s (.bool true) ∧ H' = H) := by
  refine AC.body Tryd.func10 rfl rfl (n := 53) (res := [.tmp 0]) rfl rfl (by simp) ?_
  simp only [ent]
  have W1 := later fun (K : Heap) (hs : Sub G K) (b : Nat) hb hn => awA g hs (b := b) hb hn
  have W2 := later fun (K : Heap) (hs : Sub G K) => awB g hs
  have W3 := later fun (K : Heap) (hs : Sub G K) (b : Nat) hb hn => awC g hs (b := b) hb hn
  have W4 := later fun (K : Heap) (hs : Sub G K) => awZ g hs
  (repeat' (first | with_reducible refine ARun.seq ?_ | with_reducible refine ARun.block ?_ | with_reducible refine ARun.inBlock ?_ | with_reducible refine ARun.skip ?_ | with_reducible refine And.intro ?_ ?_ | ((with_reducible refine ARun.region ?_ ?_); · rfl) | with_reducible refine Fresh.go fun _ _ _ => ?_ | ((with_reducible apply ARun.exit); · rfl) | with_reducible refine ARun.ret ?_ | ((with_reducible refine ARun.cond_t ?_ ?_); · rfl) | ((with_reducible refine ARun.cond_f ?_ ?_); · rfl) | ((with_reducible apply ARun.cond) <;> first | intro _ | rfl) | simp (maxDischargeDepth := 9) only [go_sem, *, ↓reduceIte, reduceCtorEq, Nat.reduceEqDiff, Nat.reduceAdd, Nat.reduceLeDiff, Nat.reduceLT, Nat.reduceMul, Int.reduceEq, Int.reduceNe, Int.reduceLE, Int.reduceLT, Int.reduceBEq, Int.reduceBNe, Int.reduceToNat] | with_reducible refine grdO_goT (fun _ => ?_) (fun _ => ?_) | with_reducible refine grdO_goF (fun _ => ?_) (fun _ => ?_) | with_reducible refine grdF_goT (fun _ => ?_) (fun _ => ?_) | with_reducible refine grdF_goF (fun _ => ?_) (fun _ => ?_) | refine Doing.fresh (oc_build1 ap23 (fun _ h => by cases h; rfl) rfl rfl (by decide) (by decide)) fun _ _ _ => ?_))
  rename_i b hb hbn
  have s1 : ∀ r, Sub G (upd H b r) := fun r => Sub.upd hs (hs.none hb)
  have n1 : G b = none := hs.none hb
  (repeat' (first | with_reducible refine ARun.seq ?_ | with_reducible refine ARun.block ?_ | with_reducible refine ARun.inBlock ?_ | with_reducible refine ARun.skip ?_ | with_reducible refine And.intro ?_ ?_ | ((with_reducible refine ARun.region ?_ ?_); · rfl) | with_reducible refine Fresh.go fun _ _ _ => ?_ | ((with_reducible apply ARun.exit); · rfl) | with_reducible refine ARun.ret ?_ | ((with_reducible refine ARun.cond_t ?_ ?_); · rfl) | ((with_reducible refine ARun.cond_f ?_ ?_); · rfl) | ((with_reducible apply ARun.cond) <;> first | intro _ | rfl) | simp (maxDischargeDepth := 9) only [go_sem, *, ↓reduceIte, reduceCtorEq, Nat.reduceEqDiff, Nat.reduceAdd, Nat.reduceLeDiff, Nat.reduceLT, Nat.reduceMul, Int.reduceEq, Int.reduceNe, Int.reduceLE, Int.reduceLT, Int.reduceBEq, Int.reduceBNe, Int.reduceToNat] | with_reducible refine grdO_goT (fun _ => ?_) (fun _ => ?_) | with_reducible refine grdO_goF (fun _ => ?_) (fun _ => ?_) | with_reducible refine grdF_goT (fun _ => ?_) (fun _ => ?_) | with_reducible refine grdF_goF (fun _ => ?_) (fun _ => ?_) | refine Calling.eq (W1.go _ (s1 _) _ (by simp (maxDischargeDepth := 9) only [go_sem, *, ↓reduceIte, reduceCtorEq, Nat.reduceEqDiff, Nat.reduceAdd, Nat.reduceLeDiff, Nat.reduceLT, Nat.reduceMul, Int.reduceEq, Int.reduceNe, Int.reduceLE, Int.reduceLT, Int.reduceBEq, Int.reduceBNe, Int.reduceToNat]) n1) ?_ | refine Calling.eq (W2.go _ (s1 _)) ?_ | refine Doing.fresh (oc_build (n := 2) (es := [[.s (.int .u32 0)], [.s (.int .u32 2281701381)]]) ap23 (fun _ h => by cases h; rfl) rfl rfl rfl (.cons rfl (.cons rfl .nil)) (by decide) (by decide) (by decide)) fun _ _ _ => ?_))
  rename_i b2 hb2 hbn2
  have s2 : ∀ r, Sub G (upd (upd H b (.cells [.s (.int .u32 0)])) b2 r) := fun r => Sub.upd (s1 _) ((s1 _).none hb2)
  have n2 : G b2 = none := (s1 _).none hb2
  (repeat' (first | with_reducible refine ARun.seq ?_ | with_reducible refine ARun.block ?_ | with_reducible refine ARun.inBlock ?_ | with_reducible refine ARun.skip ?_ | with_reducible refine And.intro ?_ ?_ | ((with_reducible refine ARun.region ?_ ?_); · rfl) | with_reducible refine Fresh.go fun _ _ _ => ?_ | ((with_reducible apply ARun.exit); · rfl) | with_reducible refine ARun.ret ?_ | ((with_reducible refine ARun.cond_t ?_ ?_); · rfl) | ((with_reducible refine ARun.cond_f ?_ ?_); · rfl) | ((with_reducible apply ARun.cond) <;> first | intro _ | rfl) | simp (maxDischargeDepth := 9) only [go_sem, *, ↓reduceIte, reduceCtorEq, Nat.reduceEqDiff, Nat.reduceAdd, Nat.reduceLeDiff, Nat.reduceLT, Nat.reduceMul, Int.reduceEq, Int.reduceNe, Int.reduceLE, Int.reduceLT, Int.reduceBEq, Int.reduceBNe, Int.reduceToNat] | with_reducible refine grdO_goT (fun _ => ?_) (fun _ => ?_) | with_reducible refine grdO_goF (fun _ => ?_) (fun _ => ?_) | with_reducible refine grdF_goT (fun _ => ?_) (fun _ => ?_) | with_reducible refine grdF_goF (fun _ => ?_) (fun _ => ?_) | refine Calling.eq (W3.go _ (s2 _) _ (upd_self _ _ _) n2) ?_ | refine Calling.eq (W4.go _ (s2 _)) ?_))
  exact Fin.plain (by simp (maxDischargeDepth := 9) only [go_sem, *, ↓reduceIte, reduceCtorEq, Nat.reduceEqDiff, Nat.reduceAdd, Nat.reduceLeDiff, Nat.reduceLT, Nat.reduceMul, Int.reduceEq, Int.reduceNe, Int.reduceLE, Int.reduceLT, Int.reduceBEq, Int.reduceBNe, Int.reduceToNat]; rfl) (by (repeat (first | exact Sub.refl _ | assumption | refine Sub.upd2 ?_ _ _ | refine Sub.fresh ?_ (by assumption) | refine Sub.upd ?_ (by (first | assumption | exact nu1 (by assumption) | exact nu2 (by assumption) | exact nu3 (by assumption) | exact nu4 (by assumption) | exact nu5 (by assumption) | exact nu6 (by assumption) | exact nu7 (by assumption) | exact none_put (by assumption) (by assumption) | exact none_put (by assumption) (nu1 (by assumption)) | exact none_put (by assumption) (nu2 (by assumption)) | exact none_put (by assumption) (nu3 (by assumption)) | exact none_put (by assumption) (nu4 (by assumption)) | exact none_put (by assumption) (nu5 (by assumption))))))) ⟨by first | rfl | (simp [resV, *]; done), rfl⟩
end Go.Abs
