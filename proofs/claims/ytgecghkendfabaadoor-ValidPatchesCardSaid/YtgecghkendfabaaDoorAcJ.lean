import Derived.Test.YtgecghkendfabaaDoorAcI
/- Instructions, as words: what the program's functions make. -/
namespace Go.Abs
set_option linter.unusedSimpArgs false
set_option linter.unusedVariables false
open Go.Proofs Go.Wd
set_option linter.unusedVariables false
set_option maxRecDepth 8000
variable {H : Heap}
/-- What Encode tells. -/
def Ins.word (x : Ins) : Nat := if x.chk = 0 then encN x.o x.d x.a x.b x.i else 0
theorem Ins.word_lt (x : Ins) : x.word < 2 ^ 32 := by unfold Ins.word; split; exact withN_lt _ _ _ _; decide
theorem w8to32 {x : Nat} (h : x < 256) : IntKind.u32.wrap (x : Int) = (x : Int) := w32 (by omega) (by omega)
theorem encode_c {x : Ins} (hx : x.ok) : AC Tryd.prog 37 [.agg x.enc] H (fun r H' => r = .tup [.s (.int .u32 (x.word : Nat)), .s (.int .i64 x.chk)] ∧ H' = H) := by
  have hk := fun H => isaCheck_c (H := H) hx
  by_cases hc : x.chk = 0
  · have hw : x.word = encN x.o x.d x.a x.b x.i := by unfold Ins.word; rw [if_pos hc]
    rw [hw, hc]
    obtain ⟨o, d, a, b, i⟩ := x
    simp only [Ins.enc_def, Ins.ok, hc] at hx hk ⊢
    obtain ⟨h1, h2, h3, h4, h5, h6⟩ := hx
    clear hw hc
    have e1 := w8to32 h1
    have e2 := w8to32 h2
    have e3 := w8to32 h3
    have e4 := w8to32 h4
    have c1 := cutN_lt i
    have e5 := or_nat (cutN i) b (by omega) (by omega)
    have c2 : cutN i ||| b < 2 ^ 32 := or_lt _ _ _ (by omega) (by omega)
    unfold encN
    have A1 := fun H => with_c (H := H) (w := cutN i ||| b) (a := 27) (n := 5) (v := o) c2 (by omega) (by decide)
    have A2 := fun H => with_c (H := H) (w := withN (cutN i ||| b) 27 5 o) (a := 24) (n := 3) (v := d) (withN_lt _ _ _ _) (by omega) (by decide)
    have A3 := fun H => with_c (H := H) (w := withN (withN (cutN i ||| b) 27 5 o) 24 3 d) (a := 21) (n := 3) (v := a) (withN_lt _ _ _ _) (by omega) (by decide)
    simp only [Int.cast_ofNat_Int] at A1 A2 A3
    refine AC.body Tryd.func37 rfl rfl (n := 31) (res := [.tmp 2, .tmp 3]) rfl rfl (by simp) ?_
    simp only [ent]
    (repeat' (first | with_reducible refine ARun.seq ?_ | with_reducible refine ARun.block ?_ | with_reducible refine ARun.inBlock ?_ | with_reducible refine ARun.skip ?_ | with_reducible refine And.intro ?_ ?_ | ((with_reducible refine ARun.region ?_ ?_); · rfl) | with_reducible refine Fresh.go fun _ _ _ => ?_ | ((with_reducible apply ARun.exit); · rfl) | with_reducible refine ARun.ret ?_ | ((with_reducible refine ARun.cond_t ?_ ?_); · rfl) | ((with_reducible refine ARun.cond_f ?_ ?_); · rfl) | ((with_reducible apply ARun.cond) <;> first | intro _ | rfl) | simp (maxDischargeDepth := 9) only [go_sem, *, ↓reduceIte, reduceCtorEq, Nat.reduceEqDiff, Nat.reduceAdd, Nat.reduceLeDiff, Nat.reduceLT, Nat.reduceMul, Int.reduceEq, Int.reduceNe, Int.reduceLE, Int.reduceLT, Int.reduceBEq, Int.reduceBNe, Int.reduceToNat] | with_reducible refine grdO_goT (fun _ => ?_) (fun _ => ?_) | with_reducible refine grdO_goF (fun _ => ?_) (fun _ => ?_) | with_reducible refine grdF_goT (fun _ => ?_) (fun _ => ?_) | with_reducible refine grdF_goF (fun _ => ?_) (fun _ => ?_) | refine Calling.eq (hk _) ?_ | refine Calling.eq (cut_c) ?_ | refine Calling.eq (A1 _) ?_ | refine Calling.eq (A2 _) ?_ | refine Calling.eq (A3 _) ?_))
    refine ARun.drawB mixed [([], [0, 1, 3, 4, 5, 7, 8, 9], some 2), ([0, 3, 4, 5, 7, 8, 9], [6], some 10), ([0, 1, 3, 4, 5, 7, 8], [11], none)] (by kernel_rfl) (by rfl) ?_
    (repeat' (first | with_reducible refine ARun.seq ?_ | with_reducible refine ARun.block ?_ | with_reducible refine ARun.inBlock ?_ | with_reducible refine ARun.skip ?_ | with_reducible refine And.intro ?_ ?_ | ((with_reducible refine ARun.region ?_ ?_); · rfl) | with_reducible refine Fresh.go fun _ _ _ => ?_ | ((with_reducible apply ARun.exit); · rfl) | with_reducible refine ARun.ret ?_ | ((with_reducible refine ARun.cond_t ?_ ?_); · rfl) | ((with_reducible refine ARun.cond_f ?_ ?_); · rfl) | ((with_reducible apply ARun.cond) <;> first | intro _ | rfl) | simp (maxDischargeDepth := 9) only [go_sem, *, ↓reduceIte, reduceCtorEq, Nat.reduceEqDiff, Nat.reduceAdd, Nat.reduceLeDiff, Nat.reduceLT, Nat.reduceMul, Int.reduceEq, Int.reduceNe, Int.reduceLE, Int.reduceLT, Int.reduceBEq, Int.reduceBNe, Int.reduceToNat] | with_reducible refine grdO_goT (fun _ => ?_) (fun _ => ?_) | with_reducible refine grdO_goF (fun _ => ?_) (fun _ => ?_) | with_reducible refine grdF_goT (fun _ => ?_) (fun _ => ?_) | with_reducible refine grdF_goF (fun _ => ?_) (fun _ => ?_) | refine Calling.eq (hk _) ?_ | refine Calling.eq (cut_c) ?_ | refine Calling.eq (A1 _) ?_ | refine Calling.eq (A2 _) ?_ | refine Calling.eq (A3 _) ?_))
    refine ARun.drawB mixed [([], [0, 1, 2, 3, 5, 6, 7], some 4), ([1, 2, 5, 6, 7], [], some 8), ([0, 1, 2, 3, 5, 6], [9, 10], none)] (by kernel_rfl) (by rfl) ?_
    (repeat' (first | with_reducible refine ARun.seq ?_ | with_reducible refine ARun.block ?_ | with_reducible refine ARun.inBlock ?_ | with_reducible refine ARun.skip ?_ | with_reducible refine And.intro ?_ ?_ | ((with_reducible refine ARun.region ?_ ?_); · rfl) | with_reducible refine Fresh.go fun _ _ _ => ?_ | ((with_reducible apply ARun.exit); · rfl) | with_reducible refine ARun.ret ?_ | ((with_reducible refine ARun.cond_t ?_ ?_); · rfl) | ((with_reducible refine ARun.cond_f ?_ ?_); · rfl) | ((with_reducible apply ARun.cond) <;> first | intro _ | rfl) | simp (maxDischargeDepth := 9) only [go_sem, *, ↓reduceIte, reduceCtorEq, Nat.reduceEqDiff, Nat.reduceAdd, Nat.reduceLeDiff, Nat.reduceLT, Nat.reduceMul, Int.reduceEq, Int.reduceNe, Int.reduceLE, Int.reduceLT, Int.reduceBEq, Int.reduceBNe, Int.reduceToNat] | with_reducible refine grdO_goT (fun _ => ?_) (fun _ => ?_) | with_reducible refine grdO_goF (fun _ => ?_) (fun _ => ?_) | with_reducible refine grdF_goT (fun _ => ?_) (fun _ => ?_) | with_reducible refine grdF_goF (fun _ => ?_) (fun _ => ?_) | refine Calling.eq (hk _) ?_ | refine Calling.eq (cut_c) ?_ | refine Calling.eq (A1 _) ?_ | refine Calling.eq (A2 _) ?_ | refine Calling.eq (A3 _) ?_))
    exact Fin.plain (by simp (maxDischargeDepth := 9) only [go_sem, *, ↓reduceIte, reduceCtorEq, Nat.reduceEqDiff, Nat.reduceAdd, Nat.reduceLeDiff, Nat.reduceLT, Nat.reduceMul, Int.reduceEq, Int.reduceNe, Int.reduceLE, Int.reduceLT, Int.reduceBEq, Int.reduceBNe, Int.reduceToNat]; rfl) (by (repeat (first | exact Sub.refl _ | assumption | refine Sub.upd2 ?_ _ _ | refine Sub.fresh ?_ (by assumption) | refine Sub.upd ?_ (by (first | assumption | exact nu1 (by assumption) | exact nu2 (by assumption) | exact nu3 (by assumption) | exact nu4 (by assumption) | exact nu5 (by assumption) | exact nu6 (by assumption) | exact nu7 (by assumption) | exact none_put (by assumption) (by assumption) | exact none_put (by assumption) (nu1 (by assumption)) | exact none_put (by assumption) (nu2 (by assumption)) | exact none_put (by assumption) (nu3 (by assumption)) | exact none_put (by assumption) (nu4 (by assumption)) | exact none_put (by assumption) (nu5 (by assumption))))))) ⟨by first | rfl | (simp [resV, *]; done), rfl⟩
  · have hw : x.word = 0 := by unfold Ins.word; rw [if_neg hc]
    rw [hw]
    have hb : (x.chk != 0) = true := by simpa using hc
    simp only [Ins.enc_def] at hk ⊢
    refine AC.body Tryd.func37 rfl rfl (n := 31) (res := [.tmp 2, .tmp 3]) rfl rfl (by simp) ?_
    simp only [ent]
    (repeat' (first | with_reducible refine ARun.seq ?_ | with_reducible refine ARun.block ?_ | with_reducible refine ARun.inBlock ?_ | with_reducible refine ARun.skip ?_ | with_reducible refine And.intro ?_ ?_ | ((with_reducible refine ARun.region ?_ ?_); · rfl) | with_reducible refine Fresh.go fun _ _ _ => ?_ | ((with_reducible apply ARun.exit); · rfl) | with_reducible refine ARun.ret ?_ | ((with_reducible refine ARun.cond_t ?_ ?_); · rfl) | ((with_reducible refine ARun.cond_f ?_ ?_); · rfl) | ((with_reducible apply ARun.cond) <;> first | intro _ | rfl) | simp (maxDischargeDepth := 9) only [go_sem, *, ↓reduceIte, reduceCtorEq, Nat.reduceEqDiff, Nat.reduceAdd, Nat.reduceLeDiff, Nat.reduceLT, Nat.reduceMul, Int.reduceEq, Int.reduceNe, Int.reduceLE, Int.reduceLT, Int.reduceBEq, Int.reduceBNe, Int.reduceToNat] | with_reducible refine grdO_goT (fun _ => ?_) (fun _ => ?_) | with_reducible refine grdO_goF (fun _ => ?_) (fun _ => ?_) | with_reducible refine grdF_goT (fun _ => ?_) (fun _ => ?_) | with_reducible refine grdF_goF (fun _ => ?_) (fun _ => ?_) | refine Calling.eq (hk _) ?_))
    exact Fin.plain (by simp (maxDischargeDepth := 9) only [go_sem, *, ↓reduceIte, reduceCtorEq, Nat.reduceEqDiff, Nat.reduceAdd, Nat.reduceLeDiff, Nat.reduceLT, Nat.reduceMul, Int.reduceEq, Int.reduceNe, Int.reduceLE, Int.reduceLT, Int.reduceBEq, Int.reduceBNe, Int.reduceToNat]; rfl) (by (repeat (first | exact Sub.refl _ | assumption | refine Sub.upd2 ?_ _ _ | refine Sub.fresh ?_ (by assumption) | refine Sub.upd ?_ (by (first | assumption | exact nu1 (by assumption) | exact nu2 (by assumption) | exact nu3 (by assumption) | exact nu4 (by assumption) | exact nu5 (by assumption) | exact nu6 (by assumption) | exact nu7 (by assumption) | exact none_put (by assumption) (by assumption) | exact none_put (by assumption) (nu1 (by assumption)) | exact none_put (by assumption) (nu2 (by assumption)) | exact none_put (by assumption) (nu3 (by assumption)) | exact none_put (by assumption) (nu4 (by assumption)) | exact none_put (by assumption) (nu5 (by assumption))))))) ⟨by first | rfl | (simp [resV, *]; done), rfl⟩
/-- What a word's parts are. -/
def parts (w : Nat) : Ins := ⟨bitsN w 27 5, bitsN w 24 3, bitsN w 21 3, if (usesR (opN w)).2.2.1 = true then bitsN w 0 3 else 0, iN w⟩
theorem parts_ok (w : Nat) : (parts w).ok := by
  have h1 := bitsN_lt w 27 5
  have h2 := bitsN_lt w 24 3
  have h3 := bitsN_lt w 21 3
  have h4 := bitsN_lt w 0 3
  have h5 := iN_lt w
  refine ⟨?_, ?_, ?_, ?_, h5.1, h5.2⟩ <;> simp only [parts] <;> try omega
  split <;> omega
def insOk (w : Nat) : Bool := decide ((parts w).chk = 0) && (parts w).word == w
def Ins.zero : Ins := ⟨0, 0, 0, 0, 0⟩
/-- What Decode tells. -/
def dec (w : Nat) : Ins := if insOk w = true then parts w else Ins.zero
def decE (w : Nat) : Int := if insOk w = true then 0 else 10
theorem bits_c' {w a n : Nat} (hw : w < 2 ^ 32) (h : a + n ≤ 32) (hn : n ≤ 8) : IntKind.u8.wrap ((bitsN w a n : Nat) : Int) = ((bitsN w a n : Nat) : Int) := by
  have h1 := bitsN_lt w a n
  have : 2 ^ n ≤ 2 ^ 8 := Nat.pow_le_pow_right (by decide) hn
  exact w8 (by omega) (by omega)
theorem decode_c {w : Nat} (hw : w < 2 ^ 32) : AC Tryd.prog 17 [.s (.int .u32 w)] H (fun r H' => r = .tup [.agg (dec w).enc, .s (.int .i64 (decE w))] ∧ H' = H) := by
  have B1 := fun H => bits_c (H := H) (w := w) (a := 27) (n := 5) hw (by decide)
  have B2 := fun H => bits_c (H := H) (w := w) (a := 24) (n := 3) hw (by decide)
  have B3 := fun H => bits_c (H := H) (w := w) (a := 21) (n := 3) hw (by decide)
  have B4 := fun H => bits_c (H := H) (w := w) (a := 0) (n := 3) hw (by decide)
  have S := fun H => signed_c (H := H) hw
  simp only [Int.cast_ofNat_Int] at B1 B2 B3 B4
  have e1 := bits_c' hw (a := 27) (n := 5) (by decide) (by decide)
  have e2 := bits_c' hw (a := 24) (n := 3) (by decide) (by decide)
  have e3 := bits_c' hw (a := 21) (n := 3) (by decide) (by decide)
  have e4 := bits_c' hw (a := 0) (n := 3) (by decide) (by decide)
  have hp := parts_ok w
  have E := fun H => encode_c (H := H) hp
  have U := fun H => uses_c (H := H) (o := bitsN w 27 5)
  have hi : ∀ b : Bool, insOk w = b → dec w = (if b = true then parts w else Ins.zero) ∧ decE w = (if b = true then 0 else 10) := fun b h => by unfold dec decE; rw [h]; exact ⟨rfl, rfl⟩
  have ho : insOk w = (decide ((parts w).chk = 0) && (parts w).word == w) := rfl
  have hu : usesR ((bitsN w 27 5 : Nat) : Int) = ((usesR ((bitsN w 27 5 : Nat) : Int)).1, (usesR ((bitsN w 27 5 : Nat) : Int)).2.1, (usesR ((bitsN w 27 5 : Nat) : Int)).2.2.1, (usesR ((bitsN w 27 5 : Nat) : Int)).2.2.2) := rfl
  cases hu3 : (usesR ((bitsN w 27 5 : Nat) : Int)).2.2.1 with
  | true =>
    have hpe : parts w = ⟨bitsN w 27 5, bitsN w 24 3, bitsN w 21 3, bitsN w 0 3, 0⟩ := by unfold parts iN opN; rw [hu3]; rfl
    rw [hu3] at hu
    generalize (usesR ((bitsN w 27 5 : Nat) : Int)).1 = u1 at hu
    generalize (usesR ((bitsN w 27 5 : Nat) : Int)).2.1 = u2 at hu
    generalize (usesR ((bitsN w 27 5 : Nat) : Int)).2.2.2 = u4 at hu
    rw [hu] at U
    simp only [b4_mk] at U
    generalize hk : (parts w).chk = k at E ho
    generalize hv : (parts w).word = v at E ho
    rw [hpe, Ins.enc_def] at E
    simp only [] at E
    clear hk hv hp hu3 hu
    by_cases hk0 : k = 0
    · subst hk0
      by_cases hv0 : v = w
      · subst hv0
        obtain ⟨h1, h2⟩ := hi true (by simpa using ho)
        rw [if_pos rfl, hpe] at h1
        rw [if_pos rfl] at h2
        clear ho hi hpe
        rw [h1, h2, Ins.enc_def]
        clear h1 h2
        refine AC.body Tryd.func17 rfl rfl (n := 51) (res := [.cell 2 47, .tmp 3]) rfl rfl (by simp) ?_
        simp only [ent]
        (repeat' (first | with_reducible refine ARun.seq ?_ | with_reducible refine ARun.block ?_ | with_reducible refine ARun.inBlock ?_ | with_reducible refine ARun.skip ?_ | with_reducible refine And.intro ?_ ?_ | ((with_reducible refine ARun.region ?_ ?_); · rfl) | with_reducible refine Fresh.go fun _ _ _ => ?_ | ((with_reducible apply ARun.exit); · rfl) | with_reducible refine ARun.ret ?_ | ((with_reducible refine ARun.cond_t ?_ ?_); · rfl) | ((with_reducible refine ARun.cond_f ?_ ?_); · rfl) | ((with_reducible apply ARun.cond) <;> first | intro _ | rfl) | simp (maxDischargeDepth := 9) only [go_sem, *, ↓reduceIte, reduceCtorEq, Nat.reduceEqDiff, Nat.reduceAdd, Nat.reduceLeDiff, Nat.reduceLT, Nat.reduceMul, Int.reduceEq, Int.reduceNe, Int.reduceLE, Int.reduceLT, Int.reduceBEq, Int.reduceBNe, Int.reduceToNat] | with_reducible refine grdO_goT (fun _ => ?_) (fun _ => ?_) | with_reducible refine grdO_goF (fun _ => ?_) (fun _ => ?_) | with_reducible refine grdF_goT (fun _ => ?_) (fun _ => ?_) | with_reducible refine grdF_goF (fun _ => ?_) (fun _ => ?_) | refine Calling.eq (B1 _) ?_ | refine Calling.eq (B2 _) ?_ | refine Calling.eq (B3 _) ?_ | refine Calling.eq (B4 _) ?_ | refine Calling.eq (S _) ?_ | refine Calling.eq (U _) ?_ | refine Calling.eq (E _) ?_))
        exact Fin.plain (by simp (maxDischargeDepth := 9) only [go_sem, *, ↓reduceIte, reduceCtorEq, Nat.reduceEqDiff, Nat.reduceAdd, Nat.reduceLeDiff, Nat.reduceLT, Nat.reduceMul, Int.reduceEq, Int.reduceNe, Int.reduceLE, Int.reduceLT, Int.reduceBEq, Int.reduceBNe, Int.reduceToNat]; rfl) (by (repeat (first | exact Sub.refl _ | assumption | refine Sub.upd2 ?_ _ _ | refine Sub.fresh ?_ (by assumption) | refine Sub.upd ?_ (by (first | assumption | exact nu1 (by assumption) | exact nu2 (by assumption) | exact nu3 (by assumption) | exact nu4 (by assumption) | exact nu5 (by assumption) | exact nu6 (by assumption) | exact nu7 (by assumption) | exact none_put (by assumption) (by assumption) | exact none_put (by assumption) (nu1 (by assumption)) | exact none_put (by assumption) (nu2 (by assumption)) | exact none_put (by assumption) (nu3 (by assumption)) | exact none_put (by assumption) (nu4 (by assumption)) | exact none_put (by assumption) (nu5 (by assumption))))))) ⟨by first | rfl | (simp [resV, *]; done), rfl⟩
      · have hb : (((v : Nat) : Int) != (w : Int)) = true := by simp; omega
        obtain ⟨h1, h2⟩ := hi false (by rw [ho]; simp [hv0])
        rw [if_neg (by simp)] at h1 h2
        clear ho hi hpe
        rw [h1, h2]
        clear h1 h2
        refine AC.body Tryd.func17 rfl rfl (n := 51) (res := [.cell 2 47, .tmp 3]) rfl rfl (by simp) ?_
        simp only [ent]
        (repeat' (first | with_reducible refine ARun.seq ?_ | with_reducible refine ARun.block ?_ | with_reducible refine ARun.inBlock ?_ | with_reducible refine ARun.skip ?_ | with_reducible refine And.intro ?_ ?_ | ((with_reducible refine ARun.region ?_ ?_); · rfl) | with_reducible refine Fresh.go fun _ _ _ => ?_ | ((with_reducible apply ARun.exit); · rfl) | with_reducible refine ARun.ret ?_ | ((with_reducible refine ARun.cond_t ?_ ?_); · rfl) | ((with_reducible refine ARun.cond_f ?_ ?_); · rfl) | ((with_reducible apply ARun.cond) <;> first | intro _ | rfl) | simp (maxDischargeDepth := 9) only [go_sem, *, ↓reduceIte, reduceCtorEq, Nat.reduceEqDiff, Nat.reduceAdd, Nat.reduceLeDiff, Nat.reduceLT, Nat.reduceMul, Int.reduceEq, Int.reduceNe, Int.reduceLE, Int.reduceLT, Int.reduceBEq, Int.reduceBNe, Int.reduceToNat] | with_reducible refine grdO_goT (fun _ => ?_) (fun _ => ?_) | with_reducible refine grdO_goF (fun _ => ?_) (fun _ => ?_) | with_reducible refine grdF_goT (fun _ => ?_) (fun _ => ?_) | with_reducible refine grdF_goF (fun _ => ?_) (fun _ => ?_) | refine Calling.eq (B1 _) ?_ | refine Calling.eq (B2 _) ?_ | refine Calling.eq (B3 _) ?_ | refine Calling.eq (B4 _) ?_ | refine Calling.eq (S _) ?_ | refine Calling.eq (U _) ?_ | refine Calling.eq (E _) ?_))
        exact Fin.plain (by simp (maxDischargeDepth := 9) only [go_sem, *, ↓reduceIte, reduceCtorEq, Nat.reduceEqDiff, Nat.reduceAdd, Nat.reduceLeDiff, Nat.reduceLT, Nat.reduceMul, Int.reduceEq, Int.reduceNe, Int.reduceLE, Int.reduceLT, Int.reduceBEq, Int.reduceBNe, Int.reduceToNat]; rfl) (by (repeat (first | exact Sub.refl _ | assumption | refine Sub.upd2 ?_ _ _ | refine Sub.fresh ?_ (by assumption) | refine Sub.upd ?_ (by (first | assumption | exact nu1 (by assumption) | exact nu2 (by assumption) | exact nu3 (by assumption) | exact nu4 (by assumption) | exact nu5 (by assumption) | exact nu6 (by assumption) | exact nu7 (by assumption) | exact none_put (by assumption) (by assumption) | exact none_put (by assumption) (nu1 (by assumption)) | exact none_put (by assumption) (nu2 (by assumption)) | exact none_put (by assumption) (nu3 (by assumption)) | exact none_put (by assumption) (nu4 (by assumption)) | exact none_put (by assumption) (nu5 (by assumption))))))) ⟨by first | rfl | (simp [resV, *]; done), rfl⟩
    · have hb : (k != 0) = true := by simpa using hk0
      obtain ⟨h1, h2⟩ := hi false (by rw [ho]; simp [hk0])
      rw [if_neg (by simp)] at h1 h2
      clear ho hi hpe
      rw [h1, h2]
      clear h1 h2
      refine AC.body Tryd.func17 rfl rfl (n := 51) (res := [.cell 2 47, .tmp 3]) rfl rfl (by simp) ?_
      simp only [ent]
      (repeat' (first | with_reducible refine ARun.seq ?_ | with_reducible refine ARun.block ?_ | with_reducible refine ARun.inBlock ?_ | with_reducible refine ARun.skip ?_ | with_reducible refine And.intro ?_ ?_ | ((with_reducible refine ARun.region ?_ ?_); · rfl) | with_reducible refine Fresh.go fun _ _ _ => ?_ | ((with_reducible apply ARun.exit); · rfl) | with_reducible refine ARun.ret ?_ | ((with_reducible refine ARun.cond_t ?_ ?_); · rfl) | ((with_reducible refine ARun.cond_f ?_ ?_); · rfl) | ((with_reducible apply ARun.cond) <;> first | intro _ | rfl) | simp (maxDischargeDepth := 9) only [go_sem, *, ↓reduceIte, reduceCtorEq, Nat.reduceEqDiff, Nat.reduceAdd, Nat.reduceLeDiff, Nat.reduceLT, Nat.reduceMul, Int.reduceEq, Int.reduceNe, Int.reduceLE, Int.reduceLT, Int.reduceBEq, Int.reduceBNe, Int.reduceToNat] | with_reducible refine grdO_goT (fun _ => ?_) (fun _ => ?_) | with_reducible refine grdO_goF (fun _ => ?_) (fun _ => ?_) | with_reducible refine grdF_goT (fun _ => ?_) (fun _ => ?_) | with_reducible refine grdF_goF (fun _ => ?_) (fun _ => ?_) | refine Calling.eq (B1 _) ?_ | refine Calling.eq (B2 _) ?_ | refine Calling.eq (B3 _) ?_ | refine Calling.eq (B4 _) ?_ | refine Calling.eq (S _) ?_ | refine Calling.eq (U _) ?_ | refine Calling.eq (E _) ?_))
      exact Fin.plain (by simp (maxDischargeDepth := 9) only [go_sem, *, ↓reduceIte, reduceCtorEq, Nat.reduceEqDiff, Nat.reduceAdd, Nat.reduceLeDiff, Nat.reduceLT, Nat.reduceMul, Int.reduceEq, Int.reduceNe, Int.reduceLE, Int.reduceLT, Int.reduceBEq, Int.reduceBNe, Int.reduceToNat]; rfl) (by (repeat (first | exact Sub.refl _ | assumption | refine Sub.upd2 ?_ _ _ | refine Sub.fresh ?_ (by assumption) | refine Sub.upd ?_ (by (first | assumption | exact nu1 (by assumption) | exact nu2 (by assumption) | exact nu3 (by assumption) | exact nu4 (by assumption) | exact nu5 (by assumption) | exact nu6 (by assumption) | exact nu7 (by assumption) | exact none_put (by assumption) (by assumption) | exact none_put (by assumption) (nu1 (by assumption)) | exact none_put (by assumption) (nu2 (by assumption)) | exact none_put (by assumption) (nu3 (by assumption)) | exact none_put (by assumption) (nu4 (by assumption)) | exact none_put (by assumption) (nu5 (by assumption))))))) ⟨by first | rfl | (simp [resV, *]; done), rfl⟩
  | false =>
    have hpe : parts w = ⟨bitsN w 27 5, bitsN w 24 3, bitsN w 21 3, 0, signN w⟩ := by unfold parts iN opN; rw [hu3]; rfl
    rw [hu3] at hu
    generalize (usesR ((bitsN w 27 5 : Nat) : Int)).1 = u1 at hu
    generalize (usesR ((bitsN w 27 5 : Nat) : Int)).2.1 = u2 at hu
    generalize (usesR ((bitsN w 27 5 : Nat) : Int)).2.2.2 = u4 at hu
    rw [hu] at U
    simp only [b4_mk] at U
    generalize hk : (parts w).chk = k at E ho
    generalize hv : (parts w).word = v at E ho
    rw [hpe, Ins.enc_def] at E
    simp only [Int.cast_ofNat_Int] at E
    clear hk hv hp hu3 hu
    by_cases hk0 : k = 0
    · subst hk0
      by_cases hv0 : v = w
      · subst hv0
        obtain ⟨h1, h2⟩ := hi true (by simpa using ho)
        rw [if_pos rfl, hpe] at h1
        rw [if_pos rfl] at h2
        clear ho hi hpe
        rw [h1, h2, Ins.enc_def]
        clear h1 h2
        refine AC.body Tryd.func17 rfl rfl (n := 51) (res := [.cell 2 47, .tmp 3]) rfl rfl (by simp) ?_
        simp only [ent]
        (repeat' (first | with_reducible refine ARun.seq ?_ | with_reducible refine ARun.block ?_ | with_reducible refine ARun.inBlock ?_ | with_reducible refine ARun.skip ?_ | with_reducible refine And.intro ?_ ?_ | ((with_reducible refine ARun.region ?_ ?_); · rfl) | with_reducible refine Fresh.go fun _ _ _ => ?_ | ((with_reducible apply ARun.exit); · rfl) | with_reducible refine ARun.ret ?_ | ((with_reducible refine ARun.cond_t ?_ ?_); · rfl) | ((with_reducible refine ARun.cond_f ?_ ?_); · rfl) | ((with_reducible apply ARun.cond) <;> first | intro _ | rfl) | simp (maxDischargeDepth := 9) only [go_sem, *, ↓reduceIte, reduceCtorEq, Nat.reduceEqDiff, Nat.reduceAdd, Nat.reduceLeDiff, Nat.reduceLT, Nat.reduceMul, Int.reduceEq, Int.reduceNe, Int.reduceLE, Int.reduceLT, Int.reduceBEq, Int.reduceBNe, Int.reduceToNat] | with_reducible refine grdO_goT (fun _ => ?_) (fun _ => ?_) | with_reducible refine grdO_goF (fun _ => ?_) (fun _ => ?_) | with_reducible refine grdF_goT (fun _ => ?_) (fun _ => ?_) | with_reducible refine grdF_goF (fun _ => ?_) (fun _ => ?_) | refine Calling.eq (B1 _) ?_ | refine Calling.eq (B2 _) ?_ | refine Calling.eq (B3 _) ?_ | refine Calling.eq (B4 _) ?_ | refine Calling.eq (S _) ?_ | refine Calling.eq (U _) ?_ | refine Calling.eq (E _) ?_))
        exact Fin.plain (by simp (maxDischargeDepth := 9) only [go_sem, *, ↓reduceIte, reduceCtorEq, Nat.reduceEqDiff, Nat.reduceAdd, Nat.reduceLeDiff, Nat.reduceLT, Nat.reduceMul, Int.reduceEq, Int.reduceNe, Int.reduceLE, Int.reduceLT, Int.reduceBEq, Int.reduceBNe, Int.reduceToNat]; rfl) (by (repeat (first | exact Sub.refl _ | assumption | refine Sub.upd2 ?_ _ _ | refine Sub.fresh ?_ (by assumption) | refine Sub.upd ?_ (by (first | assumption | exact nu1 (by assumption) | exact nu2 (by assumption) | exact nu3 (by assumption) | exact nu4 (by assumption) | exact nu5 (by assumption) | exact nu6 (by assumption) | exact nu7 (by assumption) | exact none_put (by assumption) (by assumption) | exact none_put (by assumption) (nu1 (by assumption)) | exact none_put (by assumption) (nu2 (by assumption)) | exact none_put (by assumption) (nu3 (by assumption)) | exact none_put (by assumption) (nu4 (by assumption)) | exact none_put (by assumption) (nu5 (by assumption))))))) ⟨by first | rfl | (simp [resV, *]; done), rfl⟩
      · have hb : (((v : Nat) : Int) != (w : Int)) = true := by simp; omega
        obtain ⟨h1, h2⟩ := hi false (by rw [ho]; simp [hv0])
        rw [if_neg (by simp)] at h1 h2
        clear ho hi hpe
        rw [h1, h2]
        clear h1 h2
        refine AC.body Tryd.func17 rfl rfl (n := 51) (res := [.cell 2 47, .tmp 3]) rfl rfl (by simp) ?_
        simp only [ent]
        (repeat' (first | with_reducible refine ARun.seq ?_ | with_reducible refine ARun.block ?_ | with_reducible refine ARun.inBlock ?_ | with_reducible refine ARun.skip ?_ | with_reducible refine And.intro ?_ ?_ | ((with_reducible refine ARun.region ?_ ?_); · rfl) | with_reducible refine Fresh.go fun _ _ _ => ?_ | ((with_reducible apply ARun.exit); · rfl) | with_reducible refine ARun.ret ?_ | ((with_reducible refine ARun.cond_t ?_ ?_); · rfl) | ((with_reducible refine ARun.cond_f ?_ ?_); · rfl) | ((with_reducible apply ARun.cond) <;> first | intro _ | rfl) | simp (maxDischargeDepth := 9) only [go_sem, *, ↓reduceIte, reduceCtorEq, Nat.reduceEqDiff, Nat.reduceAdd, Nat.reduceLeDiff, Nat.reduceLT, Nat.reduceMul, Int.reduceEq, Int.reduceNe, Int.reduceLE, Int.reduceLT, Int.reduceBEq, Int.reduceBNe, Int.reduceToNat] | with_reducible refine grdO_goT (fun _ => ?_) (fun _ => ?_) | with_reducible refine grdO_goF (fun _ => ?_) (fun _ => ?_) | with_reducible refine grdF_goT (fun _ => ?_) (fun _ => ?_) | with_reducible refine grdF_goF (fun _ => ?_) (fun _ => ?_) | refine Calling.eq (B1 _) ?_ | refine Calling.eq (B2 _) ?_ | refine Calling.eq (B3 _) ?_ | refine Calling.eq (B4 _) ?_ | refine Calling.eq (S _) ?_ | refine Calling.eq (U _) ?_ | refine Calling.eq (E _) ?_))
        exact Fin.plain (by simp (maxDischargeDepth := 9) only [go_sem, *, ↓reduceIte, reduceCtorEq, Nat.reduceEqDiff, Nat.reduceAdd, Nat.reduceLeDiff, Nat.reduceLT, Nat.reduceMul, Int.reduceEq, Int.reduceNe, Int.reduceLE, Int.reduceLT, Int.reduceBEq, Int.reduceBNe, Int.reduceToNat]; rfl) (by (repeat (first | exact Sub.refl _ | assumption | refine Sub.upd2 ?_ _ _ | refine Sub.fresh ?_ (by assumption) | refine Sub.upd ?_ (by (first | assumption | exact nu1 (by assumption) | exact nu2 (by assumption) | exact nu3 (by assumption) | exact nu4 (by assumption) | exact nu5 (by assumption) | exact nu6 (by assumption) | exact nu7 (by assumption) | exact none_put (by assumption) (by assumption) | exact none_put (by assumption) (nu1 (by assumption)) | exact none_put (by assumption) (nu2 (by assumption)) | exact none_put (by assumption) (nu3 (by assumption)) | exact none_put (by assumption) (nu4 (by assumption)) | exact none_put (by assumption) (nu5 (by assumption))))))) ⟨by first | rfl | (simp [resV, *]; done), rfl⟩
    · have hb : (k != 0) = true := by simpa using hk0
      obtain ⟨h1, h2⟩ := hi false (by rw [ho]; simp [hk0])
      rw [if_neg (by simp)] at h1 h2
      clear ho hi hpe
      rw [h1, h2]
      clear h1 h2
      refine AC.body Tryd.func17 rfl rfl (n := 51) (res := [.cell 2 47, .tmp 3]) rfl rfl (by simp) ?_
      simp only [ent]
      (repeat' (first | with_reducible refine ARun.seq ?_ | with_reducible refine ARun.block ?_ | with_reducible refine ARun.inBlock ?_ | with_reducible refine ARun.skip ?_ | with_reducible refine And.intro ?_ ?_ | ((with_reducible refine ARun.region ?_ ?_); · rfl) | with_reducible refine Fresh.go fun _ _ _ => ?_ | ((with_reducible apply ARun.exit); · rfl) | with_reducible refine ARun.ret ?_ | ((with_reducible refine ARun.cond_t ?_ ?_); · rfl) | ((with_reducible refine ARun.cond_f ?_ ?_); · rfl) | ((with_reducible apply ARun.cond) <;> first | intro _ | rfl) | simp (maxDischargeDepth := 9) only [go_sem, *, ↓reduceIte, reduceCtorEq, Nat.reduceEqDiff, Nat.reduceAdd, Nat.reduceLeDiff, Nat.reduceLT, Nat.reduceMul, Int.reduceEq, Int.reduceNe, Int.reduceLE, Int.reduceLT, Int.reduceBEq, Int.reduceBNe, Int.reduceToNat] | with_reducible refine grdO_goT (fun _ => ?_) (fun _ => ?_) | with_reducible refine grdO_goF (fun _ => ?_) (fun _ => ?_) | with_reducible refine grdF_goT (fun _ => ?_) (fun _ => ?_) | with_reducible refine grdF_goF (fun _ => ?_) (fun _ => ?_) | refine Calling.eq (B1 _) ?_ | refine Calling.eq (B2 _) ?_ | refine Calling.eq (B3 _) ?_ | refine Calling.eq (B4 _) ?_ | refine Calling.eq (S _) ?_ | refine Calling.eq (U _) ?_ | refine Calling.eq (E _) ?_))
      exact Fin.plain (by simp (maxDischargeDepth := 9) only [go_sem, *, ↓reduceIte, reduceCtorEq, Nat.reduceEqDiff, Nat.reduceAdd, Nat.reduceLeDiff, Nat.reduceLT, Nat.reduceMul, Int.reduceEq, Int.reduceNe, Int.reduceLE, Int.reduceLT, Int.reduceBEq, Int.reduceBNe, Int.reduceToNat]; rfl) (by (repeat (first | exact Sub.refl _ | assumption | refine Sub.upd2 ?_ _ _ | refine Sub.fresh ?_ (by assumption) | refine Sub.upd ?_ (by (first | assumption | exact nu1 (by assumption) | exact nu2 (by assumption) | exact nu3 (by assumption) | exact nu4 (by assumption) | exact nu5 (by assumption) | exact nu6 (by assumption) | exact nu7 (by assumption) | exact none_put (by assumption) (by assumption) | exact none_put (by assumption) (nu1 (by assumption)) | exact none_put (by assumption) (nu2 (by assumption)) | exact none_put (by assumption) (nu3 (by assumption)) | exact none_put (by assumption) (nu4 (by assumption)) | exact none_put (by assumption) (nu5 (by assumption))))))) ⟨by first | rfl | (simp [resV, *]; done), rfl⟩
end Go.Abs
