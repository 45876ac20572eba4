import Derived.Test.YtlgmboaoemlnpaaDoorAbG7
/- Gates: the law that both play alike. -/
namespace Go.Abs
set_option linter.unusedSimpArgs false
set_option linter.unusedVariables false
open Go.Proofs Go.Proofs.YtlgmboaoemlnpaaDoor Go.Proofs.YtlgmboaoemlnpaaDoor.P Go.Proofs.YtlgmboaoemlnpaaDoor.Nm
set_option linter.unusedVariables false
theorem inv_zero : Inv L0 := by
  refine ⟨rfl, fun x hx => .inl (List.eq_of_mem_replicate hx), fun i j x y hx hy _ ho => ?_⟩
  have := List.eq_of_mem_replicate (List.mem_of_getElem? hx)
  subst this; exact absurd rfl ho
/-- A row is put where no other has its owner or its module. -/
theorem inv_set {L : List Bind} (h : Inv L) {i : Nat} {x : Bind} (hx : x = Bind.zero ∨ x.o ≠ 0) (ha : x.o ≠ 0 → ∀ (j : Nat) (y : Bind), L[j]? = some y → j ≠ i → y.o ≠ 0 → y.o ≠ x.o ∧ y.m ≠ x.m) : Inv (L.set i x) := by
  refine ⟨by rw [List.length_set]; exact h.1, fun y hy => ?_, fun j k y z hy hz hjk hyo hzo => ?_⟩
  · rcases List.mem_or_eq_of_mem_set hy with hm | rfl
    · exact h.2.1 y hm
    · exact hx
  · rw [List.getElem?_set] at hy hz
    by_cases hj : i = j
    · subst hj
      rw [if_pos rfl] at hy
      rw [if_neg hjk] at hz
      split at hy
      · cases hy
        have := ha hyo k z hz (Ne.symm hjk) hzo
        exact ⟨Ne.symm this.1, Ne.symm this.2⟩
      · cases hy
    · rw [if_neg hj] at hy
      by_cases hk : i = k
      · subst hk
        rw [if_pos rfl] at hz
        split at hz
        · cases hz; exact ha hzo j y hy (Ne.symm hj) hyo
        · cases hz
      · rw [if_neg hk] at hz
        exact h.2.2 j k y z hy hz hjk hyo hzo
theorem fi_no {p : Bind → Bool} {L : List Bind} (h : fi p L < 0) : ∀ y ∈ L, p y = false := by
  unfold fi at h
  split at h
  · omega
  · rename_i hn; intro y hy; rw [List.findIdx?_eq_none_iff] at hn; exact hn y hy
theorem fi_yes {p : Bind → Bool} {L : List Bind} {i : Nat} (h : fi p L = i) : ∃ y, L[i]? = some y ∧ p y = true := by
  unfold fi at h
  split at h
  · rename_i j hj
    have : j = i := by omega
    subst this
    obtain ⟨hl, hp, _⟩ := List.findIdx?_eq_some_iff_getElem.1 hj
    exact ⟨_, List.getElem?_eq_getElem hl, hp⟩
  · omega
theorem ofP_false {m : ByteArray} {y : Bind} (h : ofP m y = false) (ho : y.o ≠ 0) : y.m ≠ m := by
  rintro rfl
  unfold ofP at h
  have hz : y ≠ Bind.zero := by rintro rfl; exact ho rfl
  rw [same3_iff] at h
  simp [hz] at h
theorem ofP_true {m : ByteArray} {y : Bind} (h : ofP m y = true) : y ≠ Bind.zero ∧ y.m = m := by
  unfold ofP at h
  rw [same3_iff] at h
  simpa [toList_inj] using h
theorem owned_no {L : List Bind} {o : Int} (h : ownedB L o = false) : ∀ y ∈ L, y.o ≠ o := by
  unfold ownedB at h
  intro y hy e
  have := fi_no (p := fun x => x.o == o) (L := L) (by simpa using h) y hy
  simp [e] at this
theorem turnV_inv {L : List Bind} (h : Inv L) (x : Bind) : Inv (turnV L x).2 := by
  unfold turnV
  split
  · exact h
  · rename_i hz
    split
    · exact h
    · rename_i hn
      split
      · exact h
      · rename_i hw
        obtain ⟨i, hi, hi8⟩ := ofI_nat h.1 hn
        obtain ⟨y, hy, hp⟩ := fi_yes (p := ofP x.m) hi
        obtain ⟨hy0, hym⟩ := ofP_true hp
        simp only [hi, Int.toNat_natCast]
        have hxo : x.o ≠ 0 := by intro e; simp [e] at hz
        have hyo : y.o ≠ 0 := by rcases h.2.1 y (List.mem_of_getElem? hy) with e | e; exact absurd e hy0; exact e
        refine inv_set h (.inr hxo) fun _ j z hz' hj hzo => ⟨owned_no (by simpa using hw) z (List.mem_of_getElem? hz'), ?_⟩
        have := (h.2.2 j i z y hz' hy hj hzo hyo).2
        rw [hym] at this; exact this
theorem closeV_inv {L : List Bind} (h : Inv L) (m : ByteArray) : Inv (closeV L m) := by
  unfold closeV; split
  · exact h
  · exact inv_set h (.inl rfl) fun e => absurd rfl e
theorem openV_inv {L : List Bind} (h : Inv L) (x : Bind) : Inv (openV L x).2 := by
  unfold openV
  split
  · exact h
  · split
    · exact h
    · rename_i hz
      split
      · exact h
      · rename_i hn
        split
        · exact h
        · rename_i hw
          split
          · exact h
          · have hxo : x.o ≠ 0 := by intro e; simp [e] at hz
            refine inv_set h (.inr hxo) fun _ j z hz' hj hzo => ⟨owned_no (by simpa using hw) z (List.mem_of_getElem? hz'), ?_⟩
            exact ofP_false (fi_no (p := ofP x.m) (by unfold ofI at hn; omega) z (List.mem_of_getElem? hz')) hzo
theorem doV_inv {L : List Bind} (h : Inv L) (k : Int) (x : Bind) : Inv (doV L k x) := by
  unfold doV; split
  · exact turnV_inv h x
  · split
    · exact closeV_inv h _
    · split
      · exact h
      · exact openV_inv h x
theorem upd_four {H : Heap} {b v : Nat} {x x' y y' : Root} (h : (b = v) = False) : upd (upd (upd (upd H b x) v y) b x') v y' = upd (upd H b x') v y' := by
  funext p; simp only [upd]
  by_cases h1 : p = v
  · simp [h1]
  · by_cases h2 : p = b
    · subst h2; simp [h1]
    · simp [h1, h2]
attribute [go_sem] Bool.not_true Bool.not_false
def encS (s : Int × Bind) : List TV := [.s (.int .u8 s.1), .s (.string s.2.m), .s (.int .u16 s.2.o), .s (.int .u32 s.2.b)]
def StepsOk (S : List (Int × Bind)) : Prop := ∀ s ∈ S, 0 ≤ s.1 ∧ szOk s.2.m
theorem step_at {S : List (Int × Bind)} {i : Nat} (hi : i < S.length) : (S.map encS)[i]? = some [.s (.int .u8 S[i].1), .s (.string S[i].2.m), .s (.int .u16 S[i].2.o), .s (.int .u32 S[i].2.b)] := by
  rw [List.getElem?_map, List.getElem?_eq_getElem hi]; rfl
set_option maxHeartbeats 2000000 in
theorem plays_c {G H : Heap} (g : GH G) (hs : Sub G H) {S : List (Int × Bind)} (hS : StepsOk S) :
    AC Tryd.prog 5 [.vs 4 (S.map encS)] H (fun r H' => r = .s (.bool true) ∧ H' = H) := by
  refine AC.body Tryd.func5 rfl rfl (n := 42) (res := [.tmp 2]) rfl rfl (by simp) ?_
  have hl : (S.map encS).length = S.length := List.length_map ..
  simp only [ent]
  by_cases hbig : (200 : Int) < S.length
  · have d0 : decide ((200 : Int) < S.length) = true := by simpa using hbig
    (repeat' (first | with_reducible refine ARun.seq ?_ | with_reducible refine ARun.block ?_ | with_reducible refine ARun.inBlock ?_ | with_reducible refine ARun.skip ?_ | (refine ARun.region (by rfl) ?_; simp (maxDischargeDepth := 9) only [go_sem, *, ↓reduceIte, reduceCtorEq, Nat.reduceEqDiff, Nat.reduceAdd, Nat.reduceLeDiff, Nat.reduceLT, Nat.reduceMul, Int.reduceEq, Int.reduceNe, Int.reduceLE, Int.reduceLT, Int.reduceBEq, Int.reduceBNe]) | with_reducible refine Fresh.go fun _ _ _ => ?_ | (refine ARun.exit rfl ?_) | with_reducible refine ARun.ret ?_ | (refine ARun.cond_t rfl ?_) | (refine ARun.cond_f rfl ?_) | (refine ARun.cond rfl (fun _ => ?_) (fun _ => ?_)) | (with_reducible refine grdO_go (fun _ => ?_) (fun _ => ?_) <;> simp (maxDischargeDepth := 9) only [go_sem, *, ↓reduceIte, reduceCtorEq, Nat.reduceEqDiff, Nat.reduceAdd, Nat.reduceLeDiff, Nat.reduceLT, Nat.reduceMul, Int.reduceEq, Int.reduceNe, Int.reduceLE, Int.reduceLT, Int.reduceBEq, Int.reduceBNe]) | (with_reducible refine grdF_go (fun _ => ?_) (fun _ => ?_) <;> simp (maxDischargeDepth := 9) only [go_sem, *, ↓reduceIte, reduceCtorEq, Nat.reduceEqDiff, Nat.reduceAdd, Nat.reduceLeDiff, Nat.reduceLT, Nat.reduceMul, Int.reduceEq, Int.reduceNe, Int.reduceLE, Int.reduceLT, Int.reduceBEq, Int.reduceBNe]) | (refine Calling.by (awake_c g hs) ?_; rintro _ _ ⟨rfl, rfl⟩; try simp (maxDischargeDepth := 9) only [go_sem, *, ↓reduceIte, reduceCtorEq, Nat.reduceEqDiff, Nat.reduceAdd, Nat.reduceLeDiff, Nat.reduceLT, Nat.reduceMul, Int.reduceEq, Int.reduceNe, Int.reduceLE, Int.reduceLT, Int.reduceBEq, Int.reduceBNe]) | simp (maxDischargeDepth := 9) only [go_sem, *, ↓reduceIte, reduceCtorEq, Nat.reduceEqDiff, Nat.reduceAdd, Nat.reduceLeDiff, Nat.reduceLT, Nat.reduceMul, Int.reduceEq, Int.reduceNe, Int.reduceLE, Int.reduceLT, Int.reduceBEq, Int.reduceBNe]))
    exact Fin.plain (by simp (maxDischargeDepth := 9) only [go_sem, *, ↓reduceIte, reduceCtorEq, Nat.reduceEqDiff, Nat.reduceAdd, Nat.reduceLeDiff, Nat.reduceLT, Nat.reduceMul, Int.reduceEq, Int.reduceNe, Int.reduceLE, Int.reduceLT, Int.reduceBEq, Int.reduceBNe]; rfl) (by (repeat (first | exact Sub.refl _ | refine Sub.upd2 ?_ _ _ | refine Sub.upd ?_ (by (first | assumption | exact none_upd (by assumption) | exact none_upd (none_upd (by assumption)) | exact none_upd (none_upd (none_upd (by assumption))) | exact none_upd (none_upd (none_upd (none_upd (by assumption)))) | exact none_upd (none_upd (none_upd (none_upd (none_upd (by assumption))))) | exact none_upd (none_upd (none_upd (none_upd (none_upd (none_upd (by assumption)))))) | exact none_upd (none_upd (none_upd (none_upd (none_upd (none_upd (none_upd (by assumption))))))) | exact none_put (by assumption) (by assumption) | exact none_put (by assumption) (none_upd (by assumption)) | exact none_put (by assumption) (none_upd (none_upd (by assumption))) | exact none_put (by assumption) (none_upd (none_upd (none_upd (by assumption)))) | exact none_put (by assumption) (none_upd (none_upd (none_upd (none_upd (by assumption))))) | exact none_put (by assumption) (none_upd (none_upd (none_upd (none_upd (none_upd (by assumption))))))))))) ⟨by first | rfl | (simp [resV, *]; done), rfl⟩
  · have d0 : decide ((200 : Int) < S.length) = false := by simpa using hbig
    (repeat' (first | with_reducible refine ARun.seq ?_ | with_reducible refine ARun.block ?_ | with_reducible refine ARun.inBlock ?_ | with_reducible refine ARun.skip ?_ | (refine ARun.region (by rfl) ?_; simp (maxDischargeDepth := 9) only [go_sem, *, ↓reduceIte, reduceCtorEq, Nat.reduceEqDiff, Nat.reduceAdd, Nat.reduceLeDiff, Nat.reduceLT, Nat.reduceMul, Int.reduceEq, Int.reduceNe, Int.reduceLE, Int.reduceLT, Int.reduceBEq, Int.reduceBNe]) | with_reducible refine Fresh.go fun _ _ _ => ?_ | (refine ARun.exit rfl ?_) | with_reducible refine ARun.ret ?_ | (refine ARun.cond_t rfl ?_) | (refine ARun.cond_f rfl ?_) | (refine ARun.cond rfl (fun _ => ?_) (fun _ => ?_)) | (with_reducible refine grdO_go (fun _ => ?_) (fun _ => ?_) <;> simp (maxDischargeDepth := 9) only [go_sem, *, ↓reduceIte, reduceCtorEq, Nat.reduceEqDiff, Nat.reduceAdd, Nat.reduceLeDiff, Nat.reduceLT, Nat.reduceMul, Int.reduceEq, Int.reduceNe, Int.reduceLE, Int.reduceLT, Int.reduceBEq, Int.reduceBNe]) | (with_reducible refine grdF_go (fun _ => ?_) (fun _ => ?_) <;> simp (maxDischargeDepth := 9) only [go_sem, *, ↓reduceIte, reduceCtorEq, Nat.reduceEqDiff, Nat.reduceAdd, Nat.reduceLeDiff, Nat.reduceLT, Nat.reduceMul, Int.reduceEq, Int.reduceNe, Int.reduceLE, Int.reduceLT, Int.reduceBEq, Int.reduceBNe]) | simp (maxDischargeDepth := 9) only [go_sem, *, ↓reduceIte, reduceCtorEq, Nat.reduceEqDiff, Nat.reduceAdd, Nat.reduceLeDiff, Nat.reduceLT, Nat.reduceMul, Int.reduceEq, Int.reduceNe, Int.reduceLE, Int.reduceLT, Int.reduceBEq, Int.reduceBNe]))
    refine Calling.by (new_c _) ?_
    rintro _ _ ⟨b, h0, rfl, rfl⟩
    have hn := fresh_ne h0
    (repeat' (first | with_reducible refine ARun.seq ?_ | with_reducible refine ARun.block ?_ | with_reducible refine ARun.inBlock ?_ | with_reducible refine ARun.skip ?_ | (refine ARun.region (by rfl) ?_; simp (maxDischargeDepth := 9) only [go_sem, *, ↓reduceIte, reduceCtorEq, Nat.reduceEqDiff, Nat.reduceAdd, Nat.reduceLeDiff, Nat.reduceLT, Nat.reduceMul, Int.reduceEq, Int.reduceNe, Int.reduceLE, Int.reduceLT, Int.reduceBEq, Int.reduceBNe]) | with_reducible refine Fresh.go fun _ _ _ => ?_ | (refine ARun.exit rfl ?_) | with_reducible refine ARun.ret ?_ | (refine ARun.cond_t rfl ?_) | (refine ARun.cond_f rfl ?_) | (refine ARun.cond rfl (fun _ => ?_) (fun _ => ?_)) | (with_reducible refine grdO_go (fun _ => ?_) (fun _ => ?_) <;> simp (maxDischargeDepth := 9) only [go_sem, *, ↓reduceIte, reduceCtorEq, Nat.reduceEqDiff, Nat.reduceAdd, Nat.reduceLeDiff, Nat.reduceLT, Nat.reduceMul, Int.reduceEq, Int.reduceNe, Int.reduceLE, Int.reduceLT, Int.reduceBEq, Int.reduceBNe]) | (with_reducible refine grdF_go (fun _ => ?_) (fun _ => ?_) <;> simp (maxDischargeDepth := 9) only [go_sem, *, ↓reduceIte, reduceCtorEq, Nat.reduceEqDiff, Nat.reduceAdd, Nat.reduceLeDiff, Nat.reduceLT, Nat.reduceMul, Int.reduceEq, Int.reduceNe, Int.reduceLE, Int.reduceLT, Int.reduceBEq, Int.reduceBNe]) | simp (maxDischargeDepth := 9) only [go_sem, *, ↓reduceIte, reduceCtorEq, Nat.reduceEqDiff, Nat.reduceAdd, Nat.reduceLeDiff, Nat.reduceLT, Nat.reduceMul, Int.reduceEq, Int.reduceNe, Int.reduceLE, Int.reduceLT, Int.reduceBEq, Int.reduceBNe]))
    rename_i v v0 vn
    refine ARun.rounds (fun st : Nat × List Bind => ⟨[(0, .vs 4 (S.map encS)), (3, .s (.pointer (some ⟨b, 0, none⟩))), (4, .s (.pointer (some ⟨v, 0, none⟩))), (6, .s (.int .i64 st.1))],
      upd (upd H b (.cells (flat Bind.enc st.2))) v (.cells (flat Bind.enc st.2))⟩) (fun st => S.length - st.1) (fun st => st.1 ≤ S.length ∧ Inv st.2) ?_ (0, L0) ⟨by simp, inv_zero⟩ ?_
    · intro ⟨i, L⟩ ⟨hi, hI⟩ next
      simp only [] at hi hI next ⊢
      have hbv : (b = v) = False := (vn b (by simp [upd])).1
      have hvb : (v = b) = False := (vn b (by simp [upd])).2
      have v00 : H v = none := none_upd v0
      have v1 : ∀ c, upd H b c v = none := fun c => by simp only [upd, hvb, if_false]; exact none_upd v0
      have vn1 : ∀ c p, (upd H b c p).isSome = true → (p = v) = False ∧ (v = p) = False := fun c => fresh_ne (v1 c)
      clear v0 vn
      have hL := hI.1
      have tb : Tab (upd (upd H b (.cells (flat Bind.enc L))) v (.cells (flat Bind.enc L))) b L := tab_upd ⟨upd_self _ _ _, hL⟩ (v1 _)
      have sG : Sub G (upd (upd H b (.cells (flat Bind.enc L))) v (.cells (flat Bind.enc L))) := (hs.fresh h0).fresh (v1 _)
      by_cases hlt : i < S.length
      · have h1 : (i : Int) < S.length := by omega
        have h2 : (0 : Int) ≤ i := by omega
        have hx := step_at hlt
        have hok := hS S[i] (List.getElem_mem hlt)
        have D := do_c g sG tb hI hok.1 S[i].2 hok.2
        have hI' := doV_inv hI S[i].1 S[i].2
        generalize doV L S[i].1 S[i].2 = L' at D hI'
        have hL' := hI'.1
        have e4 := upd_four (H := H) (x := .cells (flat Bind.enc L)) (y := .cells (flat Bind.enc L)) (x' := .cells (flat Bind.enc L')) (y' := .cells (flat Bind.enc L')) hbv
        have tb' : Tab (upd (upd H b (.cells (flat Bind.enc L'))) v (.cells (flat Bind.enc L'))) b L' := tab_upd ⟨upd_self _ _ _, hL'⟩ (v1 _)
        have E := same_c tb' hI'
        have hw := w64_succ (i := i) (by omega)
        (repeat' (first | with_reducible refine ARun.seq ?_ | with_reducible refine ARun.block ?_ | with_reducible refine ARun.inBlock ?_ | with_reducible refine ARun.skip ?_ | (refine ARun.region (by rfl) ?_; simp (maxDischargeDepth := 9) only [go_sem, *, ↓reduceIte, reduceCtorEq, Nat.reduceEqDiff, Nat.reduceAdd, Nat.reduceLeDiff, Nat.reduceLT, Nat.reduceMul, Int.reduceEq, Int.reduceNe, Int.reduceLE, Int.reduceLT, Int.reduceBEq, Int.reduceBNe]) | with_reducible refine Fresh.go fun _ _ _ => ?_ | (refine ARun.exit rfl ?_) | with_reducible refine ARun.ret ?_ | (refine ARun.cond_t rfl ?_) | (refine ARun.cond_f rfl ?_) | (refine ARun.cond rfl (fun _ => ?_) (fun _ => ?_)) | (with_reducible refine grdO_go (fun _ => ?_) (fun _ => ?_) <;> simp (maxDischargeDepth := 9) only [go_sem, *, ↓reduceIte, reduceCtorEq, Nat.reduceEqDiff, Nat.reduceAdd, Nat.reduceLeDiff, Nat.reduceLT, Nat.reduceMul, Int.reduceEq, Int.reduceNe, Int.reduceLE, Int.reduceLT, Int.reduceBEq, Int.reduceBNe]) | (with_reducible refine grdF_go (fun _ => ?_) (fun _ => ?_) <;> simp (maxDischargeDepth := 9) only [go_sem, *, ↓reduceIte, reduceCtorEq, Nat.reduceEqDiff, Nat.reduceAdd, Nat.reduceLeDiff, Nat.reduceLT, Nat.reduceMul, Int.reduceEq, Int.reduceNe, Int.reduceLE, Int.reduceLT, Int.reduceBEq, Int.reduceBNe]) | simp (maxDischargeDepth := 9) only [go_sem, *, ↓reduceIte, reduceCtorEq, Nat.reduceEqDiff, Nat.reduceAdd, Nat.reduceLeDiff, Nat.reduceLT, Nat.reduceMul, Int.reduceEq, Int.reduceNe, Int.reduceLE, Int.reduceLT, Int.reduceBEq, Int.reduceBNe]))
        refine ARun.drawB mixed [([], [0, 1, 2, 3, 4, 5], some 6), ([2, 3, 4], [7, 8, 9], some 10), ([9], [11], none)] (by kernel_rfl) (by rfl) ?_
        (repeat' (first | with_reducible refine ARun.seq ?_ | with_reducible refine ARun.block ?_ | with_reducible refine ARun.inBlock ?_ | with_reducible refine ARun.skip ?_ | (refine ARun.region (by rfl) ?_; simp (maxDischargeDepth := 9) only [go_sem, *, ↓reduceIte, reduceCtorEq, Nat.reduceEqDiff, Nat.reduceAdd, Nat.reduceLeDiff, Nat.reduceLT, Nat.reduceMul, Int.reduceEq, Int.reduceNe, Int.reduceLE, Int.reduceLT, Int.reduceBEq, Int.reduceBNe]) | with_reducible refine Fresh.go fun _ _ _ => ?_ | (refine ARun.exit rfl ?_) | with_reducible refine ARun.ret ?_ | (refine ARun.cond_t rfl ?_) | (refine ARun.cond_f rfl ?_) | (refine ARun.cond rfl (fun _ => ?_) (fun _ => ?_)) | (with_reducible refine grdO_go (fun _ => ?_) (fun _ => ?_) <;> simp (maxDischargeDepth := 9) only [go_sem, *, ↓reduceIte, reduceCtorEq, Nat.reduceEqDiff, Nat.reduceAdd, Nat.reduceLeDiff, Nat.reduceLT, Nat.reduceMul, Int.reduceEq, Int.reduceNe, Int.reduceLE, Int.reduceLT, Int.reduceBEq, Int.reduceBNe]) | (with_reducible refine grdF_go (fun _ => ?_) (fun _ => ?_) <;> simp (maxDischargeDepth := 9) only [go_sem, *, ↓reduceIte, reduceCtorEq, Nat.reduceEqDiff, Nat.reduceAdd, Nat.reduceLeDiff, Nat.reduceLT, Nat.reduceMul, Int.reduceEq, Int.reduceNe, Int.reduceLE, Int.reduceLT, Int.reduceBEq, Int.reduceBNe]) | (refine Calling.by (D) ?_; rintro _ _ ⟨rfl, rfl⟩; try simp (maxDischargeDepth := 9) only [go_sem, *, ↓reduceIte, reduceCtorEq, Nat.reduceEqDiff, Nat.reduceAdd, Nat.reduceLeDiff, Nat.reduceLT, Nat.reduceMul, Int.reduceEq, Int.reduceNe, Int.reduceLE, Int.reduceLT, Int.reduceBEq, Int.reduceBNe]) | (refine Calling.by (E) ?_; rintro _ _ ⟨rfl, rfl⟩; try simp (maxDischargeDepth := 9) only [go_sem, *, ↓reduceIte, reduceCtorEq, Nat.reduceEqDiff, Nat.reduceAdd, Nat.reduceLeDiff, Nat.reduceLT, Nat.reduceMul, Int.reduceEq, Int.reduceNe, Int.reduceLE, Int.reduceLT, Int.reduceBEq, Int.reduceBNe]) | simp (maxDischargeDepth := 9) only [go_sem, *, ↓reduceIte, reduceCtorEq, Nat.reduceEqDiff, Nat.reduceAdd, Nat.reduceLeDiff, Nat.reduceLT, Nat.reduceMul, Int.reduceEq, Int.reduceNe, Int.reduceLE, Int.reduceLT, Int.reduceBEq, Int.reduceBNe]))
        exact ARun.weaken (next.go (i + 1, L') ⟨by simp only []; omega, hI'⟩ (by simp only []; omega)) (AS.le_of (by simp only [List.forall_mem_cons, List.not_mem_nil, false_implies, implies_true, and_true, look_cons, ↓reduceIte, Nat.reduceEqDiff, *] <;> simp) (Sub.refl _))
      · have h1 : ¬ (i : Int) < S.length := by omega
        clear next
        (repeat' (first | with_reducible refine ARun.seq ?_ | with_reducible refine ARun.block ?_ | with_reducible refine ARun.inBlock ?_ | with_reducible refine ARun.skip ?_ | (refine ARun.region (by rfl) ?_; simp (maxDischargeDepth := 9) only [go_sem, *, ↓reduceIte, reduceCtorEq, Nat.reduceEqDiff, Nat.reduceAdd, Nat.reduceLeDiff, Nat.reduceLT, Nat.reduceMul, Int.reduceEq, Int.reduceNe, Int.reduceLE, Int.reduceLT, Int.reduceBEq, Int.reduceBNe]) | with_reducible refine Fresh.go fun _ _ _ => ?_ | (refine ARun.exit rfl ?_) | with_reducible refine ARun.ret ?_ | (refine ARun.cond_t rfl ?_) | (refine ARun.cond_f rfl ?_) | (refine ARun.cond rfl (fun _ => ?_) (fun _ => ?_)) | (with_reducible refine grdO_go (fun _ => ?_) (fun _ => ?_) <;> simp (maxDischargeDepth := 9) only [go_sem, *, ↓reduceIte, reduceCtorEq, Nat.reduceEqDiff, Nat.reduceAdd, Nat.reduceLeDiff, Nat.reduceLT, Nat.reduceMul, Int.reduceEq, Int.reduceNe, Int.reduceLE, Int.reduceLT, Int.reduceBEq, Int.reduceBNe]) | (with_reducible refine grdF_go (fun _ => ?_) (fun _ => ?_) <;> simp (maxDischargeDepth := 9) only [go_sem, *, ↓reduceIte, reduceCtorEq, Nat.reduceEqDiff, Nat.reduceAdd, Nat.reduceLeDiff, Nat.reduceLT, Nat.reduceMul, Int.reduceEq, Int.reduceNe, Int.reduceLE, Int.reduceLT, Int.reduceBEq, Int.reduceBNe]) | (refine Calling.by (awake_c g sG) ?_; rintro _ _ ⟨rfl, rfl⟩; try simp (maxDischargeDepth := 9) only [go_sem, *, ↓reduceIte, reduceCtorEq, Nat.reduceEqDiff, Nat.reduceAdd, Nat.reduceLeDiff, Nat.reduceLT, Nat.reduceMul, Int.reduceEq, Int.reduceNe, Int.reduceLE, Int.reduceLT, Int.reduceBEq, Int.reduceBNe]) | simp (maxDischargeDepth := 9) only [go_sem, *, ↓reduceIte, reduceCtorEq, Nat.reduceEqDiff, Nat.reduceAdd, Nat.reduceLeDiff, Nat.reduceLT, Nat.reduceMul, Int.reduceEq, Int.reduceNe, Int.reduceLE, Int.reduceLT, Int.reduceBEq, Int.reduceBNe]))
        exact Fin.plain (by simp (maxDischargeDepth := 9) only [go_sem, *, ↓reduceIte, reduceCtorEq, Nat.reduceEqDiff, Nat.reduceAdd, Nat.reduceLeDiff, Nat.reduceLT, Nat.reduceMul, Int.reduceEq, Int.reduceNe, Int.reduceLE, Int.reduceLT, Int.reduceBEq, Int.reduceBNe]; rfl) (by (repeat (first | exact Sub.refl _ | refine Sub.upd2 ?_ _ _ | refine Sub.upd ?_ (by (first | assumption | exact none_upd (by assumption) | exact none_upd (none_upd (by assumption)) | exact none_upd (none_upd (none_upd (by assumption))) | exact none_upd (none_upd (none_upd (none_upd (by assumption)))) | exact none_upd (none_upd (none_upd (none_upd (none_upd (by assumption))))) | exact none_upd (none_upd (none_upd (none_upd (none_upd (none_upd (by assumption)))))) | exact none_upd (none_upd (none_upd (none_upd (none_upd (none_upd (none_upd (by assumption))))))) | exact none_put (by assumption) (by assumption) | exact none_put (by assumption) (none_upd (by assumption)) | exact none_put (by assumption) (none_upd (none_upd (by assumption))) | exact none_put (by assumption) (none_upd (none_upd (none_upd (by assumption)))) | exact none_put (by assumption) (none_upd (none_upd (none_upd (none_upd (by assumption))))) | exact none_put (by assumption) (none_upd (none_upd (none_upd (none_upd (none_upd (by assumption))))))))))) ⟨by first | rfl | (simp [resV, *]; done), rfl⟩
    · exact AS.le_of (by simp only [List.forall_mem_cons, List.not_mem_nil, false_implies, implies_true, and_true, look_cons, ↓reduceIte, Nat.reduceEqDiff, *] <;> simp) (Sub.refl _)
end Go.Abs
