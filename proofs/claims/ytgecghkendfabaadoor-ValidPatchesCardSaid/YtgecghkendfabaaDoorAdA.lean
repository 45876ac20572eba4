import Derived.Test.YtgecghkendfabaaDoorAcZ
/- Modules that are looked at: relocations in a loop, and all in all. -/
namespace Go.Abs
set_option linter.unusedSimpArgs false
set_option linter.unusedVariables false
open Go.Proofs Go.Nm Go.Wd
set_option linter.unusedVariables false
set_option maxRecDepth 8000
variable {H : Heap}
theorem w16 {x : Int} (h0 : 0 ≤ x) (h1 : x < 65536) : IntKind.u16.wrap x = x := by rw [IntKind.wrap_u16]; omega
def inB {α : Type} [DecidableEq α] (k : α) (ks : List α) : Bool := decide (k ∈ ks)
theorem oc_hasB {P : Program} {d : Option Tmp} {ty : TypeId} {pos : String} {aft : Array Edge} {g : Option (Nat × Bool)} {α : Type} [DecidableEq α] {kt e t : TypeId} {enc : α → Value} {q : Bool} {k : α} {ks : List α} (hq : inB k ks = q) (K : KeyP P kt enc) (ht : P.underlying t = some (.map kt e)) (hz : zeroT P e = some (.s (.bool false))) {m : Nat} (hm : H m = some (setR enc ks)) {kT : TV} (hkT : ∀ w F v, Rep w F kT v → v = enc k)
    {s x : Operand} : OC P ⟨d, .lookup t s x false, ty, pos, aft, g⟩ [.s (.map (some m)), kT] H (fun r H' => r = .s (.bool q) ∧ H' = H) := by
  subst hq; exact oc_has K ht hz hm hkT
theorem oc_putN {P : Program} {d : Option Tmp} {ty : TypeId} {pos : String} {aft : Array Edge} {g : Option (Nat × Bool)} {α : Type} [DecidableEq α] {kt e t : TypeId} {enc : α → Value} {k : α} {ks : List α} (hq : inB k ks = false) (K : KeyP P kt enc) (ht : P.underlying t = some (.map kt e)) {m : Nat} (hm : H m = some (setR enc ks)) {kT : TV} (hkT : ∀ w F v, Rep w F kT v → v = enc k)
    {s x y : Operand} : OC P ⟨d, .mapUpdate t s x y, ty, pos, aft, g⟩ [.s (.map (some m)), kT, .s (.bool true)] H (fun r H' => r = .any ∧ H' = upd H m (setR enc (ks ++ [k]))) := by
  have h := oc_put (d := d) (ty := ty) (pos := pos) (aft := aft) (g := g) (s := s) (x := x) (y := y) K ht hm hkT
  rw [if_neg (by simpa [inB] using hq)] at h
  exact h
def Mod.cells (m : Mod) : List TV := [.s (.string m.nm), .vs 1 (m.ex.map s1), .vs 1 (m.im.map s1), .vs 1 (m.co.map u1), .vs 1 (m.da.map u1), .vs 3 (m.re.map relE)]
theorem nfit_c (m : Mod) (hm : m.ok) (r : Rlc) (hr : r.a < if r.spot.1 then m.co.length else m.da.length) {v : Nat} (hv : H v = some (.cells m.cells)) : AC Tryd.prog 48 [.agg (relE r), .s (.pointer (some ⟨v, 0, none⟩))] H (fun x H' => x = .s (.bool (!m.fit r)) ∧ H' = H) := by
  refine AC.body Tryd.func48 rfl rfl (n := 8) (res := [.tmp 3]) rfl rfl (by simp) ?_
  simp only [ent]
  have F := fun H => fits_c' m hm r hr H
  simp only [Mod.tv_def, Mod.cells] at F hv
  rw [relE_def] at F ⊢
  clear hr hm
  (repeat' (first | with_reducible refine ARun.seq ?_ | with_reducible refine ARun.block ?_ | with_reducible refine ARun.inBlock ?_ | with_reducible refine ARun.skip ?_ | with_reducible refine And.intro ?_ ?_ | ((with_reducible refine ARun.region ?_ ?_); · rfl) | with_reducible refine Fresh.go fun _ _ _ => ?_ | ((with_reducible apply ARun.exit); · rfl) | with_reducible refine ARun.ret ?_ | ((with_reducible refine ARun.cond_t ?_ ?_); · rfl) | ((with_reducible refine ARun.cond_f ?_ ?_); · rfl) | ((with_reducible apply ARun.cond) <;> first | intro _ | rfl) | simp (maxDischargeDepth := 9) only [go_sem, *, ↓reduceIte, reduceCtorEq, Nat.reduceEqDiff, Nat.reduceAdd, Nat.reduceLeDiff, Nat.reduceLT, Nat.reduceMul, Int.reduceEq, Int.reduceNe, Int.reduceLE, Int.reduceLT, Int.reduceBEq, Int.reduceBNe, Int.reduceToNat] | with_reducible refine grdO_goT (fun _ => ?_) (fun _ => ?_) | with_reducible refine grdO_goF (fun _ => ?_) (fun _ => ?_) | with_reducible refine grdF_goT (fun _ => ?_) (fun _ => ?_) | with_reducible refine grdF_goF (fun _ => ?_) (fun _ => ?_) | refine Calling.eq (F _) ?_))
  exact Fin.plain (by simp (maxDischargeDepth := 9) only [go_sem, *, ↓reduceIte, reduceCtorEq, Nat.reduceEqDiff, Nat.reduceAdd, Nat.reduceLeDiff, Nat.reduceLT, Nat.reduceMul, Int.reduceEq, Int.reduceNe, Int.reduceLE, Int.reduceLT, Int.reduceBEq, Int.reduceBNe, Int.reduceToNat]; rfl) (by (repeat (first | exact Sub.refl _ | assumption | refine Sub.upd2 ?_ _ _ | refine Sub.fresh ?_ (by assumption) | refine Sub.upd ?_ (by (first | assumption | exact nu1 (by assumption) | exact nu2 (by assumption) | exact nu3 (by assumption) | exact nu4 (by assumption) | exact nu5 (by assumption) | exact nu6 (by assumption) | exact nu7 (by assumption) | exact none_put (by assumption) (by assumption) | exact none_put (by assumption) (nu1 (by assumption)) | exact none_put (by assumption) (nu2 (by assumption)) | exact none_put (by assumption) (nu3 (by assumption)) | exact none_put (by assumption) (nu4 (by assumption)) | exact none_put (by assumption) (nu5 (by assumption))))))) ⟨by first | rfl | (simp [resV, *]; done), rfl⟩
theorem nthere_c (m : Mod) (r : Rlc) (hw : r.w < 65536) {v : Nat} (hv : H v = some (.cells m.cells)) : AC Tryd.prog 50 [.agg (relE r), .s (.pointer (some ⟨v, 0, none⟩))] H (fun x H' => x = .s (.bool (!m.thr r)) ∧ H' = H) := by
  refine AC.body Tryd.func50 rfl rfl (n := 8) (res := [.tmp 3]) rfl rfl (by simp) ?_
  simp only [ent]
  have F := fun H => there_c m r hw H
  simp only [Mod.tv_def, Mod.cells] at F hv
  rw [relE_def] at F ⊢
  clear hw
  (repeat' (first | with_reducible refine ARun.seq ?_ | with_reducible refine ARun.block ?_ | with_reducible refine ARun.inBlock ?_ | with_reducible refine ARun.skip ?_ | with_reducible refine And.intro ?_ ?_ | ((with_reducible refine ARun.region ?_ ?_); · rfl) | with_reducible refine Fresh.go fun _ _ _ => ?_ | ((with_reducible apply ARun.exit); · rfl) | with_reducible refine ARun.ret ?_ | ((with_reducible refine ARun.cond_t ?_ ?_); · rfl) | ((with_reducible refine ARun.cond_f ?_ ?_); · rfl) | ((with_reducible apply ARun.cond) <;> first | intro _ | rfl) | simp (maxDischargeDepth := 9) only [go_sem, *, ↓reduceIte, reduceCtorEq, Nat.reduceEqDiff, Nat.reduceAdd, Nat.reduceLeDiff, Nat.reduceLT, Nat.reduceMul, Int.reduceEq, Int.reduceNe, Int.reduceLE, Int.reduceLT, Int.reduceBEq, Int.reduceBNe, Int.reduceToNat] | with_reducible refine grdO_goT (fun _ => ?_) (fun _ => ?_) | with_reducible refine grdO_goF (fun _ => ?_) (fun _ => ?_) | with_reducible refine grdF_goT (fun _ => ?_) (fun _ => ?_) | with_reducible refine grdF_goF (fun _ => ?_) (fun _ => ?_) | refine Calling.eq (F _) ?_))
  exact Fin.plain (by simp (maxDischargeDepth := 9) only [go_sem, *, ↓reduceIte, reduceCtorEq, Nat.reduceEqDiff, Nat.reduceAdd, Nat.reduceLeDiff, Nat.reduceLT, Nat.reduceMul, Int.reduceEq, Int.reduceNe, Int.reduceLE, Int.reduceLT, Int.reduceBEq, Int.reduceBNe, Int.reduceToNat]; rfl) (by (repeat (first | exact Sub.refl _ | assumption | refine Sub.upd2 ?_ _ _ | refine Sub.fresh ?_ (by assumption) | refine Sub.upd ?_ (by (first | assumption | exact nu1 (by assumption) | exact nu2 (by assumption) | exact nu3 (by assumption) | exact nu4 (by assumption) | exact nu5 (by assumption) | exact nu6 (by assumption) | exact nu7 (by assumption) | exact none_put (by assumption) (by assumption) | exact none_put (by assumption) (nu1 (by assumption)) | exact none_put (by assumption) (nu2 (by assumption)) | exact none_put (by assumption) (nu3 (by assumption)) | exact none_put (by assumption) (nu4 (by assumption)) | exact none_put (by assumption) (nu5 (by assumption))))))) ⟨by first | rfl | (simp [resV, *]; done), rfl⟩
def Mod.len (m : Mod) (r : Rlc) : Nat := if r.spot.1 then m.co.length else m.da.length
/-- A relocation whose word was named ahead, or is not there. -/
def Mod.badP (m : Mod) (i : Nat) : Bool := match m.re[i]? with
  | some r => inB r.spot ((m.re.take i).map Rlc.spot) || decide (((m.len r : Nat) : Int) ≤ (r.a : Int))
  | none => false
/-- A Call that no relocation names. -/
def Mod.loose (m : Mod) (i : Nat) : Bool := match m.co[i]? with
  | some w => (((dec w).o : Int) == 17) && !(inB (true, i) (m.re.map Rlc.spot))
  | none => false
def Mod.rel (m : Mod) : Int × Int :=
  if decide (0 ≤ fi m.badP (List.range m.re.length)) then (6, fi m.badP (List.range m.re.length)) else if decide (0 ≤ fi (fun r => !m.fit r) m.re) then (7, fi (fun r => !m.fit r) m.re)
  else if decide (0 ≤ fi (fun r => !m.thr r) m.re) then (8, fi (fun r => !m.thr r) m.re) else if decide (0 ≤ fi m.loose (List.range m.co.length)) then (9, fi m.loose (List.range m.co.length)) else (0, 0)
theorem spots_succ {m : Mod} {i : Nat} {r : Rlc} (h : m.re[i]? = some r) : (m.re.take i).map Rlc.spot ++ [r.spot] = (m.re.take (i + 1)).map Rlc.spot := by
  obtain ⟨hi, he⟩ := List.getElem?_eq_some_iff.1 h
  rw [List.take_add_one, h]; simp
theorem spot_a (r : Rlc) : r.spot.2 = r.a := rfl
set_option maxHeartbeats 2000000 in
theorem relocs_c (m : Mod) (hm : m.ok) (hco : m.co.length ≤ 512) (H : Heap) : AC Tryd.prog 23 [m.tv] H (fun x H' => x = .tup [.s (.int .u8 m.rel.1), .s (.int .i64 m.rel.2)] ∧ H' = H) := by
  refine AC.body Tryd.func23 rfl rfl (n := 88) (res := [.tmp 2, .tmp 3]) rfl rfl (by simp) ?_
  simp only [ent]
  simp only [Mod.tv_def]
  have hlre := hm.lre
  have hlco := hm.lco
  have hlda := hm.lda
  have hrs := later hm.re
  have hcs := later hm.co
  have hm' := later hm
  clear hm
  have hrel : m.rel = if decide (0 ≤ fi m.badP (List.range m.re.length)) then (6, fi m.badP (List.range m.re.length)) else if decide (0 ≤ fi (fun r => !m.fit r) m.re) then (7, fi (fun r => !m.fit r) m.re)
    else if decide (0 ≤ fi (fun r => !m.thr r) m.re) then (8, fi (fun r => !m.thr r) m.re) else if decide (0 ≤ fi m.loose (List.range m.co.length)) then (9, fi m.loose (List.range m.co.length)) else (0, 0) := rfl
  replace hrel := later hrel
  (repeat' (first | with_reducible refine ARun.seq ?_ | with_reducible refine ARun.block ?_ | with_reducible refine ARun.inBlock ?_ | with_reducible refine ARun.skip ?_ | with_reducible refine And.intro ?_ ?_ | ((with_reducible refine ARun.region ?_ ?_); · rfl) | with_reducible refine Fresh.go fun _ _ _ => ?_ | ((with_reducible apply ARun.exit); · rfl) | with_reducible refine ARun.ret ?_ | ((with_reducible refine ARun.cond_t ?_ ?_); · rfl) | ((with_reducible refine ARun.cond_f ?_ ?_); · rfl) | ((with_reducible apply ARun.cond) <;> first | intro _ | rfl) | simp (maxDischargeDepth := 9) only [go_sem, *, ↓reduceIte, reduceCtorEq, Nat.reduceEqDiff, Nat.reduceAdd, Nat.reduceLeDiff, Nat.reduceLT, Nat.reduceMul, Int.reduceEq, Int.reduceNe, Int.reduceLE, Int.reduceLT, Int.reduceBEq, Int.reduceBNe, Int.reduceToNat] | with_reducible refine grdO_goT (fun _ => ?_) (fun _ => ?_) | with_reducible refine grdO_goF (fun _ => ?_) (fun _ => ?_) | with_reducible refine grdF_goT (fun _ => ?_) (fun _ => ?_) | with_reducible refine grdF_goF (fun _ => ?_) (fun _ => ?_) | refine Doing.fresh (oc_makeSet spotV) fun _ _ _ => ?_))
  rename_i v hv hvn b hb hbn
  refine ARun.rounds (fun i : Nat => ⟨[(1, .s (.pointer (some ⟨v, 0, none⟩))), (4, .s (.map (some b))), (17, .vs 3 (m.re.map relE)), (18, .s (.int .i64 m.re.length)), (19, .s (.int .i64 i))],
    upd (upd H v (.cells m.cells)) b (setR spotV ((m.re.take i).map Rlc.spot))⟩) (fun i => m.re.length - i) (fun i => i ≤ m.re.length ∧ noneB m.badP (List.range m.re.length) i) ?_ 0 ⟨by omega, .zero⟩ ?_
  · rintro i ⟨hi, hno⟩ next
    replace hno := later hno
    by_cases hlt : i < m.re.length
    · have h1 : (i : Int) < m.re.length := by omega
      have h2 : (0 : Int) ≤ i := by omega
      obtain ⟨x, hx⟩ := at_ hlt
      have hx1 := vget relE hx
      rw [relE_def] at hx1
      have hw := w64s (i := i) (by omega)
      have O := of_c x
      rw [relE_def] at O
      simp only [spot_a] at O
      have hsp : x.spot = (x.spot.1, x.a) := rfl
      have hln : m.len x = if x.spot.1 then m.co.length else m.da.length := rfl
      generalize x.spot.1 = c at O hsp hln
      have hbad : m.badP i = (inB (c, x.a) ((m.re.take i).map Rlc.spot) || decide (((m.len x : Nat) : Int) ≤ (x.a : Int))) := by unfold Mod.badP; rw [hx]; simp only [hsp]
      have hsu := spots_succ hx
      rw [hsp] at hsu
      clear hsp
      have e16 := u16_i64 ((hrs.go x (List.mem_of_getElem? hx)).2.1)
      have e1 : decide ((m.co.length : Int) ≤ (x.a : Int)) = decide (((m.co.length : Nat) : Int) ≤ (x.a : Int)) := rfl
      cases hnm : inB (c, x.a) ((m.re.take i).map Rlc.spot) with
      | true =>
        rw [hnm, Bool.true_or] at hbad
        have hf := fi_some (range_get hlt) hbad hno.go
        have ht : m.rel = (6, (i : Int)) := by rw [hrel.go, hf, if_pos (by simp)]
        rw [ht]
        clear hx next hf ht hbad hln hsu e1
        simp only [Mod.cells]
        cases c
        all_goals
          (repeat' (first | with_reducible refine ARun.seq ?_ | with_reducible refine ARun.block ?_ | with_reducible refine ARun.inBlock ?_ | with_reducible refine ARun.skip ?_ | with_reducible refine And.intro ?_ ?_ | ((with_reducible refine ARun.region ?_ ?_); · rfl) | with_reducible refine Fresh.go fun _ _ _ => ?_ | ((with_reducible apply ARun.exit); · rfl) | with_reducible refine ARun.ret ?_ | ((with_reducible refine ARun.cond_t ?_ ?_); · rfl) | ((with_reducible refine ARun.cond_f ?_ ?_); · rfl) | ((with_reducible apply ARun.cond) <;> first | intro _ | rfl) | simp (maxDischargeDepth := 9) only [go_sem, *, ↓reduceIte, reduceCtorEq, Nat.reduceEqDiff, Nat.reduceAdd, Nat.reduceLeDiff, Nat.reduceLT, Nat.reduceMul, Int.reduceEq, Int.reduceNe, Int.reduceLE, Int.reduceLT, Int.reduceBEq, Int.reduceBNe, Int.reduceToNat] | with_reducible refine grdO_goT (fun _ => ?_) (fun _ => ?_) | with_reducible refine grdO_goF (fun _ => ?_) (fun _ => ?_) | with_reducible refine grdF_goT (fun _ => ?_) (fun _ => ?_) | with_reducible refine grdF_goF (fun _ => ?_) (fun _ => ?_) | refine Calling.eq (O _) ?_ | refine Doing.eq (oc_hasB hnm spotK um70 zt4 (by simp (maxDischargeDepth := 9) only [go_sem, *, ↓reduceIte, reduceCtorEq, Nat.reduceEqDiff, Nat.reduceAdd, Nat.reduceLeDiff, Nat.reduceLT, Nat.reduceMul, Int.reduceEq, Int.reduceNe, Int.reduceLE, Int.reduceLT, Int.reduceBEq, Int.reduceBNe, Int.reduceToNat]) rep_agg2) ?_))
          exact Fin.plain (by simp (maxDischargeDepth := 9) only [go_sem, *, ↓reduceIte, reduceCtorEq, Nat.reduceEqDiff, Nat.reduceAdd, Nat.reduceLeDiff, Nat.reduceLT, Nat.reduceMul, Int.reduceEq, Int.reduceNe, Int.reduceLE, Int.reduceLT, Int.reduceBEq, Int.reduceBNe, Int.reduceToNat]; rfl) (by (repeat (first | exact Sub.refl _ | assumption | refine Sub.upd2 ?_ _ _ | refine Sub.fresh ?_ (by assumption) | refine Sub.upd ?_ (by (first | assumption | exact nu1 (by assumption) | exact nu2 (by assumption) | exact nu3 (by assumption) | exact nu4 (by assumption) | exact nu5 (by assumption) | exact nu6 (by assumption) | exact nu7 (by assumption) | exact none_put (by assumption) (by assumption) | exact none_put (by assumption) (nu1 (by assumption)) | exact none_put (by assumption) (nu2 (by assumption)) | exact none_put (by assumption) (nu3 (by assumption)) | exact none_put (by assumption) (nu4 (by assumption)) | exact none_put (by assumption) (nu5 (by assumption))))))) ⟨by first | rfl | (simp [resV, *]; done), rfl⟩
      | false =>
        rw [hnm, Bool.false_or] at hbad
        cases hla : decide (((m.len x : Nat) : Int) ≤ (x.a : Int)) with
        | true =>
          rw [hla] at hbad
          have hf := fi_some (range_get hlt) hbad hno.go
          have ht : m.rel = (6, (i : Int)) := by rw [hrel.go, hf, if_pos (by simp)]
          rw [ht]
          rw [hln] at hla
          clear hx next hf ht hbad hln hsu e1
          simp only [Mod.cells]
          cases c
          all_goals
            simp only [if_true, if_false, Bool.false_eq_true] at hla
            (repeat' (first | with_reducible refine ARun.seq ?_ | with_reducible refine ARun.block ?_ | with_reducible refine ARun.inBlock ?_ | with_reducible refine ARun.skip ?_ | with_reducible refine And.intro ?_ ?_ | ((with_reducible refine ARun.region ?_ ?_); · rfl) | with_reducible refine Fresh.go fun _ _ _ => ?_ | ((with_reducible apply ARun.exit); · rfl) | with_reducible refine ARun.ret ?_ | ((with_reducible refine ARun.cond_t ?_ ?_); · rfl) | ((with_reducible refine ARun.cond_f ?_ ?_); · rfl) | ((with_reducible apply ARun.cond) <;> first | intro _ | rfl) | simp (maxDischargeDepth := 9) only [go_sem, *, ↓reduceIte, reduceCtorEq, Nat.reduceEqDiff, Nat.reduceAdd, Nat.reduceLeDiff, Nat.reduceLT, Nat.reduceMul, Int.reduceEq, Int.reduceNe, Int.reduceLE, Int.reduceLT, Int.reduceBEq, Int.reduceBNe, Int.reduceToNat] | with_reducible refine grdO_goT (fun _ => ?_) (fun _ => ?_) | with_reducible refine grdO_goF (fun _ => ?_) (fun _ => ?_) | with_reducible refine grdF_goT (fun _ => ?_) (fun _ => ?_) | with_reducible refine grdF_goF (fun _ => ?_) (fun _ => ?_) | refine Calling.eq (O _) ?_ | refine Doing.eq (oc_hasB hnm spotK um70 zt4 (by simp (maxDischargeDepth := 9) only [go_sem, *, ↓reduceIte, reduceCtorEq, Nat.reduceEqDiff, Nat.reduceAdd, Nat.reduceLeDiff, Nat.reduceLT, Nat.reduceMul, Int.reduceEq, Int.reduceNe, Int.reduceLE, Int.reduceLT, Int.reduceBEq, Int.reduceBNe, Int.reduceToNat]) rep_agg2) ?_))
            exact Fin.plain (by simp (maxDischargeDepth := 9) only [go_sem, *, ↓reduceIte, reduceCtorEq, Nat.reduceEqDiff, Nat.reduceAdd, Nat.reduceLeDiff, Nat.reduceLT, Nat.reduceMul, Int.reduceEq, Int.reduceNe, Int.reduceLE, Int.reduceLT, Int.reduceBEq, Int.reduceBNe, Int.reduceToNat]; rfl) (by (repeat (first | exact Sub.refl _ | assumption | refine Sub.upd2 ?_ _ _ | refine Sub.fresh ?_ (by assumption) | refine Sub.upd ?_ (by (first | assumption | exact nu1 (by assumption) | exact nu2 (by assumption) | exact nu3 (by assumption) | exact nu4 (by assumption) | exact nu5 (by assumption) | exact nu6 (by assumption) | exact nu7 (by assumption) | exact none_put (by assumption) (by assumption) | exact none_put (by assumption) (nu1 (by assumption)) | exact none_put (by assumption) (nu2 (by assumption)) | exact none_put (by assumption) (nu3 (by assumption)) | exact none_put (by assumption) (nu4 (by assumption)) | exact none_put (by assumption) (nu5 (by assumption))))))) ⟨by first | rfl | (simp [resV, *]; done), rfl⟩
        | false =>
          rw [hla] at hbad
          have hst : ∀ z, setR spotV ((m.re.take i).map Rlc.spot ++ [(c, x.a)]) = z → setR spotV ((m.re.take (i + 1)).map Rlc.spot) = z := fun z h => by rw [← hsu]; exact h
          rw [hln] at hla
          have nx := next.go (i + 1) ⟨by omega, hno.go.succ (range_get hlt) hbad⟩ (by omega)
          simp only [← hsu] at nx
          simp only [Mod.cells] at nx ⊢
          clear hx next hbad hln hsu e1
          cases c
          all_goals
            simp only [if_true, if_false, Bool.false_eq_true] at hla
            (repeat' (first | with_reducible refine ARun.seq ?_ | with_reducible refine ARun.block ?_ | with_reducible refine ARun.inBlock ?_ | with_reducible refine ARun.skip ?_ | with_reducible refine And.intro ?_ ?_ | ((with_reducible refine ARun.region ?_ ?_); · rfl) | with_reducible refine Fresh.go fun _ _ _ => ?_ | ((with_reducible apply ARun.exit); · rfl) | with_reducible refine ARun.ret ?_ | ((with_reducible refine ARun.cond_t ?_ ?_); · rfl) | ((with_reducible refine ARun.cond_f ?_ ?_); · rfl) | ((with_reducible apply ARun.cond) <;> first | intro _ | rfl) | simp (maxDischargeDepth := 9) only [go_sem, *, ↓reduceIte, reduceCtorEq, Nat.reduceEqDiff, Nat.reduceAdd, Nat.reduceLeDiff, Nat.reduceLT, Nat.reduceMul, Int.reduceEq, Int.reduceNe, Int.reduceLE, Int.reduceLT, Int.reduceBEq, Int.reduceBNe, Int.reduceToNat] | with_reducible refine grdO_goT (fun _ => ?_) (fun _ => ?_) | with_reducible refine grdO_goF (fun _ => ?_) (fun _ => ?_) | with_reducible refine grdF_goT (fun _ => ?_) (fun _ => ?_) | with_reducible refine grdF_goF (fun _ => ?_) (fun _ => ?_) | refine Calling.eq (O _) ?_ | refine Doing.eq (oc_hasB hnm spotK um70 zt4 (by simp (maxDischargeDepth := 9) only [go_sem, *, ↓reduceIte, reduceCtorEq, Nat.reduceEqDiff, Nat.reduceAdd, Nat.reduceLeDiff, Nat.reduceLT, Nat.reduceMul, Int.reduceEq, Int.reduceNe, Int.reduceLE, Int.reduceLT, Int.reduceBEq, Int.reduceBNe, Int.reduceToNat]) rep_agg2) ?_ | refine Doing.eq (oc_putN hnm spotK um70 (by simp (maxDischargeDepth := 9) only [go_sem, *, ↓reduceIte, reduceCtorEq, Nat.reduceEqDiff, Nat.reduceAdd, Nat.reduceLeDiff, Nat.reduceLT, Nat.reduceMul, Int.reduceEq, Int.reduceNe, Int.reduceLE, Int.reduceLT, Int.reduceBEq, Int.reduceBNe, Int.reduceToNat]) rep_agg2) ?_))
            exact ARun.weaken nx (AS.le_of (by simp only [List.forall_mem_cons, List.not_mem_nil, false_implies, implies_true, and_true, look_cons, ↓reduceIte, Nat.reduceEqDiff, *] <;> simp) (by (repeat (first | exact Sub.refl _ | assumption | refine Sub.upd2 ?_ _ _ | refine Sub.fresh ?_ (by assumption) | refine Sub.upd ?_ (by (first | assumption | exact nu1 (by assumption) | exact nu2 (by assumption) | exact nu3 (by assumption) | exact nu4 (by assumption) | exact nu5 (by assumption) | exact nu6 (by assumption) | exact nu7 (by assumption) | exact none_put (by assumption) (by assumption) | exact none_put (by assumption) (nu1 (by assumption)) | exact none_put (by assumption) (nu2 (by assumption)) | exact none_put (by assumption) (nu3 (by assumption)) | exact none_put (by assumption) (nu4 (by assumption)) | exact none_put (by assumption) (nu5 (by assumption))))))))
    · have h1 : decide ((i : Int) < m.re.length) = false := by simp; omega
      obtain rfl : i = m.re.length := by omega
      have hpl : ∀ r ∈ m.re, r.a < if r.spot.1 then m.co.length else m.da.length := by
        intro r hr
        obtain ⟨j, hj⟩ := List.mem_iff_getElem?.1 hr
        have hjl := (List.getElem?_eq_some_iff.1 hj).1
        have := hno.go j j hjl (range_get hjl)
        unfold Mod.badP at this
        rw [hj] at this
        have := (Bool.or_eq_false_iff.1 this).2
        have h3 := of_decide_eq_false this
        have h4 : (r.a : Int) < (m.len r : Nat) := by omega
        unfold Mod.len at h4
        omega
      have hf0 : fi m.badP (List.range m.re.length) = -1 := fi_end (by simp) hno.go
      replace hrel := hrel.go
      rw [hf0, if_neg (by decide)] at hrel
      rw [List.take_length]
      have e1 : ∀ (H : Heap), H v = some (.cells m.cells) → AC Tryd.prog 47 [.vs 3 (m.re.map relE), .clo (.func 48) [] [.s (.pointer (some ⟨v, 0, none⟩))]] H (fun r H' => r = .s (.int .i64 (fi (fun r => !m.fit r) m.re)) ∧ H' = H) :=
        fun H hv => ixfR_c m.re hlre _ _ _ H (fun x hx => nfit_c m hm'.go x (hpl x hx) hv)
      have e2 : ∀ (H : Heap), H v = some (.cells m.cells) → AC Tryd.prog 47 [.vs 3 (m.re.map relE), .clo (.func 50) [] [.s (.pointer (some ⟨v, 0, none⟩))]] H (fun r H' => r = .s (.int .i64 (fi (fun r => !m.thr r) m.re)) ∧ H' = H) :=
        fun H hv => ixfR_c m.re hlre _ _ _ H (fun x hx => nthere_c m x (hrs.go x hx).2.2 hv)
      have e1 := later e1
      have e2 := later e2
      clear hno next hpl hf0 hlt hi
      simp only [Mod.cells] at e1 e2 ⊢
      cases q1 : decide (0 ≤ fi (fun r => !m.fit r) m.re) with
      | true =>
        rw [q1, if_pos rfl] at hrel
        rw [hrel]
        clear hrel
        (repeat' (first | with_reducible refine ARun.seq ?_ | with_reducible refine ARun.block ?_ | with_reducible refine ARun.inBlock ?_ | with_reducible refine ARun.skip ?_ | with_reducible refine And.intro ?_ ?_ | ((with_reducible refine ARun.region ?_ ?_); · rfl) | with_reducible refine Fresh.go fun _ _ _ => ?_ | ((with_reducible apply ARun.exit); · rfl) | with_reducible refine ARun.ret ?_ | ((with_reducible refine ARun.cond_t ?_ ?_); · rfl) | ((with_reducible refine ARun.cond_f ?_ ?_); · rfl) | ((with_reducible apply ARun.cond) <;> first | intro _ | rfl) | simp (maxDischargeDepth := 9) only [go_sem, *, ↓reduceIte, reduceCtorEq, Nat.reduceEqDiff, Nat.reduceAdd, Nat.reduceLeDiff, Nat.reduceLT, Nat.reduceMul, Int.reduceEq, Int.reduceNe, Int.reduceLE, Int.reduceLT, Int.reduceBEq, Int.reduceBNe, Int.reduceToNat] | with_reducible refine grdO_goT (fun _ => ?_) (fun _ => ?_) | with_reducible refine grdO_goF (fun _ => ?_) (fun _ => ?_) | with_reducible refine grdF_goT (fun _ => ?_) (fun _ => ?_) | with_reducible refine grdF_goF (fun _ => ?_) (fun _ => ?_) | refine Calling.eq (e1.go _ (by simp (maxDischargeDepth := 9) only [go_sem, *, ↓reduceIte, reduceCtorEq, Nat.reduceEqDiff, Nat.reduceAdd, Nat.reduceLeDiff, Nat.reduceLT, Nat.reduceMul, Int.reduceEq, Int.reduceNe, Int.reduceLE, Int.reduceLT, Int.reduceBEq, Int.reduceBNe, Int.reduceToNat])) ?_))
        exact Fin.plain (by simp (maxDischargeDepth := 9) only [go_sem, *, ↓reduceIte, reduceCtorEq, Nat.reduceEqDiff, Nat.reduceAdd, Nat.reduceLeDiff, Nat.reduceLT, Nat.reduceMul, Int.reduceEq, Int.reduceNe, Int.reduceLE, Int.reduceLT, Int.reduceBEq, Int.reduceBNe, Int.reduceToNat]; rfl) (by (repeat (first | exact Sub.refl _ | assumption | refine Sub.upd2 ?_ _ _ | refine Sub.fresh ?_ (by assumption) | refine Sub.upd ?_ (by (first | assumption | exact nu1 (by assumption) | exact nu2 (by assumption) | exact nu3 (by assumption) | exact nu4 (by assumption) | exact nu5 (by assumption) | exact nu6 (by assumption) | exact nu7 (by assumption) | exact none_put (by assumption) (by assumption) | exact none_put (by assumption) (nu1 (by assumption)) | exact none_put (by assumption) (nu2 (by assumption)) | exact none_put (by assumption) (nu3 (by assumption)) | exact none_put (by assumption) (nu4 (by assumption)) | exact none_put (by assumption) (nu5 (by assumption))))))) ⟨by first | rfl | (simp [resV, *]; done), rfl⟩
      | false =>
        rw [q1, if_neg (by simp)] at hrel
        cases q2 : decide (0 ≤ fi (fun r => !m.thr r) m.re) with
        | true =>
          rw [q2, if_pos rfl] at hrel
          rw [hrel]
          clear hrel
          (repeat' (first | with_reducible refine ARun.seq ?_ | with_reducible refine ARun.block ?_ | with_reducible refine ARun.inBlock ?_ | with_reducible refine ARun.skip ?_ | with_reducible refine And.intro ?_ ?_ | ((with_reducible refine ARun.region ?_ ?_); · rfl) | with_reducible refine Fresh.go fun _ _ _ => ?_ | ((with_reducible apply ARun.exit); · rfl) | with_reducible refine ARun.ret ?_ | ((with_reducible refine ARun.cond_t ?_ ?_); · rfl) | ((with_reducible refine ARun.cond_f ?_ ?_); · rfl) | ((with_reducible apply ARun.cond) <;> first | intro _ | rfl) | simp (maxDischargeDepth := 9) only [go_sem, *, ↓reduceIte, reduceCtorEq, Nat.reduceEqDiff, Nat.reduceAdd, Nat.reduceLeDiff, Nat.reduceLT, Nat.reduceMul, Int.reduceEq, Int.reduceNe, Int.reduceLE, Int.reduceLT, Int.reduceBEq, Int.reduceBNe, Int.reduceToNat] | with_reducible refine grdO_goT (fun _ => ?_) (fun _ => ?_) | with_reducible refine grdO_goF (fun _ => ?_) (fun _ => ?_) | with_reducible refine grdF_goT (fun _ => ?_) (fun _ => ?_) | with_reducible refine grdF_goF (fun _ => ?_) (fun _ => ?_) | refine Calling.eq (e1.go _ (by simp (maxDischargeDepth := 9) only [go_sem, *, ↓reduceIte, reduceCtorEq, Nat.reduceEqDiff, Nat.reduceAdd, Nat.reduceLeDiff, Nat.reduceLT, Nat.reduceMul, Int.reduceEq, Int.reduceNe, Int.reduceLE, Int.reduceLT, Int.reduceBEq, Int.reduceBNe, Int.reduceToNat])) ?_ | refine Calling.eq (e2.go _ (by simp (maxDischargeDepth := 9) only [go_sem, *, ↓reduceIte, reduceCtorEq, Nat.reduceEqDiff, Nat.reduceAdd, Nat.reduceLeDiff, Nat.reduceLT, Nat.reduceMul, Int.reduceEq, Int.reduceNe, Int.reduceLE, Int.reduceLT, Int.reduceBEq, Int.reduceBNe, Int.reduceToNat])) ?_))
          exact Fin.plain (by simp (maxDischargeDepth := 9) only [go_sem, *, ↓reduceIte, reduceCtorEq, Nat.reduceEqDiff, Nat.reduceAdd, Nat.reduceLeDiff, Nat.reduceLT, Nat.reduceMul, Int.reduceEq, Int.reduceNe, Int.reduceLE, Int.reduceLT, Int.reduceBEq, Int.reduceBNe, Int.reduceToNat]; rfl) (by (repeat (first | exact Sub.refl _ | assumption | refine Sub.upd2 ?_ _ _ | refine Sub.fresh ?_ (by assumption) | refine Sub.upd ?_ (by (first | assumption | exact nu1 (by assumption) | exact nu2 (by assumption) | exact nu3 (by assumption) | exact nu4 (by assumption) | exact nu5 (by assumption) | exact nu6 (by assumption) | exact nu7 (by assumption) | exact none_put (by assumption) (by assumption) | exact none_put (by assumption) (nu1 (by assumption)) | exact none_put (by assumption) (nu2 (by assumption)) | exact none_put (by assumption) (nu3 (by assumption)) | exact none_put (by assumption) (nu4 (by assumption)) | exact none_put (by assumption) (nu5 (by assumption))))))) ⟨by first | rfl | (simp [resV, *]; done), rfl⟩
        | false =>
          rw [q2, if_neg (by simp)] at hrel
          replace hrel := later hrel
          (repeat' (first | with_reducible refine ARun.seq ?_ | with_reducible refine ARun.block ?_ | with_reducible refine ARun.inBlock ?_ | with_reducible refine ARun.skip ?_ | with_reducible refine And.intro ?_ ?_ | ((with_reducible refine ARun.region ?_ ?_); · rfl) | with_reducible refine Fresh.go fun _ _ _ => ?_ | ((with_reducible apply ARun.exit); · rfl) | with_reducible refine ARun.ret ?_ | ((with_reducible refine ARun.cond_t ?_ ?_); · rfl) | ((with_reducible refine ARun.cond_f ?_ ?_); · rfl) | ((with_reducible apply ARun.cond) <;> first | intro _ | rfl) | simp (maxDischargeDepth := 9) only [go_sem, *, ↓reduceIte, reduceCtorEq, Nat.reduceEqDiff, Nat.reduceAdd, Nat.reduceLeDiff, Nat.reduceLT, Nat.reduceMul, Int.reduceEq, Int.reduceNe, Int.reduceLE, Int.reduceLT, Int.reduceBEq, Int.reduceBNe, Int.reduceToNat] | with_reducible refine grdO_goT (fun _ => ?_) (fun _ => ?_) | with_reducible refine grdO_goF (fun _ => ?_) (fun _ => ?_) | with_reducible refine grdF_goT (fun _ => ?_) (fun _ => ?_) | with_reducible refine grdF_goF (fun _ => ?_) (fun _ => ?_) | refine Calling.eq (e1.go _ (by simp (maxDischargeDepth := 9) only [go_sem, *, ↓reduceIte, reduceCtorEq, Nat.reduceEqDiff, Nat.reduceAdd, Nat.reduceLeDiff, Nat.reduceLT, Nat.reduceMul, Int.reduceEq, Int.reduceNe, Int.reduceLE, Int.reduceLT, Int.reduceBEq, Int.reduceBNe, Int.reduceToNat])) ?_ | refine Calling.eq (e2.go _ (by simp (maxDischargeDepth := 9) only [go_sem, *, ↓reduceIte, reduceCtorEq, Nat.reduceEqDiff, Nat.reduceAdd, Nat.reduceLeDiff, Nat.reduceLT, Nat.reduceMul, Int.reduceEq, Int.reduceNe, Int.reduceLE, Int.reduceLT, Int.reduceBEq, Int.reduceBNe, Int.reduceToNat])) ?_))
          clear e1 e2 q1 q2 h1
          refine ARun.rounds (fun i : Nat => ⟨[(4, .s (.map (some b))), (63, .vs 1 (m.co.map u1)), (64, .s (.int .i64 m.co.length)), (65, .s (.int .i64 i))],
            upd H b (setR spotV (m.re.map Rlc.spot))⟩) (fun i => m.co.length - i) (fun i => i ≤ m.co.length ∧ noneB m.loose (List.range m.co.length) i) ?_ 0 ⟨by omega, .zero⟩ ?_
          · rintro i ⟨hi, hno⟩ next
            replace hno := later hno
            have hbH : H b = none := by rw [upd_eq] at hb; split at hb; cases hb; exact hb
            clear hb hbn hv hvn
            by_cases hlt : i < m.co.length
            · have h1 : (i : Int) < m.co.length := by omega
              have h2 : (0 : Int) ≤ i := by omega
              obtain ⟨x, hx⟩ := at_ hlt
              have hx1 := vget u1 hx
              rw [u1_def] at hx1
              have hw := w64s (i := i) (by omega)
              have hw2 : IntKind.u16.wrap (i : Int) = i := w16 (by omega) (by omega)
              have D := fun H => decode_c (H := H) (hcs.go x (List.mem_of_getElem? hx))
              rw [Ins.enc_def] at D
              have hbad : m.loose i = ((((dec x).o : Int) == 17) && !(inB (true, i) (m.re.map Rlc.spot))) := by unfold Mod.loose; rw [hx]
              cases q1 : (((dec x).o : Int) == 17) with
              | false =>
                rw [q1, Bool.false_and] at hbad
                have nx := next.go (i + 1) ⟨by omega, hno.go.succ (range_get hlt) hbad⟩ (by omega)
                clear hx next hbad
                (repeat' (first | with_reducible refine ARun.seq ?_ | with_reducible refine ARun.block ?_ | with_reducible refine ARun.inBlock ?_ | with_reducible refine ARun.skip ?_ | with_reducible refine And.intro ?_ ?_ | ((with_reducible refine ARun.region ?_ ?_); · rfl) | with_reducible refine Fresh.go fun _ _ _ => ?_ | ((with_reducible apply ARun.exit); · rfl) | with_reducible refine ARun.ret ?_ | ((with_reducible refine ARun.cond_t ?_ ?_); · rfl) | ((with_reducible refine ARun.cond_f ?_ ?_); · rfl) | ((with_reducible apply ARun.cond) <;> first | intro _ | rfl) | simp (maxDischargeDepth := 9) only [go_sem, *, ↓reduceIte, reduceCtorEq, Nat.reduceEqDiff, Nat.reduceAdd, Nat.reduceLeDiff, Nat.reduceLT, Nat.reduceMul, Int.reduceEq, Int.reduceNe, Int.reduceLE, Int.reduceLT, Int.reduceBEq, Int.reduceBNe, Int.reduceToNat] | with_reducible refine grdO_goT (fun _ => ?_) (fun _ => ?_) | with_reducible refine grdO_goF (fun _ => ?_) (fun _ => ?_) | with_reducible refine grdF_goT (fun _ => ?_) (fun _ => ?_) | with_reducible refine grdF_goF (fun _ => ?_) (fun _ => ?_) | refine Calling.eq (D _) ?_))
                exact ARun.weaken nx (AS.le_of (by simp only [List.forall_mem_cons, List.not_mem_nil, false_implies, implies_true, and_true, look_cons, ↓reduceIte, Nat.reduceEqDiff, *] <;> simp) (by (repeat (first | exact Sub.refl _ | assumption | refine Sub.upd2 ?_ _ _ | refine Sub.fresh ?_ (by assumption) | refine Sub.upd ?_ (by (first | assumption | exact nu1 (by assumption) | exact nu2 (by assumption) | exact nu3 (by assumption) | exact nu4 (by assumption) | exact nu5 (by assumption) | exact nu6 (by assumption) | exact nu7 (by assumption) | exact none_put (by assumption) (by assumption) | exact none_put (by assumption) (nu1 (by assumption)) | exact none_put (by assumption) (nu2 (by assumption)) | exact none_put (by assumption) (nu3 (by assumption)) | exact none_put (by assumption) (nu4 (by assumption)) | exact none_put (by assumption) (nu5 (by assumption))))))))
              | true =>
                rw [q1, Bool.true_and] at hbad
                cases hnm : inB (true, i) (m.re.map Rlc.spot) with
                | false =>
                  rw [hnm] at hbad
                  have hf := fi_some (range_get hlt) hbad hno.go
                  have ht : m.rel = (9, (i : Int)) := by rw [hrel.go, hf, if_pos (by simp)]
                  rw [ht]
                  clear hx next hf ht hbad
                  (repeat' (first | with_reducible refine ARun.seq ?_ | with_reducible refine ARun.block ?_ | with_reducible refine ARun.inBlock ?_ | with_reducible refine ARun.skip ?_ | with_reducible refine And.intro ?_ ?_ | ((with_reducible refine ARun.region ?_ ?_); · rfl) | with_reducible refine Fresh.go fun _ _ _ => ?_ | ((with_reducible apply ARun.exit); · rfl) | with_reducible refine ARun.ret ?_ | ((with_reducible refine ARun.cond_t ?_ ?_); · rfl) | ((with_reducible refine ARun.cond_f ?_ ?_); · rfl) | ((with_reducible apply ARun.cond) <;> first | intro _ | rfl) | simp (maxDischargeDepth := 9) only [go_sem, *, ↓reduceIte, reduceCtorEq, Nat.reduceEqDiff, Nat.reduceAdd, Nat.reduceLeDiff, Nat.reduceLT, Nat.reduceMul, Int.reduceEq, Int.reduceNe, Int.reduceLE, Int.reduceLT, Int.reduceBEq, Int.reduceBNe, Int.reduceToNat] | with_reducible refine grdO_goT (fun _ => ?_) (fun _ => ?_) | with_reducible refine grdO_goF (fun _ => ?_) (fun _ => ?_) | with_reducible refine grdF_goT (fun _ => ?_) (fun _ => ?_) | with_reducible refine grdF_goF (fun _ => ?_) (fun _ => ?_) | refine Calling.eq (D _) ?_ | refine Doing.eq (oc_hasB hnm spotK um70 zt4 (by simp (maxDischargeDepth := 9) only [go_sem, *, ↓reduceIte, reduceCtorEq, Nat.reduceEqDiff, Nat.reduceAdd, Nat.reduceLeDiff, Nat.reduceLT, Nat.reduceMul, Int.reduceEq, Int.reduceNe, Int.reduceLE, Int.reduceLT, Int.reduceBEq, Int.reduceBNe, Int.reduceToNat]) rep_agg2) ?_))
                  exact Fin.plain (by simp (maxDischargeDepth := 9) only [go_sem, *, ↓reduceIte, reduceCtorEq, Nat.reduceEqDiff, Nat.reduceAdd, Nat.reduceLeDiff, Nat.reduceLT, Nat.reduceMul, Int.reduceEq, Int.reduceNe, Int.reduceLE, Int.reduceLT, Int.reduceBEq, Int.reduceBNe, Int.reduceToNat]; rfl) (by (repeat (first | exact Sub.refl _ | assumption | refine Sub.upd2 ?_ _ _ | refine Sub.fresh ?_ (by assumption) | refine Sub.upd ?_ (by (first | assumption | exact nu1 (by assumption) | exact nu2 (by assumption) | exact nu3 (by assumption) | exact nu4 (by assumption) | exact nu5 (by assumption) | exact nu6 (by assumption) | exact nu7 (by assumption) | exact none_put (by assumption) (by assumption) | exact none_put (by assumption) (nu1 (by assumption)) | exact none_put (by assumption) (nu2 (by assumption)) | exact none_put (by assumption) (nu3 (by assumption)) | exact none_put (by assumption) (nu4 (by assumption)) | exact none_put (by assumption) (nu5 (by assumption))))))) ⟨by first | rfl | (simp [resV, *]; done), rfl⟩
                | true =>
                  rw [hnm] at hbad
                  have nx := next.go (i + 1) ⟨by omega, hno.go.succ (range_get hlt) hbad⟩ (by omega)
                  clear hx next hbad
                  (repeat' (first | with_reducible refine ARun.seq ?_ | with_reducible refine ARun.block ?_ | with_reducible refine ARun.inBlock ?_ | with_reducible refine ARun.skip ?_ | with_reducible refine And.intro ?_ ?_ | ((with_reducible refine ARun.region ?_ ?_); · rfl) | with_reducible refine Fresh.go fun _ _ _ => ?_ | ((with_reducible apply ARun.exit); · rfl) | with_reducible refine ARun.ret ?_ | ((with_reducible refine ARun.cond_t ?_ ?_); · rfl) | ((with_reducible refine ARun.cond_f ?_ ?_); · rfl) | ((with_reducible apply ARun.cond) <;> first | intro _ | rfl) | simp (maxDischargeDepth := 9) only [go_sem, *, ↓reduceIte, reduceCtorEq, Nat.reduceEqDiff, Nat.reduceAdd, Nat.reduceLeDiff, Nat.reduceLT, Nat.reduceMul, Int.reduceEq, Int.reduceNe, Int.reduceLE, Int.reduceLT, Int.reduceBEq, Int.reduceBNe, Int.reduceToNat] | with_reducible refine grdO_goT (fun _ => ?_) (fun _ => ?_) | with_reducible refine grdO_goF (fun _ => ?_) (fun _ => ?_) | with_reducible refine grdF_goT (fun _ => ?_) (fun _ => ?_) | with_reducible refine grdF_goF (fun _ => ?_) (fun _ => ?_) | refine Calling.eq (D _) ?_ | refine Doing.eq (oc_hasB hnm spotK um70 zt4 (by simp (maxDischargeDepth := 9) only [go_sem, *, ↓reduceIte, reduceCtorEq, Nat.reduceEqDiff, Nat.reduceAdd, Nat.reduceLeDiff, Nat.reduceLT, Nat.reduceMul, Int.reduceEq, Int.reduceNe, Int.reduceLE, Int.reduceLT, Int.reduceBEq, Int.reduceBNe, Int.reduceToNat]) rep_agg2) ?_))
                  exact ARun.weaken nx (AS.le_of (by simp only [List.forall_mem_cons, List.not_mem_nil, false_implies, implies_true, and_true, look_cons, ↓reduceIte, Nat.reduceEqDiff, *] <;> simp) (by (repeat (first | exact Sub.refl _ | assumption | refine Sub.upd2 ?_ _ _ | refine Sub.fresh ?_ (by assumption) | refine Sub.upd ?_ (by (first | assumption | exact nu1 (by assumption) | exact nu2 (by assumption) | exact nu3 (by assumption) | exact nu4 (by assumption) | exact nu5 (by assumption) | exact nu6 (by assumption) | exact nu7 (by assumption) | exact none_put (by assumption) (by assumption) | exact none_put (by assumption) (nu1 (by assumption)) | exact none_put (by assumption) (nu2 (by assumption)) | exact none_put (by assumption) (nu3 (by assumption)) | exact none_put (by assumption) (nu4 (by assumption)) | exact none_put (by assumption) (nu5 (by assumption))))))))
            · have h1 : decide ((i : Int) < m.co.length) = false := by simp; omega
              have hA1 : fi m.loose (List.range m.co.length) = -1 := fi_end (by simp; omega) hno.go
              have ht : m.rel = (0, 0) := by rw [hrel.go, hA1]; rfl
              rw [ht]
              clear next hA1 ht
              (repeat' (first | with_reducible refine ARun.seq ?_ | with_reducible refine ARun.block ?_ | with_reducible refine ARun.inBlock ?_ | with_reducible refine ARun.skip ?_ | with_reducible refine And.intro ?_ ?_ | ((with_reducible refine ARun.region ?_ ?_); · rfl) | with_reducible refine Fresh.go fun _ _ _ => ?_ | ((with_reducible apply ARun.exit); · rfl) | with_reducible refine ARun.ret ?_ | ((with_reducible refine ARun.cond_t ?_ ?_); · rfl) | ((with_reducible refine ARun.cond_f ?_ ?_); · rfl) | ((with_reducible apply ARun.cond) <;> first | intro _ | rfl) | simp (maxDischargeDepth := 9) only [go_sem, *, ↓reduceIte, reduceCtorEq, Nat.reduceEqDiff, Nat.reduceAdd, Nat.reduceLeDiff, Nat.reduceLT, Nat.reduceMul, Int.reduceEq, Int.reduceNe, Int.reduceLE, Int.reduceLT, Int.reduceBEq, Int.reduceBNe, Int.reduceToNat] | with_reducible refine grdO_goT (fun _ => ?_) (fun _ => ?_) | with_reducible refine grdO_goF (fun _ => ?_) (fun _ => ?_) | with_reducible refine grdF_goT (fun _ => ?_) (fun _ => ?_) | with_reducible refine grdF_goF (fun _ => ?_) (fun _ => ?_)))
              exact Fin.plain (by simp (maxDischargeDepth := 9) only [go_sem, *, ↓reduceIte, reduceCtorEq, Nat.reduceEqDiff, Nat.reduceAdd, Nat.reduceLeDiff, Nat.reduceLT, Nat.reduceMul, Int.reduceEq, Int.reduceNe, Int.reduceLE, Int.reduceLT, Int.reduceBEq, Int.reduceBNe, Int.reduceToNat]; rfl) (by (repeat (first | exact Sub.refl _ | assumption | refine Sub.upd2 ?_ _ _ | refine Sub.fresh ?_ (by assumption) | refine Sub.upd ?_ (by (first | assumption | exact nu1 (by assumption) | exact nu2 (by assumption) | exact nu3 (by assumption) | exact nu4 (by assumption) | exact nu5 (by assumption) | exact nu6 (by assumption) | exact nu7 (by assumption) | exact none_put (by assumption) (by assumption) | exact none_put (by assumption) (nu1 (by assumption)) | exact none_put (by assumption) (nu2 (by assumption)) | exact none_put (by assumption) (nu3 (by assumption)) | exact none_put (by assumption) (nu4 (by assumption)) | exact none_put (by assumption) (nu5 (by assumption))))))) ⟨by first | rfl | (simp [resV, *]; done), rfl⟩
          · exact AS.le_of (by simp only [List.forall_mem_cons, List.not_mem_nil, false_implies, implies_true, and_true, look_cons, ↓reduceIte, Nat.reduceEqDiff, *] <;> simp) (by (repeat (first | exact Sub.refl _ | assumption | refine Sub.upd2 ?_ _ _ | refine Sub.fresh ?_ (by assumption) | refine Sub.upd ?_ (by (first | assumption | exact nu1 (by assumption) | exact nu2 (by assumption) | exact nu3 (by assumption) | exact nu4 (by assumption) | exact nu5 (by assumption) | exact nu6 (by assumption) | exact nu7 (by assumption) | exact none_put (by assumption) (by assumption) | exact none_put (by assumption) (nu1 (by assumption)) | exact none_put (by assumption) (nu2 (by assumption)) | exact none_put (by assumption) (nu3 (by assumption)) | exact none_put (by assumption) (nu4 (by assumption)) | exact none_put (by assumption) (nu5 (by assumption)))))))
  · exact AS.le_of (by simp only [List.forall_mem_cons, List.not_mem_nil, false_implies, implies_true, and_true, look_cons, ↓reduceIte, Nat.reduceEqDiff, *] <;> simp) (Sub.refl _)
end Go.Abs
