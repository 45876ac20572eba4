import Derived.Test.YtoeplpkmjfecgaaGreatDoorAb7
import Derived.Laws.Sem
/- A function's contract out of a run of its body. -/
namespace Go.Abs
set_option linter.unusedSimpArgs false
set_option linter.unusedVariables false
set_option linter.unusedVariables false

/-- What a function's results look like. -/
def resA (P : Program) (A : AS) : ResultVar → Option TV
  | .tmp t => look A.env t
  | .cell t T => match look A.env t with
    | some p => loadA P A.H T p
    | none => none
def resAll (P : Program) (A : AS) : List ResultVar → Option (List TV)
  | [] => some []
  | r :: rs => match resA P A r, resAll P A rs with
    | some v, some vs => some (v :: vs)
    | _, _ => none
def resV : List TV → TV
  | [v] => v
  | l => .tup l
def Sub (H' H : Heap) : Prop := ∀ b r, H' b = some r → H b = some r
/-- A value that looks like t while H is held looks like t' once only H' is. -/
def Conv (H H' : Heap) (t t' : TV) : Prop := ∀ w x, HRel H w → Rep w (Fr H w) t x → Rep w (Fr H' w) t' x
def ConvL (H H' : Heap) (t t' : List TV) : Prop := ∀ w x, HRel H w → RepL w (Fr H w) t x → RepL w (Fr H' w) t' x
theorem Conv.refl {H H' : Heap} (h : Sub H' H) (t : TV) : Conv H H' t t := fun w x _ r => Rep.mono (fun b hb => ⟨fr_le h b hb, rfl⟩) (fun _ => Nat.le_refl _) _ _ r
theorem ConvL.nil {H H' : Heap} : ConvL H H' [] [] := fun w x _ r => by simpa only [RepL] using r
theorem ConvL.cons {H H' : Heap} {t t' : TV} {ts ts' : List TV} (h : Conv H H' t t') (hs : ConvL H H' ts ts') : ConvL H H' (t :: ts) (t' :: ts') := fun w x hh r => by
  simp only [RepL] at r ⊢; obtain ⟨y, ys, rfl, h1, h2⟩ := r; exact ⟨y, ys, rfl, h w y hh h1, hs w ys hh h2⟩
theorem ConvL.refl {H H' : Heap} (h : Sub H' H) (t : List TV) : ConvL H H' t t := fun w x _ r => RepL.mono (fun b hb => ⟨fr_le h b hb, rfl⟩) (fun _ => Nat.le_refl _) _ _ r
theorem Conv.tup {H H' : Heap} {ts ts' : List TV} (hs : ConvL H H' ts ts') : Conv H H' (.tup ts) (.tup ts') := fun w x hh r => by
  simp only [Rep] at r ⊢; obtain ⟨xs, rfl, r⟩ := r; exact ⟨xs, rfl, hs w _ hh r⟩
theorem Conv.agg {H H' : Heap} {ts ts' : List TV} (hs : ConvL H H' ts ts') : Conv H H' (.agg ts) (.agg ts') := fun w x hh r => by
  simp only [Rep] at r ⊢; obtain ⟨xs, rfl, r⟩ := r; exact ⟨xs, rfl, hs w _ hh r⟩
theorem Sub.refl (H : Heap) : Sub H H := fun _ _ h => h
theorem Sub.upd {H H' : Heap} (h : Sub H H') {b : Nat} {r : Root} (hb : H b = none) : Sub H (Go.Abs.upd H' b r) := by
  intro c x hc
  unfold Go.Abs.upd; split
  · rename_i e; subst e; rw [hb] at hc; cases hc
  · exact h c x hc
theorem Sub.upd2 {H H' : Heap} (h : Sub H H') (b : Nat) (r : Root) : Sub (Go.Abs.upd H b r) (Go.Abs.upd H' b r) := by
  intro c x hc
  unfold Go.Abs.upd at hc ⊢; split <;> rename_i e
  · rw [if_pos e] at hc; exact hc
  · rw [if_neg e] at hc; exact h c x hc
theorem Sub.trans {H H1 H2 : Heap} (h : Sub H H1) (g : Sub H1 H2) : Sub H H2 := fun b r hb => g b r (h b r hb)

def ent : Nat → List TV → List (Nat × TV)
  | _, [] => []
  | i, v :: vs => (i, v) :: ent (i + 1) vs

section
variable {P : Program}
theorem resA_run {n : NT} {A : AS} {a : Act} {w : World} (r : Rel n A a w) {x : ResultVar} {v : TV} (h : resA P A x = some v) :
    ∃ y, (match x with | .tmp t => pure (a.tmps.getD t undef) | .cell t T => do loadVar T (← asAddr (a.tmps.getD t undef)) : Sem Value).run P w = .ok y w ∧ Rep w (Fr A.H w) v y := by
  cases x with
  | tmp t => exact ⟨_, rfl, (r.env t v h).2⟩
  | cell t T =>
    simp only [resA] at h
    split at h
    · rename_i p hp
      obtain ⟨y, h1, h2⟩ := loadA_run (P := P) r.heap (r.env t p hp).2 h
      refine ⟨y, ?_, h2⟩
      simp only []
      unfold Instr.loadAt at h1
      have hr := (r.env t p hp).2
      have : ∃ q, a.tmps.getD t undef = .pointer (some q) := by
        unfold loadA at h
        split at h <;> first | cases h | skip
        all_goals
          rename_i hs hrd
          obtain ⟨b, off, xs, e, _⟩ := rdA_cells r.heap hr hrd
          exact ⟨_, e⟩
      obtain ⟨q, hq⟩ := this
      rw [hq] at h1 ⊢
      rw [run_ok (a := q) (w' := w) rfl] at h1 ⊢
      exact h1
    · cases h
theorem resAll_run {n : NT} {A : AS} {a : Act} {w : World} (r : Rel n A a w) : ∀ {xs : List ResultVar} {vs : List TV}, resAll P A xs = some vs →
    ∃ ys, (xs.mapM (fun x => match x with | .tmp t => pure (a.tmps.getD t undef) | .cell t T => do loadVar T (← asAddr (a.tmps.getD t undef)) : ResultVar → Sem Value)).run P w = .ok ys w ∧ RepL w (Fr A.H w) vs ys
  | [], vs, h => by simp only [resAll, Option.some.injEq] at h; subst h; exact ⟨[], rfl, by simp only [RepL]⟩
  | x :: xs, vs, h => by
    simp only [resAll] at h
    split at h
    · rename_i v vs' h1 h2; simp at h; subst h
      obtain ⟨y, g1, g2⟩ := resA_run r h1
      obtain ⟨ys, g3, g4⟩ := resAll_run r h2
      refine ⟨y :: ys, ?_, by simp only [RepL]; exact ⟨_, _, rfl, g2, g4⟩⟩
      rw [List.mapM_cons, run_ok g1, run_ok g3]; rfl
    · cases h
theorem results_run {n : NT} {A : AS} {a : Act} {w : World} (r : Rel n A a w) {fn : Func} {vs : List TV} (h : resAll P A fn.results.toList = some vs) :
    ∃ y, (results fn a.tmps).run P w = .ok y w ∧ Rep w (Fr A.H w) (resV vs) y := by
  obtain ⟨ys, h1, h2⟩ := resAll_run r h
  unfold results
  rw [Array.mapM_eq_mapM_toList, bind_map_left]
  have e := run_ok (f := fun l : List Value => (pure (if h : l.toArray.size = 1 then l.toArray[0] else .tuple l.toArray) : Sem Value)) h1
  unfold resV
  split
  · simp only [RepL] at h2; obtain ⟨y, ys', rfl, h2, rfl⟩ := h2
    exact ⟨y, e.trans (by simp), h2⟩
  · rename_i hne
    have hl := h2.length
    have : ¬ ys.toArray.size = 1 := by
      intro e; simp at e
      match vs, hl, hne with
      | [], hl, _ => simp at hl; omega
      | [v], _, hne => exact hne v rfl
      | _ :: _ :: _, hl, _ => simp at hl; omega
    refine ⟨.tuple ys.toArray, e.trans (by rw [dif_neg this]; rfl), ?_⟩
    simp only [Rep]; exact ⟨_, rfl, h2⟩
theorem look_ent {w : World} {F : Nat → Prop} : ∀ {args : List TV} {argv : List Value} {i t : Nat} {v : TV}, RepL w F args argv → look (ent i args) t = some v → i ≤ t ∧ t < i + argv.length ∧ Rep w F v (argv.getD (t - i) undef)
  | [], argv, i, t, v, h, hl => by simp [ent, look] at hl
  | u :: us, argv, i, t, v, h, hl => by
    simp only [RepL] at h; obtain ⟨y, ys, rfl, h1, h2⟩ := h
    simp only [ent, look] at hl
    split at hl
    · rename_i e; subst e; simp at hl; subst hl; exact ⟨Nat.le_refl _, by simp, by simpa using h1⟩
    · rename_i e
      obtain ⟨g1, g2, g3⟩ := look_ent h2 hl
      refine ⟨by omega, by simp; omega, ?_⟩
      rw [show t - i = (t - (i + 1)) + 1 by omega]; simpa using g3
/-- What is to be shown at a return. -/
def Fin (P : Program) (res : List ResultVar) (C : TV → Heap → Prop) (A : AS) : Prop := ∃ vs, resAll P A res = some vs ∧ ∃ r H', Sub H' A.H ∧ Conv A.H H' (resV vs) r ∧ C r H'
theorem AC.body {g : FuncId} {fn : Func} {c : Code} {n : Nat} {args : List TV} {H : Heap} {C : TV → Heap → Prop} (hf : P.funcs[g]? = some fn) (hb : fn.body = some c) (hname : (fn.name == "runtime.NumGoroutine") = false)
    {res : List ResultVar} (hn : fn.ntmps = n) (hr : fn.results.toList = res) (hl : args.length ≤ n) (h : ARun P (OfNat.ofNat n) (Fin P res C) [.code c] ⟨ent 0 args, H⟩) : AC P g args H C := by
  subst hn
  intro argv w ha hh
  refine .inl ⟨?_, fun cs => ?_⟩
  · unfold callFunc
    rw [run_ok (w' := w) (a := P) rfl]
    simp only [hf, hname, Bool.false_eq_true, if_false, hb, Option.isNone_some]; rfl
  · have hal := ha.length
    have hrel : Rel ⟨fn.ntmps, [], none, fun _ _ => False⟩ ⟨ent 0 args, H⟩ { tmps := argv.toArray ++ Array.replicate (fn.ntmps - argv.toArray.size) undef, defers := [] } w := by
      refine ⟨rfl, by simp only [Array.size_append, List.size_toArray, Array.size_replicate] at *; omega, fun t v hv => ?_, hh⟩
      obtain ⟨h1, h2, h3⟩ := look_ent ha hv
      refine ⟨by show t < fn.ntmps; omega, ?_⟩
      have : (argv.toArray ++ Array.replicate (fn.ntmps - argv.toArray.size) undef).getD t undef = argv.getD (t - 0) undef := by
        have ht : t < argv.length := by omega
        simp [Array.getD_eq_getD_getElem?, Array.getElem?_append, ht]
      rw [this]; exact h3
    obtain ⟨j, a', w', m', ⟨A', hw, r', e⟩, s, he⟩ := h _ w hrel { (default : Frame) with fn := g, kind := .normal, roundOf := none } cs rfl rfl
    cases j with
    | some c => exact hw.elim
    | none =>
      obtain ⟨vs, hres, r, H', hsub, hconv, hC⟩ := hw
      obtain ⟨todo, rfl⟩ := he
      subst hr
      obtain ⟨y, hy, hry⟩ := results_run r' hres
      have henter : Frame.enter P g argv.toArray .normal = ({ (default : Frame) with fn := g, kind := .normal, roundOf := none } : Frame).atR { tmps := argv.toArray ++ Array.replicate (fn.ntmps - argv.toArray.size) undef, defers := [] } [.code c] := by
        simp [Frame.enter, Frame.atR, hf, hb]
      rw [← henter] at s
      refine ⟨.returned y, w', _, ⟨y, rfl, r, H', hC, hconv w' y r'.heap hry, r'.heap.le hsub, e.le hsub⟩, s, rfl, ?_⟩
      refine ⟨rfl, r'.defers, rfl, fn, hf, ?_⟩
      simpa [Frame.atR] using hy
theorem ext_of_below {H : Heap} {w w' : World} (h : RowKit.Below w.heap.size w w') (hd : dr w.drawn ≤ dr w'.drawn) : Ext H w H w' := by
  refine ⟨h.size, fun b hb hn => ⟨h.block b hb, hn⟩, fun b => ?_, h.os, h.tape, h.output, hd⟩
  by_cases hb : b < w.heap.size
  · unfold bsz; rw [h.block b hb]; exact Nat.le_refl _
  · have : bsz w b = 0 := by unfold bsz; rw [Array.getElem?_eq_none (by omega)]
    omega
/-- A contract in the kit's own words: plain arguments, a plain result, nothing written. -/
theorem AC.of_calls {g : FuncId} {fn : Func} {vs : List Value} {H : Heap} {v : Value} (hf : P.funcs[g]? = some fn) (hb : fn.body.isNone = false) (hname : (fn.name == "runtime.NumGoroutine") = false)
    (h : ∀ w, HRel H w → Calls P g vs.toArray w fun e w' => e = .returned v ∧ RowKit.Below w.heap.size w w' ∧ dr w.drawn ≤ dr w'.drawn) : AC P g (vs.map .s) H (fun r H' => r = .s v ∧ H' = H) := by
  intro argv w ha hh
  have : argv = vs := by
    clear h
    induction vs generalizing argv with
    | nil => simpa only [List.map_nil, RepL] using ha
    | cons x vs ih =>
      simp only [List.map_cons, RepL] at ha
      obtain ⟨y, ys, rfl, h1, h2⟩ := ha
      simp only [Rep] at h1; subst h1
      rw [ih ys h2]
  subst this
  refine .inl ⟨?_, fun cs => ?_⟩
  · unfold callFunc
    rw [run_ok (w' := w) (a := P) rfl]
    simp only [hf, hname, Bool.false_eq_true, if_false, hb]; rfl
  · obtain ⟨e, w', fr, ⟨rfl, hB, hd⟩, s⟩ := h w hh cs
    have hE : Ext H w H w' := ext_of_below hB hd
    exact ⟨_, w', fr, ⟨v, rfl, .s v, H, ⟨rfl, rfl⟩, by simp only [Rep], fun b r hr => (hh b r hr).ext hE (hB.block b (hh.lt hr)), hE⟩, s⟩
end
end Go.Abs
