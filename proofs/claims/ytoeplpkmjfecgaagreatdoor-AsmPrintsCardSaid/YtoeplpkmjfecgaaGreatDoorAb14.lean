import Derived.Test.YtoeplpkmjfecgaaGreatDoorAb13
/- Maps, and rows that are built. -/
namespace Go.Abs
set_option linter.unusedSimpArgs false
set_option linter.unusedVariables false
section
variable {P : Program} {w : World} {H : Heap} {α : Type} [DecidableEq α]
/-- A type of keys: when two keys are the same one, and that nothing else is asked. -/
structure KeyP (P : Program) (kt : TypeId) (enc : α → Value) : Prop where
  eq : ∀ (w : World) (a b : α), (Op.equal kt (enc a) (enc b)).run P w = .ok (decide (a = b)) w
  chk : ∀ (w : World) (e : Bool) (a : α), (Instr.checkKey e 10000 kt (enc a)).run P w = .ok () w
  under : ∃ d, P.underlying kt = some d ∧ ∀ a b, Instr.sameNow d (enc a) (enc b) = none ∨ Instr.sameNow d (enc a) (enc b) = some (decide (a = b))
  same : ∀ a, Instr.sameBits 10000 (enc a) (enc a) = true
def getK (k : α) : List (α × TV) → Option TV
  | [] => none
  | (a, t) :: l => if k = a then some t else getK k l
def putK (k : α) (t : TV) : List (α × TV) → List (α × TV)
  | [] => [(k, t)]
  | (a, u) :: l => if k = a then (k, t) :: l else (a, u) :: putK k t l
def mapR (enc : α → Value) (l : List (α × TV)) : Root := .map (l.map fun p => (enc p.1, p.2))
def fnd (k : α) : List α → List MapEntry → Nat → Option (Nat × Value)
  | a :: as, e :: es, i => if k = a then some (i, e.val) else fnd k as es (i + 1)
  | _, _, _ => none
theorem findNow_fnd {enc : α → Value} {d : TypeDesc} (hd : ∀ a b, Instr.sameNow d (enc a) (enc b) = none ∨ Instr.sameNow d (enc a) (enc b) = some (decide (a = b))) {k : α} :
    ∀ {as : List α} {es : List MapEntry} {i : Nat}, es.map (·.key) = as.map enc → Instr.findNow d (enc k) es i = none ∨ Instr.findNow d (enc k) es i = some (fnd k as es i)
  | [], [], i, _ => .inr rfl
  | [], e :: es, i, h => by cases h
  | a :: as, [], i, h => by cases h
  | a :: as, e :: es, i, h => by
    simp only [List.map_cons, List.cons.injEq] at h
    unfold Instr.findNow fnd
    rw [h.1]
    rcases hd k a with e1 | e1
    · rw [e1]; exact .inl rfl
    · rw [e1]
      by_cases hk : k = a
      · simp [hk]
      · simp only [hk, decide_false, if_false]; exact findNow_fnd hd h.2
theorem findAsking_fnd {enc : α → Value} {kt : TypeId} (K : KeyP P kt enc) {k : α} :
    ∀ {as : List α} {es : List MapEntry} {i : Nat}, es.map (·.key) = as.map enc → (Instr.findAsking kt (enc k) es i).run P w = .ok (fnd k as es i) w
  | [], [], i, _ => rfl
  | [], e :: es, i, h => by cases h
  | a :: as, [], i, h => by cases h
  | a :: as, e :: es, i, h => by
    simp only [List.map_cons, List.cons.injEq] at h
    unfold Instr.findAsking fnd
    rw [h.1, run_ok (K.eq w k a)]
    by_cases hk : k = a
    · simp [hk, run_pure]
    · simp only [hk, decide_false, Bool.false_eq_true, if_false]; exact findAsking_fnd K h.2
theorem findKey_fnd {enc : α → Value} {kt : TypeId} (K : KeyP P kt enc) {k : α} {as : List α} {es : List MapEntry} (h : es.map (·.key) = as.map enc) : (Instr.findKey kt (enc k) es).run P w = .ok (fnd k as es 0) w := by
  obtain ⟨d, hd, hs⟩ := K.under
  unfold Instr.findKey
  rw [run_ok (run_under hd)]
  rcases findNow_fnd hs (k := k) (i := 0) h with e | e
  · rw [e]; exact findAsking_fnd K h
  · rw [e]; rfl
theorem repM_keys {F : Nat → Prop} : ∀ {ts : List (Value × TV)} {xs : List MapEntry}, RepM w F ts xs → xs.map (·.key) = ts.map (·.1)
  | [], xs, h => by simp only [RepM] at h; subst h; rfl
  | (k, t) :: ts, xs, h => by
    simp only [RepM] at h; obtain ⟨y, ys, rfl, h0, h1, h2⟩ := h
    simp [h0, repM_keys h2]
theorem repM_len {F : Nat → Prop} {ts : List (Value × TV)} {xs : List MapEntry} (h : RepM w F ts xs) : xs.length = ts.length := by
  have := congrArg List.length (repM_keys h); simpa using this
theorem fnd_hit {F : Nat → Prop} {enc : α → Value} {k : α} : ∀ {l : List (α × TV)} {xs : List MapEntry} {i n : Nat} {v : Value}, RepM w F (l.map fun p => (enc p.1, p.2)) xs → fnd k (l.map (·.1)) xs i = some (n, v) →
    ∃ j, n = i + j ∧ (∃ y, xs[j]? = some y ∧ y.key = enc k) ∧ (∃ t, getK k l = some t ∧ Rep w F t v) ∧ ∀ t' v', Rep w F t' v' → RepM w F ((putK k t' l).map fun p => (enc p.1, p.2)) (xs.modify j fun e => { e with key := enc k, val := v' })
  | [], xs, i, n, v, _, h => by simp [fnd] at h
  | (a, t) :: l, xs, i, n, v, hr, h => by
    simp only [List.map_cons, RepM] at hr
    obtain ⟨y, ys, rfl, h0, h1, h2⟩ := hr
    simp only [List.map_cons, fnd] at h
    by_cases hk : k = a
    · rw [if_pos hk] at h
      simp only [Option.some.injEq, Prod.mk.injEq] at h
      obtain ⟨rfl, rfl⟩ := h
      subst hk
      refine ⟨0, rfl, ⟨y, rfl, h0⟩, ⟨t, by simp [getK], h1⟩, fun t' v' hv => ?_⟩
      simp only [putK, if_true, List.map_cons, List.modify_zero_cons, RepM]
      exact ⟨_, _, rfl, rfl, hv, h2⟩
    · rw [if_neg hk] at h
      obtain ⟨j, rfl, ⟨z, hz, hzk⟩, ⟨u, hu, hv⟩, hp⟩ := fnd_hit h2 h
      refine ⟨j + 1, by omega, ⟨z, by simpa using hz, hzk⟩, ⟨u, by simp [getK, hk, hu], hv⟩, fun t' v' hv' => ?_⟩
      simp only [putK, if_neg hk, List.map_cons, List.modify_succ_cons, RepM]
      exact ⟨_, _, rfl, h0, h1, hp t' v' hv'⟩
theorem fnd_miss {F : Nat → Prop} {enc : α → Value} {k : α} : ∀ {l : List (α × TV)} {xs : List MapEntry} {i : Nat}, RepM w F (l.map fun p => (enc p.1, p.2)) xs → fnd k (l.map (·.1)) xs i = none →
    getK k l = none ∧ ∀ t' v' b, Rep w F t' v' → RepM w F ((putK k t' l).map fun p => (enc p.1, p.2)) (xs ++ [{ key := enc k, val := v', born := b }])
  | [], xs, i, hr, _ => by
    simp only [List.map_nil, RepM] at hr; subst hr
    refine ⟨rfl, fun t' v' b hv => ?_⟩
    simp only [putK, List.map_cons, List.map_nil, List.nil_append, RepM]
    exact ⟨_, _, rfl, rfl, hv, rfl⟩
  | (a, t) :: l, xs, i, hr, h => by
    simp only [List.map_cons, RepM] at hr
    obtain ⟨y, ys, rfl, h0, h1, h2⟩ := hr
    simp only [List.map_cons, fnd] at h
    by_cases hk : k = a
    · rw [if_pos hk] at h; cases h
    · rw [if_neg hk] at h
      obtain ⟨g1, g2⟩ := fnd_miss h2 h
      refine ⟨by simp [getK, hk, g1], fun t' v' b hv => ?_⟩
      simp only [putK, if_neg hk, List.map_cons, List.cons_append, RepM]
      exact ⟨_, _, rfl, h0, h1, g2 t' v' b hv⟩
/-- A type's zero value, as seen. -/
def zeroT (P : Program) (T : TypeId) : Option TV := match P.info? T with
  | some i => i.zero.map cst
  | none => none
theorem zeroT_run {T : TypeId} {z : TV} (h : zeroT P T = some z) (F : Nat → Prop) : ∃ v, (zeroValue T).run P w = .ok v w ∧ Rep w F z v := by
  unfold zeroT at h
  split at h
  · rename_i i hi
    cases e : i.zero with
    | none => rw [e] at h; cases h
    | some v =>
      rw [e] at h; simp only [Option.map_some, Option.some.injEq] at h; subst h
      exact ⟨v, by unfold zeroValue; rw [run_ok (run_info hi)]; simp only [e]; rfl, rep_cst _ _ _⟩
  · cases h
theorem run_getObj {m : Nat} {es : Array MapEntry} {clock : Nat} (h : w.heap[m]? = some (.map es clock)) : (getObj m).run P w = .ok (.map es clock) w := by
  simp only [getObj, Sem.run, h]
theorem run_setObj {m : Nat} {es : Array MapEntry} {clock : Nat} {o : Obj} (h : w.heap[m]? = some (.map es clock)) : (setObj m o).run P w = .ok () { w with heap := w.heap.setIfInBounds m o } := by
  simp only [setObj, Sem.run, h]
theorem setObj_rel (hh : HRel H w) {m : Nat} {r r' : Root} (hm : H m = some r) {o : Obj} (hb : bsz w m = 0)
    (hr : ∀ w' F', (∀ b, Fr H w b → F' b ∧ w'.heap[b]? = w.heap[b]?) → (∀ b, bsz w b ≤ bsz w' b) → w'.heap[m]? = some o → RootRel w' F' m r') :
    HRel (upd H m r') { w with heap := w.heap.setIfInBounds m o } ∧ Ext H w (upd H m r') { w with heap := w.heap.setIfInBounds m o } := by
  have hlt := hh.lt hm
  have hne : ∀ b, b ≠ m → (w.heap.setIfInBounds m o)[b]? = w.heap[b]? := fun b hb => by rw [Array.getElem?_setIfInBounds, if_neg (fun e => hb e.symm)]
  have hE : Ext H w (upd H m r') { w with heap := w.heap.setIfInBounds m o } := by
    refine ⟨by simp, fun b hb' hn => ?_, fun b => ?_, rfl, rfl, rfl, Nat.le_refl _⟩
    · have : b ≠ m := by intro e; subst e; rw [hm] at hn; cases hn
      exact ⟨hne b this, by simp only [upd, if_neg this]; exact hn⟩
    · by_cases hbm : b = m
      · subst hbm; rw [hb]; exact Nat.zero_le _
      · unfold bsz; simp only [hne b hbm]; exact Nat.le_refl _
  refine ⟨fun b r0 hb0 => ?_, hE⟩
  by_cases hbm : b = m
  · subst hbm
    simp only [upd, if_true, Option.some.injEq] at hb0; subst hb0
    exact hr _ _ hE.fr hE.bsz (by rw [Array.getElem?_setIfInBounds, if_pos rfl, if_pos hlt])
  · simp only [upd, if_neg hbm] at hb0
    exact (hh b r0 hb0).ext hE (hne b hbm)
theorem oc_lookup {kt e t : TypeId} {enc : α → Value} (K : KeyP P kt enc) (ht : P.underlying t = some (.map kt e)) {z : TV} (hz : zeroT P e = some z) {m : Nat} {l : List (α × TV)} (hm : H m = some (mapR enc l)) {k : α} {kT : TV} (hkT : ∀ w F v, Rep w F kT v → v = enc k)
    {d : Option Tmp} {ty : TypeId} {pos : String} {aft : Array Edge} {g : Option (Nat × Bool)} {s x : Operand} {c : Bool} :
    OC P ⟨d, .lookup t s x c, ty, pos, aft, g⟩ [.s (.map (some m)), kT] H (fun r H' => r = (bif c then .tup [(getK k l).getD z, .s (.bool (getK k l).isSome)] else (getK k l).getD z) ∧ H' = H) := by
  intro ev w hr hh
  simp only [Op.operands, List.map_cons, List.map_nil, RepL] at hr
  obtain ⟨y0, ys, e0, h0, y1, ys1, e1, h1, rfl⟩ := hr
  simp only [List.cons.injEq] at e0; obtain ⟨rfl, rfl⟩ := e0
  simp only [List.cons.injEq] at e1; obtain ⟨rfl, _⟩ := e1
  simp only [Rep] at h0
  replace h1 := hkT _ _ _ h1
  obtain ⟨ms, clock, hb, hR, hborn⟩ := hh m _ hm
  have hkeys : ms.toList.map (·.key) = (l.map (·.1)).map enc := by rw [repM_keys hR]; simp [Function.comp_def]
  have hf := findKey_fnd (w := w) K (k := k) hkeys
  obtain ⟨zv, hzr, hzv⟩ := zeroT_run (w := w) hz (Fr H w)
  have main : ∃ v b, (Instr.lookup t (ev s) (ev x) c).run P w = .ok (if c then .tuple #[v, .bool b] else v) w ∧ b = (getK k l).isSome ∧ Rep w (Fr H w) ((getK k l).getD z) v := by
    rw [h0, h1]
    unfold Instr.lookup
    rw [run_ok (run_under ht)]
    simp only []
    cases hfe : fnd k (l.map (·.1)) ms.toList 0 with
    | some p =>
      obtain ⟨n, v⟩ := p
      obtain ⟨j, _, _, ⟨u, hu, hv⟩, _⟩ := fnd_hit hR hfe
      refine ⟨v, true, ?_, by rw [hu]; rfl, by rw [hu]; exact hv⟩
      rw [run_ok (run_getObj hb)]
      simp only []
      rw [run_ok (run_pure _), run_ok (K.chk w _ k), run_ok hf, hfe]
      simp only []
      rw [run_ok (run_pure _)]
      rfl
    | none =>
      obtain ⟨g1, _⟩ := fnd_miss hR hfe
      refine ⟨zv, false, ?_, by rw [g1]; rfl, by rw [g1]; exact hzv⟩
      rw [run_ok (run_getObj hb)]
      simp only []
      rw [run_ok (run_pure _), run_ok (K.chk w _ k), run_ok hf, hfe]
      simp only []
      rw [run_ok hzr, run_ok (run_pure _)]
      rfl
  obtain ⟨v, b, hrun, hbv, hv⟩ := main
  refine ⟨_, w, .inl (by unfold execOp; simp only []; exact run_v hrun), _, _, ⟨rfl, rfl⟩, ?_, hh, .refl _ _⟩
  cases c
  · simpa using hv
  · simp only [if_true, cond_true, Rep]
    exact ⟨_, rfl, by simp only [RepL]; exact ⟨_, _, rfl, hv, _, _, rfl, by simp only [Rep, hbv], rfl⟩⟩
theorem oc_mapUpdate {kt e t : TypeId} {enc : α → Value} (K : KeyP P kt enc) (ht : P.underlying t = some (.map kt e)) {m : Nat} {l : List (α × TV)} (hm : H m = some (mapR enc l)) {k : α} {u kT : TV} (hkT : ∀ w F v, Rep w F kT v → v = enc k)
    {d : Option Tmp} {ty : TypeId} {pos : String} {aft : Array Edge} {g : Option (Nat × Bool)} {s x y : Operand} :
    OC P ⟨d, .mapUpdate t s x y, ty, pos, aft, g⟩ [.s (.map (some m)), kT, u] H (fun r H' => r = .any ∧ H' = upd H m (mapR enc (putK k u l))) := by
  intro ev w hr hh
  simp only [Op.operands, List.map_cons, List.map_nil, RepL] at hr
  obtain ⟨y0, ys, e0, h0, y1, ys1, e1, h1, y2, ys2, e2, h2, rfl⟩ := hr
  simp only [List.cons.injEq] at e0; obtain ⟨rfl, rfl⟩ := e0
  simp only [List.cons.injEq] at e1; obtain ⟨rfl, rfl⟩ := e1
  simp only [List.cons.injEq] at e2; obtain ⟨rfl, _⟩ := e2
  simp only [Rep] at h0
  replace h1 := hkT _ _ _ h1
  obtain ⟨ms, clock, hb, hR, hborn, hnd⟩ := hh m _ hm
  have hkeys : ms.toList.map (·.key) = (l.map (·.1)).map enc := by rw [repM_keys hR]; simp [Function.comp_def]
  have hf := findKey_fnd (w := w) K (k := k) hkeys
  have hbs : bsz w m = 0 := by unfold bsz; rw [hb]
  have fin : ∀ (ms' : Array MapEntry) (clock' : Nat), (Instr.mapUpdate t (ev s) (ev x) (ev y)).run P w = .ok () { w with heap := w.heap.setIfInBounds m (.map ms' clock') } → RepM w (Fr H w) ((putK k u l).map fun p => (enc p.1, p.2)) ms'.toList →
      (∀ e ∈ ms', e.born < clock') → (ms'.toList.map (·.born)).Nodup → ∃ v w', ((execOp ev ⟨d, .mapUpdate t s x y, ty, pos, aft, g⟩).run P w = .ok (.value v) w' ∨ v = undef ∧ (execOp ev ⟨d, .mapUpdate t s x y, ty, pos, aft, g⟩).run P w = .ok .skip w') ∧
      After (fun r H' => r = .any ∧ H' = upd H m (mapR enc (putK k u l))) H w v w' := by
    intro ms' clock' hrun hR' hb' hn'
    obtain ⟨q1, q2⟩ := setObj_rel (r' := mapR enc (putK k u l)) (o := .map ms' clock') hh hm hbs fun w' F' hF hs ho => ⟨ms', clock', ho, RepM.mono hF hs _ _ hR', hb', hn'⟩
    refine ⟨undef, _, .inr ⟨rfl, ?_⟩, _, _, ⟨rfl, rfl⟩, by simp only [Rep], q1, q2⟩
    unfold execOp; simp only []; rw [run_ok hrun]; rfl
  cases hfe : fnd k (l.map (·.1)) ms.toList 0 with
  | some p =>
    obtain ⟨n, v⟩ := p
    obtain ⟨j, hn, ⟨z, hz, hzk⟩, _, hp⟩ := fnd_hit hR hfe
    simp only [Nat.zero_add] at hn; subst hn
    have hzn : ms[n]? = some z := by rw [← Array.getElem?_toList]; exact hz
    have hp' := hp u (ev y) h2
    refine fin (ms.modify n fun e => { e with key := enc k, val := ev y }) clock ?_ ?_ ?_ ?_
    · rw [h0, h1]
      unfold Instr.mapUpdate
      rw [run_ok (run_under ht)]
      simp only []
      rw [run_ok (run_getObj hb)]
      simp only []
      rw [run_ok (K.chk w _ k), run_ok hf, hfe]
      simp only [hzn, Option.map_some, Option.getD_some, hzk]
      unfold Instr.keyThatStays
      rw [K.same k]
      simp only [if_true]
      rw [run_ok (run_pure _)]
      exact run_setObj hb
    · rw [Array.toList_modify]; exact hp'
    · intro e he
      rw [← Array.mem_toList_iff, Array.toList_modify] at he
      obtain ⟨i, hi⟩ := List.mem_iff_getElem?.1 he
      rw [List.getElem?_modify] at hi
      cases hq : ms.toList[i]? with
      | none => rw [hq] at hi; cases hi
      | some q =>
        rw [hq] at hi
        have := hborn q (by rw [← Array.mem_toList_iff]; exact List.mem_of_getElem? hq)
        simp only [Option.map_eq_map, Option.map_some, Option.some.injEq] at hi
        subst hi; split <;> exact this
    · have : ((ms.modify n fun e => { e with key := enc k, val := ev y }).toList.map (·.born)) = ms.toList.map (·.born) := by
        rw [Array.toList_modify]
        refine List.ext_getElem? fun i => ?_
        rw [List.getElem?_map, List.getElem?_map, List.getElem?_modify]
        cases ms.toList[i]? with
        | none => rfl
        | some q => simp only [Option.map_eq_map, Option.map_some, Option.some.injEq]; split <;> rfl
      rw [this]; exact hnd
  | none =>
    obtain ⟨_, hp⟩ := fnd_miss hR hfe
    refine fin (ms.push { key := enc k, val := ev y, born := clock }) (clock + 1) ?_ ?_ ?_ ?_
    · rw [h0, h1]
      unfold Instr.mapUpdate
      rw [run_ok (run_under ht)]
      simp only []
      rw [run_ok (run_getObj hb)]
      simp only []
      rw [run_ok (K.chk w _ k), run_ok hf, hfe]
      exact run_setObj hb
    · rw [Array.toList_push]; exact hp u (ev y) clock h2
    · intro e he
      rcases Array.mem_push.1 he with h | rfl
      · exact Nat.lt_succ_of_lt (hborn e h)
      · exact Nat.lt_succ_self _
    · rw [Array.toList_push, List.map_append, List.nodup_append]
      refine ⟨hnd, by simp, ?_⟩
      intro a ha b hb' hab
      simp only [List.map_cons, List.map_nil, List.mem_singleton] at hb'
      obtain ⟨e, he, rfl⟩ := List.mem_map.1 ha
      have := hborn e (by rw [← Array.mem_toList_iff]; exact he)
      omega
theorem oc_makeMap {t : TypeId} {d : Option Tmp} {ty : TypeId} {pos : String} {aft : Array Edge} {g : Option (Nat × Bool)} :
    OC P ⟨d, .makeMap t none, ty, pos, aft, g⟩ [] H (fun r H' => ∃ b, H b = none ∧ r = .s (.map (some b)) ∧ H' = upd H b (.map [])) := by
  intro ev w _ hh
  obtain ⟨h0, h1, h2⟩ := alloc_rel (r := .map []) (o := .map #[] 0) hh fun w' F' hF hs ho => ⟨#[], 0, ho, by simp only [RepM], by simp, by simp⟩
  refine ⟨.map (some w.heap.size), _, .inl (by unfold execOp; simp only []; refine run_v ?_; unfold Instr.makeMap; rfl), _, _, ⟨_, h0, rfl, rfl⟩, by simp only [Rep], h1, h2⟩
/-- Operands of a row that is built, with their places. -/
theorem oc_buildSlice {t e : TypeId} {n k : Nat} {gg : Bool} {parts : Array (Nat × Operand)} {vs cs zs : List TV} (ht : P.underlying t = some (.slice e)) (hs : szP P e = some (gg, k)) (hn : 0 < n * k) (hlim : n * k ≤ 2 ^ 24) (hz : zeroP P e = some zs) (hzl : zs.length = k)
    (hf : fillA (fun i => some (i * k, k)) (List.replicate n zs).flatten ((parts.toList.map (·.1)).zip vs) = some cs) (hvl : vs.length = parts.size)
    {d : Option Tmp} {ty : TypeId} {pos : String} {aft : Array Edge} {g : Option (Nat × Bool)} :
    OC P ⟨d, .buildSlice t n parts, ty, pos, aft, g⟩ vs H (fun r H' => ∃ b, H b = none ∧ r = .rs b 0 n k ∧ H' = upd H b (.cells cs)) := by
  intro ev w hr hh
  obtain ⟨zv, hzr, hzv⟩ := zeroP_run (w := w) hz
  have hzc : zv.cells.size = k := by rw [← hzl, ← hzv]; simp
  have hrow : ((Array.range (n * k)).map (zv.cells[· % zv.cells.size]!)).toList = (List.replicate n zv.cells.toList).flatten := by
    have hk : 0 < k := Nat.pos_of_mul_pos_left hn
    clear hf hn hlim
    refine List.ext_getElem? fun i => ?_
    rw [Array.toList_map, Array.toList_range, List.getElem?_map]
    by_cases hi : i < n * k
    · rw [List.getElem?_range hi, Option.map_some, hzc]
      have hm : i % k < zv.cells.size := by rw [hzc]; exact Nat.mod_lt _ hk
      rw [getElem!_pos zv.cells (i % k) hm]
      have hidx : (List.replicate n zv.cells.toList).flatten[i]? = zv.cells.toList[i % k]? := by
        clear hr
        induction n generalizing i with
        | zero => simp at hi
        | succ n ih =>
          rw [List.replicate_succ, List.flatten_cons, List.getElem?_append]
          have hl : zv.cells.toList.length = k := by simpa using hzc
          rw [hl]
          by_cases hik : i < k
          · rw [if_pos hik, Nat.mod_eq_of_lt hik]
          · rw [if_neg hik]
            have hsub : i - k < n * k := by rw [Nat.succ_mul] at hi; omega
            rw [ih (i - k) hsub (by rw [hzc]; exact Nat.mod_lt _ hk)]
            congr 1
            rw [Nat.mod_eq_sub_mod (by omega : i ≥ k)]
      rw [hidx, List.getElem?_eq_getElem (by simpa using hm)]
      simp
    · rw [List.getElem?_eq_none (by simp; omega), List.getElem?_eq_none (by simp [hzc]; omega)]
      rfl
  have hzrep : RepL w (Fr H w) (List.replicate n zs).flatten ((Array.range (n * k)).map (zv.cells[· % zv.cells.size]!)).toList := by
    rw [hrow, ← hzv]
    have h1 : RepL w (Fr H w) (zv.cells.toList.map cst1) zv.cells.toList := rep_cst1s _ _ _
    clear hf hn hlim hrow hr
    induction n with
    | zero => simp only [List.replicate_zero, List.flatten_nil, RepL]
    | succ n ih => rw [List.replicate_succ, List.flatten_cons, List.replicate_succ, List.flatten_cons]; exact RepL.append h1 ih
  have hops : (Op.buildSlice t n parts).operands.toList.map ev = (parts.toList.map fun p => (p.1, ev p.2)).map (·.2) := by simp [Op.operands, Function.comp_def]
  rw [hops] at hr
  obtain ⟨xs', hx1, hx2⟩ := fill_run (place := fun i => some (i * k, k)) (vals := parts.toList.map fun p => (p.1, ev p.2)) hf hzrep
    (by rw [List.map_fst_zip (by simp [hvl])]; simp [Function.comp_def])
    (by rw [List.map_snd_zip (by simp [hvl])]; exact hr)
  have hxl := hx2.length
  obtain ⟨h0, h1, h2⟩ := allocCells_rel (elem := e) hh (cs := cs) (xs := xs') (by rw [List.take_of_length_le (by rw [hxl]; exact Nat.le_refl _)]; exact hx2) (by rw [hxl]; simp)
  have hcl : cs.length = n * k := by
    have fl : ∀ (ps : List (Nat × TV)) (cs0 cs1 : List TV), fillA (fun i => some (i * k, k)) cs0 ps = some cs1 → cs1.length = cs0.length := by
      intro ps
      induction ps with
      | nil => intro cs0 cs1 h; simp only [fillA, Option.some.injEq] at h; rw [h]
      | cons p ps ih =>
        intro cs0 cs1 h
        obtain ⟨i, v⟩ := p
        simp only [fillA] at h
        split at h
        · rename_i off size us hp hc
          simp only [Option.some.injEq, Prod.mk.injEq] at hp; obtain ⟨rfl, rfl⟩ := hp
          split at h
          · cases h
          · rename_i hcond
            rw [ih _ _ h]; simp; omega
        · cases h
    rw [fl _ _ _ hf]
    simp [hzl]
  refine ⟨.slice (some ⟨w.heap.size, 0, none⟩) n n, _, .inl ?_, _, _, ⟨_, h0, rfl, rfl⟩, ?_, h1, h2⟩
  · unfold execOp; simp only []
    refine run_v ?_
    unfold Instr.buildSlice
    rw [run_ok (run_under ht)]
    simp only []
    rw [run_ok (run_size hs)]
    rw [if_neg (by omega), if_neg (by omega)]
    simp only [run_bind, run_pure, hzr]
    have : (parts.map fun x => (x.1, ev x.2)).toList = parts.toList.map fun p => (p.1, ev p.2) := by simp
    rw [this, hx1]
    simp only [run_bind]
    rfl
  · simp only [Rep]
    refine ⟨_, n, rfl, Nat.le_refl _, .inr ⟨rfl, ?_⟩⟩
    have hb : bsz { w with heap := w.heap.push (.cells xs' e) } w.heap.size = xs'.size := by unfold bsz; simp
    rw [hb]
    have : xs'.size = n * k := by rw [← hcl, hxl]; simp
    omega
theorem oc_buildSlice_nil {t e : TypeId} {gg : Bool} {k : Nat} (ht : P.underlying t = some (.slice e)) (hs : szP P e = some (gg, k))
    {d : Option Tmp} {ty : TypeId} {pos : String} {aft : Array Edge} {g : Option (Nat × Bool)} :
    OC P ⟨d, .buildSlice t 0 #[], ty, pos, aft, g⟩ [] H (fun r H' => r = .nils ∧ H' = H) := by
  intro ev w hr hh
  obtain ⟨h0, h1, h2⟩ := allocCells_rel (elem := e) hh (cs := []) (xs := #[]) (by simp only [List.length_nil, List.take_zero, RepL]) (by simp)
  have hsub : ∀ b r, H b = some r → upd H w.heap.size (.cells []) b = some r := fun b r hb => by
    have : b ≠ w.heap.size := by intro e; subst e; rw [h0] at hb; cases hb
    simp only [upd, if_neg this]; exact hb
  refine ⟨.slice (some ⟨w.heap.size, 0, none⟩) 0 0, _, .inl ?_, _, _, ⟨rfl, rfl⟩, ?_, h1.le hsub, h2.le hsub⟩
  · unfold execOp; simp only []
    refine run_v ?_
    unfold Instr.buildSlice
    rw [run_ok (run_under ht)]
    simp only []
    rw [run_ok (run_size hs)]
    have ha : (Array.range 0 : Array Nat) = #[] := by simp
    simp [run_bind, run_pure, Instr.fill, newRow, newObj, Sem.run, ha]
  · simp only [Rep]; exact ⟨_, rfl⟩
end
end Go.Abs
