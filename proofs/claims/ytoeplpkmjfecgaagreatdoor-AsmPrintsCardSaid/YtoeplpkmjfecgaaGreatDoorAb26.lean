import Derived.Test.YtoeplpkmjfecgaaGreatDoorAb25
/- A map that is walked through, in whatever order; what is taken out of it. -/
namespace Go.Abs
set_option linter.unusedSimpArgs false
set_option linter.unusedVariables false
set_option linter.unusedSectionVars false
section
variable {P : Program} {w : World} {H : Heap} {α : Type} [DecidableEq α]
variable {d : Option Tmp} {ty : TypeId} {pos : String} {aft : Array Edge} {g : Option (Nat × Bool)}
/-- A map with the stamps of its entries. -/
def mapBR (enc : α → Value) (l : List (Nat × α × TV)) (clock : Nat) : Root := .mapB (l.map fun p => (p.1, enc p.2.1, p.2.2)) clock
/-- A map's iterator. -/
def itR (m since : Nat) (marks : List Nat) (last : Nat) : Root := .exact (.mapIter (some m) since marks.toArray last)
theorem ARun.reroot {n : NT} {Z : AS → Prop} {k : List Item} {E : List (Nat × TV)} {H : Heap} {m : Nat} {r : Root} (hm : H m = some r) (Q : Root → Prop) (hr : ∀ w, RootRel w (Fr H w) m r → ∃ r', Q r' ∧ RootRel w (Fr H w) m r')
    (h : ∀ r', Q r' → ARun P n Z k ⟨E, upd H m r'⟩) : ARun P n Z k ⟨E, H⟩ := fun a w R => by
  obtain ⟨r', hq, hr'⟩ := hr w (R.heap m r hm)
  have hn : ∀ b, (upd H m r') b = none ↔ H b = none := fun b => by
    by_cases q : b = m
    · subst q; rw [upd_self, hm]; simp
    · simp only [upd, if_neg q]
  have hfr : ∀ b, Fr H w b → Fr (upd H m r') w b := fun b hb => ⟨hb.1, (hn b).2 hb.2⟩
  have R' : Rel n ⟨E, upd H m r'⟩ a w := ⟨R.defers, R.size, fun t v hv => ⟨(R.env t v hv).1, Rep.mono (fun b hb => ⟨hfr b hb, rfl⟩) (fun _ => Nat.le_refl _) _ _ (R.env t v hv).2⟩, fun b r0 hb => by
    have hb : upd H m r' b = some r0 := hb
    by_cases q : b = m
    · subst q
      rw [upd_self] at hb; cases hb
      exact hr'.mono hfr
    · simp only [upd, if_neg q] at hb
      exact (R.heap b r0 hb).mono hfr⟩
  exact (h r' hq a w R').mono fun j a' w' ⟨A', z, q, e⟩ => ⟨A', z, q, ⟨e.size, fun b hb hnb => e.keep b hb ((hn b).2 hnb), e.bsz, e.os, e.tape, e.output, e.drawn⟩⟩
theorem stamps_of {w : World} {F : Nat → Prop} {enc : α → Value} : ∀ {l : List (α × TV)} {xs : List MapEntry}, RepM w F (l.map fun p => (enc p.1, p.2)) xs → ∃ l' : List (Nat × α × TV), l'.map (·.2) = l ∧ l'.map (·.1) = xs.map (·.born)
  | [], xs, h => by simp only [List.map_nil, RepM] at h; subst h; exact ⟨[], rfl, rfl⟩
  | (k, t) :: l, xs, h => by
    simp only [List.map_cons, RepM] at h
    obtain ⟨y, ys, rfl, _, _, h2⟩ := h
    obtain ⟨l', e1, e2⟩ := stamps_of h2
    exact ⟨(y.born, k, t) :: l', by simp [e1], by simp [e2]⟩
/-- From here on the stamps are known. -/
theorem ARun.openM {n : NT} {Z : AS → Prop} {k : List Item} {E : List (Nat × TV)} {H : Heap} (m : Nat) {enc : α → Value} {l : List (α × TV)} (hm : H m = some (mapR enc l))
    (h : ∀ (l' : List (Nat × α × TV)) clock, l'.map (·.2) = l → (∀ e ∈ l', e.1 < clock) → (l'.map (·.1)).Nodup → ARun P n Z k ⟨E, upd H m (mapBR enc l' clock)⟩) : ARun P n Z k ⟨E, H⟩ := by
  refine ARun.reroot hm (fun r' => ∃ (l' : List (Nat × α × TV)) (clock : Nat), l'.map (·.2) = l ∧ (∀ e ∈ l', e.1 < clock) ∧ (l'.map (·.1)).Nodup ∧ r' = mapBR enc l' clock) (fun w hr => ?_) ?_
  · obtain ⟨ms, clock, h1, h2, h3, h4⟩ := hr
    obtain ⟨l', e1, e2⟩ := stamps_of h2
    have hlt : ∀ e ∈ l', e.1 < clock := fun e he => by
      have : e.1 ∈ ms.toList.map (·.born) := by rw [← e2]; exact List.mem_map.2 ⟨e, he, rfl⟩
      obtain ⟨x, hx, hxe⟩ := List.mem_map.1 this
      rw [← hxe]; exact h3 x (by simpa using hx)
    have hnd : (l'.map (·.1)).Nodup := by rw [e2]; exact h4
    refine ⟨_, ⟨l', clock, e1, hlt, hnd, rfl⟩, ms, h1, ?_, ?_, ?_, ?_⟩
    · have : (l'.map fun p => (p.1, enc p.2.1, p.2.2)).map (·.2) = l.map fun p => (enc p.1, p.2) := by rw [← e1, List.map_map, List.map_map]; rfl
      rw [this]; exact h2
    · rw [List.map_map]; exact e2.symm
    · intro e he
      obtain ⟨x, hx, rfl⟩ := List.mem_map.1 he
      exact hlt x hx
    · rw [List.map_map]; exact hnd
  · rintro r' ⟨l', clock, e1, e2, e3, rfl⟩; exact h l' clock e1 e2 e3
/-- The stamps are known no more. -/
theorem ARun.shutM {n : NT} {Z : AS → Prop} {k : List Item} {E : List (Nat × TV)} {H : Heap} (m : Nat) {enc : α → Value} {l : List (Nat × α × TV)} {clock : Nat} (hm : H m = some (mapBR enc l clock)) (h : ARun P n Z k ⟨E, upd H m (mapR enc (l.map (·.2)))⟩) : ARun P n Z k ⟨E, H⟩ := by
  refine ARun.reroot hm (fun r' => r' = mapR enc (l.map (·.2))) (fun w hr => ⟨_, rfl, ?_⟩) (fun r' hq => hq ▸ h)
  obtain ⟨ms, h1, h2, h3, h4, h5⟩ := hr
  refine ⟨ms, clock, h1, ?_, fun e he => ?_, ?_⟩
  · have : (l.map fun p => (p.1, enc p.2.1, p.2.2)).map (·.2) = (l.map (·.2)).map fun p => (enc p.1, p.2) := by rw [List.map_map, List.map_map]; rfl
    rw [← this]; exact h2
  · have : e.born ∈ (l.map fun p => (p.1, enc p.2.1, p.2.2)).map (·.1) := by rw [← h3]; exact List.mem_map.2 ⟨e, by simpa using he, rfl⟩
    obtain ⟨x, hx, hxe⟩ := List.mem_map.1 this
    rw [← hxe]; exact h4 x hx
  · rw [h3]; exact h5
theorem run_getIt {b : Nat} {m since last : Nat} {marks : Array Nat} (h : w.heap[b]? = some (.mapIter (some m) since marks last)) : (getObj b).run P w = .ok (.mapIter (some m) since marks last) w := by
  simp only [getObj, Sem.run, h]
theorem oc_range_map {t kt e : TypeId} {x : Operand} {m clock : Nat} {enc : α → Value} {l : List (Nat × α × TV)} (ht : P.underlying t = some (.map kt e)) (hm : H m = some (mapBR enc l clock)) :
    OC P ⟨d, .range t x, ty, pos, aft, g⟩ [.s (.map (some m))] H (fun r H' => ∃ b, H b = none ∧ r = .s (.pointer (some ⟨b, 0, none⟩)) ∧ H' = upd H b (itR m clock [] clock)) := by
  intro ev w hr hh
  obtain ⟨y, e, h1⟩ := repL_one1 hr
  simp only [Op.operands, List.map_cons, List.map_nil, List.cons.injEq, and_true] at e
  simp only [Rep] at h1; subst h1
  obtain ⟨ms, hb, _⟩ := hh m _ hm
  obtain ⟨h0, h1, h2⟩ := alloc_rel (r := itR m clock [] clock) (o := .mapIter (some m) clock #[] clock) hh fun w' F' hF hs ho => ho
  refine ⟨.pointer (some ⟨w.heap.size, 0, none⟩), _, .inl ?_, _, _, ⟨_, h0, rfl, rfl⟩, by simp only [Rep], h1, h2⟩
  unfold execOp; simp only []
  refine run_v ?_
  rw [e]
  unfold Instr.range
  rw [run_ok (run_under ht)]
  simp only []
  rw [run_bind, run_getObj hb]
  rfl
theorem choose_run (n : Nat) (hn : 0 < n) (w : World) : ∃ t w', (choose (.mapNext n)).run P w = .ok t w' ∧ t < n ∧ (w' = w ∨ w' = { w with drawn := w.drawn + 1 }) := by
  unfold choose
  simp only [Sem.run]
  split
  · exact ⟨0, w, rfl, hn, .inl rfl⟩
  · exact ⟨_, _, rfl, Nat.mod_lt _ hn, .inr rfl⟩
theorem drawn_rel (hh : HRel H w) {w' : World} (h : w' = w ∨ w' = { w with drawn := w.drawn + 1 }) : HRel H w' ∧ Ext H w H w' ∧ w'.heap = w.heap := by
  rcases h with rfl | rfl
  · exact ⟨hh, .refl _ _, rfl⟩
  · have e0 : Ext H w H { w with drawn := w.drawn + 1 } := ⟨Nat.le_refl _, fun _ _ h => ⟨rfl, h⟩, fun _ => Nat.le_refl _, rfl, rfl, rfl, dr_succ _⟩
    exact ⟨fun b r hb => RootRel.ext (w := w) (H := H) e0 rfl (hh b r hb), e0, rfl⟩
theorem repM_get {w : World} {F : Nat → Prop} {enc : α → Value} : ∀ {l : List (Nat × α × TV)} {xs : List MapEntry}, RepM w F ((l.map fun p => (p.1, enc p.2.1, p.2.2)).map (·.2)) xs → xs.map (·.born) = (l.map fun p => (p.1, enc p.2.1, p.2.2)).map (·.1) →
    ∀ e ∈ xs, ∃ p ∈ l, e.born = p.1 ∧ e.key = enc p.2.1 ∧ Rep w F p.2.2 e.val
  | [], xs, h, _, e, he => by simp only [List.map_nil, RepM] at h; subst h; cases he
  | p :: l, xs, h, hb, e, he => by
    simp only [List.map_cons, RepM] at h
    obtain ⟨y, ys, rfl, h0, h1, h2⟩ := h
    simp only [List.map_cons, List.cons.injEq] at hb
    rcases List.mem_cons.1 he with rfl | he
    · exact ⟨p, by simp, hb.1, h0, h1⟩
    · obtain ⟨p', hp', q⟩ := repM_get h2 hb.2 e he
      exact ⟨p', by simp [hp'], q⟩
theorem run_setIt {b : Nat} {m since last : Nat} {marks : Array Nat} {o : Obj} (h : w.heap[b]? = some (.mapIter (some m) since marks last)) : (setObj b o).run P w = .ok () { w with heap := w.heap.setIfInBounds b o } := by
  simp only [setObj, Sem.run, h]
theorem oc_next_map {it : Operand} {b m since last clock : Nat} {marks : List Nat} {enc : α → Value} {l : List (Nat × α × TV)} (hb : H b = some (itR m since marks last)) (hm : H m = some (mapBR enc l clock)) (hs : ∀ e ∈ l, e.1 < since) (hl : ∀ e ∈ l, e.1 < last) :
    OC P ⟨d, .next it false, ty, pos, aft, g⟩ [.s (.pointer (some ⟨b, 0, none⟩))] H (fun r H' => (∃ e ∈ l, e.1 ∉ marks ∧ r = .tup [.s (.bool true), .s (enc e.2.1), e.2.2] ∧ H' = upd H b (itR m since (marks ++ [e.1]) clock)) ∨ ((∀ e ∈ l, e.1 ∈ marks) ∧ r = .tup [.s (.bool false)] ∧ H' = H)) := by
  intro ev w hr hh
  obtain ⟨y, e0, h1⟩ := repL_one1 hr
  simp only [Op.operands, List.map_cons, List.map_nil, List.cons.injEq, and_true] at e0
  simp only [Rep] at h1; subst h1
  have gb : w.heap[b]? = some (.mapIter (some m) since marks.toArray last) := hh b _ hb
  obtain ⟨ms, gm, hrep, hborn, hlt, hnd⟩ := hh m _ hm
  have get := repM_get hrep hborn
  have all : ∀ p ∈ l, ∃ e ∈ ms.toList, e.born = p.1 := fun p hp => by
    have : p.1 ∈ ms.toList.map (·.born) := by rw [hborn, List.map_map]; exact List.mem_map.2 ⟨p, hp, rfl⟩
    obtain ⟨e, he, q⟩ := List.mem_map.1 this
    exact ⟨e, he, q⟩
  have hno : (!marks.toArray.isEmpty && !ms.isEmpty && ms.all fun e => decide (e.born ≥ last)) = false := by
    cases hm0 : ms.toList with
    | nil =>
      have : ms = #[] := by cases ms; simp at hm0; subst hm0; rfl
      subst this; simp
    | cons e es =>
      obtain ⟨p, hp, q, _⟩ := get e (by rw [hm0]; simp)
      have := hl p hp
      have h2 : (ms.all fun e => decide (e.born ≥ last)) = false := by
        rw [Array.all_eq_false]
        have he : e ∈ ms := by rw [← Array.mem_toList_iff, hm0]; simp
        obtain ⟨i, hi, ee⟩ := Array.mem_iff_getElem.1 he
        exact ⟨i, hi, by rw [ee]; simp; omega⟩
      rw [h2, Bool.and_false]
  generalize hleft : (ms.filter fun e => !marks.toArray.contains e.born) = left
  have hmem : ∀ e ∈ left, e ∈ ms.toList ∧ e.born ∉ marks := fun e he => by
    rw [← hleft, Array.mem_filter] at he
    exact ⟨by simpa using he.1, by simpa using he.2⟩
  have hin : ∀ e ∈ ms.toList, e.born ∉ marks → e ∈ left := fun e he hn => by
    rw [← hleft, Array.mem_filter]
    exact ⟨by simpa using he, by simpa using hn⟩
  have hold : (left.filter fun e => decide (e.born < since)) = left := by
    rw [Array.filter_eq_self]
    intro e he
    obtain ⟨p, hp, q, _⟩ := get e (hmem e he).1
    have := hs p hp
    simp; omega
  have hnew : (left.filter fun e => decide (e.born ≥ since)) = #[] := by
    rw [Array.filter_eq_empty_iff]
    intro e he
    obtain ⟨p, hp, q, _⟩ := get e (hmem e he).1
    have := hs p hp
    simp; omega
  generalize hcand : ((if left.isEmpty then #[none] else #[]) ++ (left ++ #[]).map some : Array (Option MapEntry)) = cand
  have hpos : 0 < cand.size := by
    rw [← hcand]
    cases q : left.isEmpty
    · have : left.size ≠ 0 := by intro e; rw [Array.size_eq_zero_iff] at e; rw [e] at q; cases q
      simp; omega
    · simp; omega
  obtain ⟨t, w1, hrun, ht, hw1⟩ := choose_run (P := P) cand.size hpos w
  obtain ⟨hh1, hE1, hheap⟩ := drawn_rel hh hw1
  have gb1 : w1.heap[b]? = some (.mapIter (some m) since marks.toArray last) := by rw [hheap]; exact gb
  have hget : cand[t]? = some cand[t] := Array.getElem?_eq_getElem ht
  have hmc : cand[t] ∈ cand := Array.getElem_mem ht
  have run0 : ∀ {R : Result Value}, (match cand[t]? with
      | some (some e) => (do setObj b (.mapIter (some m) since (marks.toArray.push e.born) clock); pure (Value.tuple #[.bool true, e.key, e.val]) : Sem Value)
      | some none => pure (Value.tuple #[.bool false])
      | none => stuck "Next: no such candidate").run P w1 = R → (Instr.next (.pointer (some ⟨b, 0, none⟩)) false ty).run P w = R := by
    intro R hR
    unfold Instr.next
    simp only []
    rw [run_bind, run_getIt gb]
    simp only []
    rw [run_bind, run_getObj gm]
    simp only [hno, Bool.false_eq_true, if_false, hleft, hold, hnew, hcand]
    rw [run_bind, hrun]
    exact hR
  cases hx : cand[t] with
  | none =>
    rw [hx] at hget hmc
    have hem : left.isEmpty = true := by
      rw [← hcand, Array.mem_append] at hmc
      rcases hmc with h | h
      · cases q : left.isEmpty
        · rw [q] at h; simp at h
        · rfl
      · simp at h
    refine ⟨.tuple #[.bool false], w1, .inl ?_, _, H, .inr ⟨fun p hp => ?_, rfl, rfl⟩, ?_, hh1, hE1⟩
    · unfold execOp; simp only []
      refine run_v ?_
      rw [e0]
      refine run0 ?_
      rw [hget]; rfl
    · obtain ⟨e, he, q⟩ := all p hp
      by_cases hn : e.born ∈ marks
      · rw [← q]; exact hn
      · have := hin e he hn
        have h0 : left = #[] := by simpa using hem
        rw [h0] at this; simp at this
    · simp only [Rep, RepL]; exact ⟨_, rfl, _, _, rfl, rfl, rfl⟩
  | some e =>
    rw [hx] at hget hmc
    have hel : e ∈ left := by
      rw [← hcand, Array.mem_append] at hmc
      rcases hmc with h | h
      · cases q : left.isEmpty <;> rw [q] at h <;> simp at h
      · simpa using h
    obtain ⟨h1, h2⟩ := hmem e hel
    obtain ⟨p, hp, q1, q2, q3⟩ := get e h1
    obtain ⟨s1, s2⟩ := setObj_rel hh1 hb (r' := itR m since (marks ++ [p.1]) clock) (o := .mapIter (some m) since (marks.toArray.push e.born) clock) (by unfold bsz; rw [gb1]) (fun w' F' _ _ ho => by
      show w'.heap[b]? = _
      rw [ho, q1]
      simp)
    refine ⟨.tuple #[.bool true, e.key, e.val], _, .inl ?_, _, _, .inl ⟨p, hp, by rw [← q1]; exact h2, rfl, rfl⟩, ?_, s1, hE1.trans s2⟩
    · unfold execOp; simp only []
      refine run_v ?_
      rw [e0]
      refine run0 ?_
      rw [hget]
      simp only []
      rw [run_bind, run_setIt gb1]
      rfl
    · simp only [Rep, RepL]
      exact ⟨_, rfl, _, _, rfl, rfl, _, _, rfl, q2, _, _, rfl, Rep.ext (hE1.trans s2) q3, rfl⟩
theorem oc_entry_map {it : Operand} {b m since clock : Nat} {marks : List Nat} {enc : α → Value} {l : List (Nat × α × TV)} {p : Nat × α × TV} (hb : H b = some (itR m since (marks ++ [p.1]) clock)) (hm : H m = some (mapBR enc l clock)) (hp : p ∈ l) (hnd : (l.map (·.1)).Nodup) :
    OC P ⟨d, .entry it, ty, pos, aft, g⟩ [.s (.pointer (some ⟨b, 0, none⟩))] H (fun r H' => r = .tup [.s (enc p.2.1), p.2.2] ∧ H' = H) := by
  intro ev w hr hh
  obtain ⟨y, e0, h1⟩ := repL_one1 hr
  simp only [Op.operands, List.map_cons, List.map_nil, List.cons.injEq, and_true] at e0
  simp only [Rep] at h1; subst h1
  have gb : w.heap[b]? = some (.mapIter (some m) since (marks ++ [p.1]).toArray clock) := hh b _ hb
  obtain ⟨ms, gm, hrep, hborn, hlt, _⟩ := hh m _ hm
  have get := repM_get hrep hborn
  obtain ⟨e, he, q⟩ : ∃ e ∈ ms.toList, e.born = p.1 := by
    have : p.1 ∈ ms.toList.map (·.born) := by rw [hborn, List.map_map]; exact List.mem_map.2 ⟨p, hp, rfl⟩
    obtain ⟨e, he, q⟩ := List.mem_map.1 this
    exact ⟨e, he, q⟩
  obtain ⟨e', hf⟩ : ∃ e', ms.find? (fun x => x.born == p.1) = some e' := by
    cases hf : ms.find? (fun x => x.born == p.1) with
    | some e' => exact ⟨e', rfl⟩
    | none =>
      rw [Array.find?_eq_none] at hf
      exact absurd (by simp [q]) (hf e (by simpa using he))
  have hb' := Array.find?_some hf
  have hm' := Array.mem_of_find?_eq_some hf
  simp only [beq_iff_eq] at hb'
  obtain ⟨p', hp', q1, q2, q3⟩ := get e' (by simpa using hm')
  have hpp : p' = p := by
    obtain ⟨i, hi⟩ := List.mem_iff_getElem?.1 hp
    obtain ⟨j, hj⟩ := List.mem_iff_getElem?.1 hp'
    have a : (l.map (·.1))[i]? = some p.1 := by rw [List.getElem?_map, hi]; rfl
    have c : (l.map (·.1))[j]? = some p.1 := by rw [List.getElem?_map, hj]; simp; omega
    have hlen : i < (l.map (·.1)).length := (List.getElem?_eq_some_iff.1 a).1
    have := (List.getElem?_inj hlen hnd).1 (a.trans c.symm)
    subst this
    rw [hi] at hj; exact (Option.some.inj hj).symm
  subst hpp
  refine ⟨.tuple #[e'.key, e'.val], w, .inl ?_, _, H, ⟨rfl, rfl⟩, ?_, hh, .refl _ _⟩
  · unfold execOp; simp only []
    refine run_v ?_
    rw [e0]
    unfold Instr.entry
    simp only []
    rw [run_bind, run_getIt gb]
    simp only [List.back?_toArray, List.getLast?_concat]
    rw [run_bind, run_getObj gm]
    simp only [bne_self_eq_false, Bool.false_eq_true, if_false]
    rw [hf]; rfl
  · simp only [Rep, RepL]
    exact ⟨_, rfl, _, _, rfl, q2, _, _, rfl, q3, rfl⟩
theorem op_entry {A : AS} {K : AS → Prop} (x : Operand) : opA P ⟨d, .entry x, ty, pos, aft, g⟩ A K = withc (evalL A.env [x]) fun vs => Doing P ⟨d, .entry x, ty, pos, aft, g⟩ vs A.H fun r H' => K ((A.on H').put d r) := by
  rw [opA_eff rfl]; rfl
theorem op_delete {A : AS} {K : AS → Prop} (x y : Operand) (T : Array TypeId) : opA P ⟨d, .call { callee := .builtin .delete, args := #[x, y], argTypes := T }, ty, pos, aft, g⟩ A K = withc (evalL A.env [x, y]) fun vs => Doing P ⟨d, .call { callee := .builtin .delete, args := #[x, y], argTypes := T }, ty, pos, aft, g⟩ vs A.H fun r H' => K ((A.on H').put d r) := by
  rw [opA_eff rfl]; rfl
end
attribute [go_sem] op_entry op_delete
end Go.Abs
