import Derived.Test.YtoeplpkmjfecgaaGreatDoorAb26
/- Entries taken out of a map; a map's copy. -/
namespace Go.Abs
set_option linter.unusedSimpArgs false
set_option linter.unusedVariables false
set_option linter.unusedSectionVars false
section
variable {P : Program} {w : World} {H : Heap} {α β : Type} [DecidableEq α]
variable {d : Option Tmp} {ty : TypeId} {pos : String} {aft : Array Edge} {g : Option (Nat × Bool)}
def delF (f : β → α) (k : α) : List β → List β
  | [] => []
  | p :: l => if k = f p then l else p :: delF f k l
theorem delF_filter {f : β → α} {k : α} : ∀ {l : List β}, (l.map f).Nodup → delF f k l = l.filter fun p => !decide (k = f p)
  | [], _ => rfl
  | p :: l, h => by
    simp only [List.map_cons, List.nodup_cons] at h
    unfold delF
    by_cases q : k = f p
    · rw [if_pos q, List.filter_cons_of_neg (by simp [q])]
      refine (List.filter_eq_self.2 fun x hx => ?_).symm
      simp only [Bool.not_eq_true', decide_eq_false_iff_not]
      intro e
      exact h.1 (List.mem_map.2 ⟨x, hx, (e.symm.trans q)⟩)
    · rw [if_neg q, List.filter_cons_of_pos (by simp [q]), delF_filter h.2]
theorem fnd_erase {f : β → α} {k : α} : ∀ {l : List β} {xs : List MapEntry} {i n : Nat} {v : Value}, xs.length = l.length → fnd k (l.map f) xs i = some (n, v) → ∃ j, n = i + j ∧ j < l.length ∧ delF f k l = l.eraseIdx j
  | [], xs, i, n, v, _, h => by simp [fnd] at h
  | p :: l, [], i, n, v, hl, h => by simp at hl
  | p :: l, x :: xs, i, n, v, hl, h => by
    simp only [List.map_cons, fnd] at h
    unfold delF
    by_cases q : k = f p
    · rw [if_pos q] at h ⊢
      simp only [Option.some.injEq, Prod.mk.injEq] at h
      exact ⟨0, by omega, by simp, rfl⟩
    · rw [if_neg q] at h ⊢
      obtain ⟨j, h1, h2, h3⟩ := fnd_erase (by simpa using hl) h
      exact ⟨j + 1, by omega, by simpa using h2, by rw [h3]; rfl⟩
theorem fnd_keep {f : β → α} {k : α} : ∀ {l : List β} {xs : List MapEntry} {i : Nat}, xs.length = l.length → fnd k (l.map f) xs i = none → delF f k l = l
  | [], xs, i, _, h => rfl
  | p :: l, [], i, hl, h => by simp at hl
  | p :: l, x :: xs, i, hl, h => by
    simp only [List.map_cons, fnd] at h
    unfold delF
    by_cases q : k = f p
    · rw [if_pos q] at h; cases h
    · rw [if_neg q] at h ⊢
      rw [fnd_keep (by simpa using hl) h]
theorem map_erase {γ δ : Type} (f : γ → δ) : ∀ (l : List γ) (i : Nat), (l.eraseIdx i).map f = (l.map f).eraseIdx i
  | [], i => by simp
  | x :: l, 0 => rfl
  | x :: l, i + 1 => by simp [map_erase f l i]
theorem repM_erase {w : World} {F : Nat → Prop} : ∀ {l : List (Value × TV)} {xs : List MapEntry} (j : Nat), RepM w F l xs → RepM w F (l.eraseIdx j) (xs.eraseIdx j)
  | [], xs, j, h => by simp only [RepM] at h; subst h; simp [RepM]
  | p :: l, xs, j, h => by
    simp only [RepM] at h
    obtain ⟨y, ys, rfl, h0, h1, h2⟩ := h
    cases j with
    | zero => exact h2
    | succ j => simp only [List.eraseIdx_cons_succ, RepM]; exact ⟨_, _, rfl, h0, h1, repM_erase j h2⟩
theorem run_delete {kt e t t2 : TypeId} {enc : α → Value} (K : KeyP P kt enc) (ht : P.underlying t = some (.map kt e)) {m : Nat} {ms : Array MapEntry} {clock : Nat} (hb : w.heap[m]? = some (.map ms clock)) {k : α} {keys : List α} (hk : ms.toList.map (·.key) = keys.map enc) {ty : TypeId} :
    (Builtin.delete_ #[t, t2] ty #[.map (some m), enc k]).run P w = .ok (.tuple #[]) { w with heap := w.heap.setIfInBounds m (match fnd k keys ms.toList 0 with | some (i, _) => .map (ms.eraseIdxIfInBounds i) clock | none => .map ms clock) } := by
  unfold Builtin.delete_
  simp only [List.getElem?_toArray, List.getElem?_cons_zero, List.getElem?_cons_succ]
  rw [run_ok (run_under ht)]
  simp only []
  rw [run_bind, run_getObj hb]
  simp only []
  rw [run_ok (K.chk w _ k), run_ok (findKey_fnd (w := w) K (k := k) hk)]
  cases fnd k keys ms.toList 0 with
  | none => simp only []; rw [run_ok (run_setObj hb)]; rfl
  | some p => obtain ⟨i, v⟩ := p; simp only []; rw [run_ok (run_setObj hb)]; rfl
theorem oc_delete {kt e t t2 : TypeId} {enc : α → Value} (K : KeyP P kt enc) (ht : P.underlying t = some (.map kt e)) {m : Nat} {l : List (α × TV)} (hm : H m = some (mapR enc l)) {k : α} {kT : TV} (hkT : ∀ w F v, Rep w F kT v → v = enc k) {x y : Operand} :
    OC P ⟨d, .call { callee := .builtin .delete, args := #[x, y], argTypes := #[t, t2] }, ty, pos, aft, g⟩ [.s (.map (some m)), kT] H (fun r H' => r = .any ∧ H' = upd H m (mapR enc (delF (·.1) k l))) := by
  intro ev w hr hh
  obtain ⟨y0, y1, e0, h0, h1⟩ := repL_two hr
  simp only [Op.operands, Call.operands, List.map_cons, List.map_nil] at e0
  simp at e0
  obtain ⟨e0, e1⟩ := e0
  simp only [Rep] at h0; subst h0
  obtain rfl := hkT _ _ _ h1
  obtain ⟨ms, clock, hb, hR, hborn, hnd⟩ := hh m _ hm
  have hkeys : ms.toList.map (·.key) = (l.map (·.1)).map enc := by rw [repM_keys hR]; simp [Function.comp_def]
  have hlen : ms.toList.length = l.length := by have := repM_len hR; simpa using this
  have hbs : bsz w m = 0 := by unfold bsz; rw [hb]
  have hrun := run_delete (w := w) (P := P) (t2 := t2) (ty := ty) K ht hb (k := k) hkeys
  obtain ⟨q1, q2⟩ := setObj_rel (r' := mapR enc (delF (·.1) k l)) (o := match fnd k (l.map (·.1)) ms.toList 0 with | some (i, _) => .map (ms.eraseIdxIfInBounds i) clock | none => .map ms clock) hh hm hbs (by
    intro w' F' hF hs ho
    cases hf : fnd k (l.map (·.1)) ms.toList 0 with
    | none =>
      rw [hf] at ho
      rw [fnd_keep hlen hf]
      exact ⟨ms, clock, ho, RepM.mono hF hs _ _ hR, hborn, hnd⟩
    | some p =>
      obtain ⟨n, v⟩ := p
      rw [hf] at ho
      obtain ⟨j, hn, hj, hd⟩ := fnd_erase hlen hf
      obtain rfl : n = j := by omega
      have hjs : n < ms.size := by rw [← Array.length_toList, hlen]; exact hj
      have hE : ms.eraseIdxIfInBounds n = ms.eraseIdx n hjs := by simp [Array.eraseIdxIfInBounds, hjs]
      have hT : (ms.eraseIdxIfInBounds n).toList = ms.toList.eraseIdx n := by rw [hE, Array.toList_eraseIdx]
      refine ⟨_, clock, ho, ?_, ?_, ?_⟩
      · rw [hT, hd, map_erase]; exact repM_erase n (RepM.mono hF hs _ _ hR)
      · intro e he
        rw [← Array.mem_toList_iff, hT] at he
        exact hborn e (by simpa using List.mem_of_mem_eraseIdx he)
      · rw [hT, map_erase]
        exact hnd.eraseIdx n)
  refine ⟨.tuple #[], _, .inl ?_, _, _, ⟨rfl, rfl⟩, by simp only [Rep], q1, q2⟩
  refine run_builtin (b := .delete) ?_
  rw [show (#[x, y] : Array Operand).map ev = #[.map (some m), enc k] by simp [e0, e1]]
  exact run_v hrun
theorem oc_deleteB {kt e t t2 : TypeId} {enc : α → Value} (K : KeyP P kt enc) (ht : P.underlying t = some (.map kt e)) {m : Nat} {l : List (Nat × α × TV)} {clock : Nat} (hm : H m = some (mapBR enc l clock)) {k : α} {kT : TV} (hkT : ∀ w F v, Rep w F kT v → v = enc k) {x y : Operand} :
    OC P ⟨d, .call { callee := .builtin .delete, args := #[x, y], argTypes := #[t, t2] }, ty, pos, aft, g⟩ [.s (.map (some m)), kT] H (fun r H' => r = .any ∧ H' = upd H m (mapBR enc (delF (·.2.1) k l) clock)) := by
  intro ev w hr hh
  obtain ⟨y0, y1, e0, h0, h1⟩ := repL_two hr
  simp only [Op.operands, Call.operands, List.map_cons, List.map_nil] at e0
  simp at e0
  obtain ⟨e0, e1⟩ := e0
  simp only [Rep] at h0; subst h0
  obtain rfl := hkT _ _ _ h1
  obtain ⟨ms, hb, hR, hst, hborn, hnd⟩ := hh m _ hm
  have hkeys : ms.toList.map (·.key) = (l.map (·.2.1)).map enc := by rw [repM_keys hR]; simp [Function.comp_def]
  have hlen : ms.toList.length = l.length := by have := repM_len hR; simpa using this
  have hbs : bsz w m = 0 := by unfold bsz; rw [hb]
  have hrun := run_delete (w := w) (P := P) (t2 := t2) (ty := ty) K ht hb (k := k) hkeys
  obtain ⟨q1, q2⟩ := setObj_rel (r' := mapBR enc (delF (·.2.1) k l) clock) (o := match fnd k (l.map (·.2.1)) ms.toList 0 with | some (i, _) => .map (ms.eraseIdxIfInBounds i) clock | none => .map ms clock) hh hm hbs (by
    intro w' F' hF hs ho
    cases hf : fnd k (l.map (·.2.1)) ms.toList 0 with
    | none =>
      rw [hf] at ho
      rw [fnd_keep hlen hf]
      exact ⟨ms, ho, RepM.mono hF hs _ _ hR, hst, hborn, hnd⟩
    | some p =>
      obtain ⟨n, v⟩ := p
      rw [hf] at ho
      obtain ⟨j, hn, hj, hd⟩ := fnd_erase hlen hf
      obtain rfl : n = j := by omega
      have hjs : n < ms.size := by rw [← Array.length_toList, hlen]; exact hj
      have hE : ms.eraseIdxIfInBounds n = ms.eraseIdx n hjs := by simp [Array.eraseIdxIfInBounds, hjs]
      have hT : (ms.eraseIdxIfInBounds n).toList = ms.toList.eraseIdx n := by rw [hE, Array.toList_eraseIdx]
      refine ⟨_, ho, ?_, ?_, ?_, ?_⟩
      · rw [hT, hd, map_erase, map_erase]; exact repM_erase n (RepM.mono hF hs _ _ hR)
      · rw [hT, hd, map_erase, map_erase, map_erase, hst]
      · intro e he
        rw [hd, map_erase] at he
        exact hborn e (List.mem_of_mem_eraseIdx he)
      · rw [hd, map_erase, map_erase]
        exact hnd.eraseIdx n)
  refine ⟨.tuple #[], _, .inl ?_, _, _, ⟨rfl, rfl⟩, by simp only [Rep], q1, q2⟩
  refine run_builtin (b := .delete) ?_
  rw [show (#[x, y] : Array Operand).map ev = #[.map (some m), enc k] by simp [e0, e1]]
  exact run_v hrun
/-- Maps whose values are told by a function. -/
def mapF (enc : α → Value) (f : β → TV) (l : List (α × β)) : Root := mapR enc (l.map fun p => (p.1, f p.2))
def mapBF (enc : α → Value) (f : β → TV) (l : List (Nat × α × β)) (clock : Nat) : Root := mapBR enc (l.map fun p => (p.1, p.2.1, f p.2.2)) clock
theorem zip_of {γ δ : Type} (f : γ → δ) : ∀ {l : List (Nat × δ)} {m : List γ}, l.map (·.2) = m.map f → ∃ z : List (Nat × γ), z.map (·.2) = m ∧ l = z.map (fun p => (p.1, f p.2)) ∧ z.map (·.1) = l.map (·.1)
  | [], [], _ => ⟨[], rfl, rfl, rfl⟩
  | [], y :: m, h => by cases h
  | x :: l, [], h => by cases h
  | x :: l, y :: m, h => by
    simp only [List.map_cons, List.cons.injEq] at h
    obtain ⟨z, e1, e2, e3⟩ := zip_of f h.2
    exact ⟨(x.1, y) :: z, by simp [e1], by simp [← e2, ← h.1], by simp [e3]⟩
theorem ARun.openF {n : NT} {Z : AS → Prop} {k : List Item} {E : List (Nat × TV)} {H : Heap} (m : Nat) {enc : α → Value} {f : β → TV} {l : List (α × β)} (hm : H m = some (mapF enc f l))
    (h : ∀ (z : List (Nat × α × β)) clock, z.map (·.2) = l → (∀ e ∈ z, e.1 < clock) → (z.map (·.1)).Nodup → ARun P n Z k ⟨E, upd H m (mapBF enc f z clock)⟩) : ARun P n Z k ⟨E, H⟩ := by
  refine ARun.openM m hm fun l' clock e1 e2 e3 => ?_
  obtain ⟨z, z1, z2, z3⟩ := zip_of (fun p : α × β => (p.1, f p.2)) e1
  have := h z clock z1 (fun e he => by
    have h1 : e.1 ∈ l'.map (·.1) := by rw [← z3]; exact List.mem_map.2 ⟨e, he, rfl⟩
    obtain ⟨x, hx, q⟩ := List.mem_map.1 h1
    rw [← q]; exact e2 x hx) (by rw [z3]; exact e3)
  unfold mapBF at this
  rw [z2]; exact this
theorem ARun.shutF {n : NT} {Z : AS → Prop} {k : List Item} {E : List (Nat × TV)} {H : Heap} (m : Nat) {enc : α → Value} {f : β → TV} {z : List (Nat × α × β)} {clock : Nat} (hm : H m = some (mapBF enc f z clock)) (h : ARun P n Z k ⟨E, upd H m (mapF enc f (z.map (·.2)))⟩) : ARun P n Z k ⟨E, H⟩ := by
  refine ARun.shutM m hm ?_
  have : (z.map fun p => (p.1, p.2.1, f p.2.2)).map (·.2) = (z.map (·.2)).map fun p => (p.1, f p.2) := by rw [List.map_map, List.map_map]; rfl
  rw [this]; exact h
theorem oc_rangeF {t kt e : TypeId} {x : Operand} {m clock : Nat} {enc : α → Value} {f : β → TV} {l : List (Nat × α × β)} (ht : P.underlying t = some (.map kt e)) (hm : H m = some (mapBF enc f l clock)) :
    OC P ⟨d, .range t x, ty, pos, aft, g⟩ [.s (.map (some m))] H (fun r H' => ∃ b, H b = none ∧ r = .s (.pointer (some ⟨b, 0, none⟩)) ∧ H' = upd H b (itR m clock [] clock)) := oc_range_map ht hm
theorem oc_nextF {it : Operand} {b m since last clock : Nat} {marks : List Nat} {enc : α → Value} {f : β → TV} {l : List (Nat × α × β)} (hb : H b = some (itR m since marks last)) (hm : H m = some (mapBF enc f l clock)) (hs : ∀ e ∈ l, e.1 < since) (hl : ∀ e ∈ l, e.1 < last) :
    OC P ⟨d, .next it false, ty, pos, aft, g⟩ [.s (.pointer (some ⟨b, 0, none⟩))] H (fun r H' => (∃ e ∈ l, e.1 ∉ marks ∧ r = .tup [.s (.bool true), .s (enc e.2.1), f e.2.2] ∧ H' = upd H b (itR m since (marks ++ [e.1]) clock)) ∨ ((∀ e ∈ l, e.1 ∈ marks) ∧ r = .tup [.s (.bool false)] ∧ H' = H)) := by
  refine OC.mono (oc_next_map hb hm (fun e he => by obtain ⟨x, hx, rfl⟩ := List.mem_map.1 he; exact hs x hx) (fun e he => by obtain ⟨x, hx, rfl⟩ := List.mem_map.1 he; exact hl x hx)) fun r H' h => ?_
  rcases h with ⟨e, he, h1, h2, h3⟩ | ⟨h1, h2, h3⟩
  · obtain ⟨x, hx, rfl⟩ := List.mem_map.1 he
    exact .inl ⟨x, hx, h1, h2, h3⟩
  · exact .inr ⟨fun e he => h1 _ (List.mem_map.2 ⟨e, he, rfl⟩), h2, h3⟩
theorem oc_entryF {it : Operand} {b m since clock : Nat} {marks : List Nat} {enc : α → Value} {f : β → TV} {l : List (Nat × α × β)} {p : Nat × α × β} (hb : H b = some (itR m since (marks ++ [p.1]) clock)) (hm : H m = some (mapBF enc f l clock)) (hp : p ∈ l) (hnd : (l.map (·.1)).Nodup) :
    OC P ⟨d, .entry it, ty, pos, aft, g⟩ [.s (.pointer (some ⟨b, 0, none⟩))] H (fun r H' => r = .tup [.s (enc p.2.1), f p.2.2] ∧ H' = H) :=
  oc_entry_map (p := (p.1, p.2.1, f p.2.2)) hb hm (List.mem_map.2 ⟨p, hp, rfl⟩) (by rw [List.map_map]; exact hnd)
theorem delF_map {γ δ : Type} {h : γ → δ} {fk : δ → α} {k : α} : ∀ {l : List γ}, delF fk k (l.map h) = (delF (fun x => fk (h x)) k l).map h
  | [] => rfl
  | x :: l => by
    simp only [List.map_cons, delF]
    by_cases q : k = fk (h x)
    · rw [if_pos q, if_pos q]
    · rw [if_neg q, if_neg q, List.map_cons, delF_map]
theorem oc_deleteF {kt e t t2 : TypeId} {enc : α → Value} {f : β → TV} (K : KeyP P kt enc) (ht : P.underlying t = some (.map kt e)) {m : Nat} {l : List (Nat × α × β)} {clock : Nat} (hm : H m = some (mapBF enc f l clock)) {k : α} {kT : TV} (hkT : ∀ w F v, Rep w F kT v → v = enc k) {x y : Operand} :
    OC P ⟨d, .call { callee := .builtin .delete, args := #[x, y], argTypes := #[t, t2] }, ty, pos, aft, g⟩ [.s (.map (some m)), kT] H (fun r H' => r = .any ∧ H' = upd H m (mapBF enc f (delF (·.2.1) k l) clock)) := by
  have h := oc_deleteB (d := d) (ty := ty) (pos := pos) (aft := aft) (g := g) (x := x) (y := y) (t2 := t2) K ht hm hkT
  rw [delF_map] at h
  exact h
/-- What is left to visit, and what was visited. -/
theorem pick_one {α β : Type} {l done rest : List (Nat × α × β)} (hnd : (l.map (·.1)).Nodup) (hp : (done ++ rest).Perm l) {e : Nat × α × β} (he : e ∈ l) (hn : e.1 ∉ done.map (·.1)) : ∃ rest', rest.Perm (e :: rest') ∧ ((done ++ [e]) ++ rest').Perm l ∧ rest'.length < rest.length := by
  have hm : e ∈ rest := by
    rcases List.mem_append.1 (hp.mem_iff.2 he) with h | h
    · exact absurd (List.mem_map.2 ⟨e, h, rfl⟩) hn
    · exact h
  obtain ⟨a, b, rfl⟩ := List.append_of_mem hm
  have h1 : (a ++ e :: b).Perm (e :: (a ++ b)) := List.perm_middle
  refine ⟨a ++ b, h1, ?_, by simp⟩
  refine List.Perm.trans ?_ hp
  rw [List.append_assoc]
  exact (List.Perm.refl done).append (h1.symm)
theorem all_done {α β : Type} {l done rest : List (Nat × α × β)} (hnd : (l.map (·.1)).Nodup) (hp : (done ++ rest).Perm l) (h : ∀ e ∈ l, e.1 ∈ done.map (·.1)) : rest = [] := by
  cases rest with
  | nil => rfl
  | cons e rest =>
    exfalso
    have h1 := h e (hp.mem_iff.1 (by simp))
    have h2 := ((hp.map (·.1)).nodup_iff).2 hnd
    rw [List.map_append, List.nodup_append] at h2
    exact h2.2.2 e.1 h1 e.1 (by simp) rfl
end
end Go.Abs
