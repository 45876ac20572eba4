import Derived.Test.YtoeplpkmjfecgaaGreatDoorAb16
/- Rows that are grown ahead; sets of keys. -/
namespace Go.Abs
set_option linter.unusedSimpArgs false
set_option linter.unusedVariables false
section
variable {P : Program} {w : World} {H : Heap}
variable {d : Option Tmp} {ty : TypeId} {pos : String} {aft : Array Edge} {g : Option (Nat × Bool)}
theorem run_grow_zeros (t tx ty e : TypeId) (i : TypeInfo) (z : Value) (kx k : IntKind) (ht : P.underlying t = some (.slice e)) (hi : P.info? e = some i) (hz : i.zero = some z) (hx : P.underlying tx = some (.int kx)) (base : Option Addr) (n : Nat) (hn : 0 < n) (hsz : 0 < i.size) (h63 : n < 4611686018427387904) (hfit : n * i.bytes ≤ 281474976710656) :
    (Builtin.append_ #[t, tx] ty #[.slice base 0 0, .int k n]).run P w = .ok (.slice (some ⟨w.heap.size, 0, none⟩) n (grownCap w n 0 e)) (w.drew.alloc (.cells (Builtin.zeroCells z.cells n ++ Builtin.zeroCells z.cells (grownCap w n 0 e - n)) e)) := by
  have hw : IntKind.i64.wrap (n : Int) = n := by rw [IntKind.wrap_i64]; omega
  have h1 : ¬ ((n : Int) < 0) := by omega
  have h2 : ¬ (281474976710656 < ((n : Nat) : Int) * (i.bytes : Int)) := by
    have : ((n : Nat) : Int) * (i.bytes : Int) = ((n * i.bytes : Nat) : Int) := by simp
    rw [this]; omega
  have h3 : ¬ (9223372036854775807 < (n : Int)) := by omega
  have h4 : Builtin.nextslicecap n 0 = n := by unfold Builtin.nextslicecap; rw [if_pos (by omega)]
  have h5 : ¬ (281474976710656 < n * i.bytes) := by omega
  have h6 : ¬ n = 0 := by omega
  have hc : ∀ w' : World, (Builtin.firstCells i.size 0 (.slice base 0 0)).run P w' = .ok #[] w' := fun w' => by cases base <;> simp [Builtin.firstCells, loadCells, loadCellsFrom]
  have hs : ¬ (n * i.size = 0) := Nat.mul_ne_zero (by omega) (by omega)
  have hs' : ¬ (n = 0 ∨ i.size = 0) := by simp; omega
  simp [Builtin.append_, run_underlying ht, run_underlying hx, sizeOf, typeInfo, zeroValue, hi, hz, asInt, run_intOf, hw, h1, h2, h3, h4, h5, h6, hs, hs', Question.forced, hc, newRow, grownCap]
/-- append of so many zeros to nothing: of what is in the new block nothing is said. -/
theorem oc_grow {t tx : TypeId} {s x : Operand} {n k bytes : Nat} {kx kv : IntKind} (ha : apP P t = some (k, bytes)) (hx : P.underlying tx = some (.int kx)) (hn : 0 < n) (hk : 0 < k) (hby : n * bytes ≤ 281474976710656) (h63 : n < 4611686018427387904) :
    OC P ⟨d, .call { callee := .builtin .append, args := #[s, x], argTypes := #[t, tx] }, ty, pos, aft, g⟩ [.nils, .s (.int kv n)] H (fun r H' => ∃ b, H b = none ∧ r = .rs b 0 n k ∧ H' = upd H b (.cells [])) := by
  intro ev w hr hh
  obtain ⟨a, b, e, h1, h2⟩ := repL_two hr
  simp [Op.operands, Call.operands] at e
  obtain ⟨e1, e2⟩ := e
  simp only [Rep] at h1 h2
  obtain ⟨ad, rfl⟩ := h1
  subst h2
  obtain ⟨el, i, z, ht, hi, hz, hzk, hik, hib⟩ := apP_get ha
  subst hik hib
  have hrun := run_grow_zeros (w := w) t tx ty el i z kx kv ht hi hz hx ad n hn (by omega) h63 hby
  have e0 : Ext H w H w.drew := ⟨Nat.le_refl _, fun _ _ h => ⟨rfl, h⟩, fun _ => Nat.le_refl _, rfl, rfl, rfl, dr_succ _⟩
  have hhd : HRel H w.drew := fun p r hp => (hh p r hp).ext e0 rfl
  have hnk : n * i.size ≠ 0 := Nat.mul_ne_zero (by omega) (by omega)
  obtain ⟨h0, h1, h2⟩ := allocCells_rel (w := w.drew) (elem := el) hhd (cs := []) (xs := Builtin.zeroCells z.cells n ++ Builtin.zeroCells z.cells (grownCap w n 0 el - n)) (by simp only [List.length_nil, List.take_zero, RepL]) (by simp)
  have hsz : w.drew.heap.size = w.heap.size := rfl
  rw [hsz] at h0 h1 h2
  refine ⟨_, _, .inl (run_append (by rw [e1, e2]; exact hrun)), _, _, ⟨_, h0, rfl, rfl⟩, ?_, h1, e0.trans h2⟩
  simp only [Rep]
  have hge := grownCap_ge w n 0 el
  refine ⟨_, _, rfl, hge, .inr ⟨rfl, ?_⟩⟩
  have hc : (Builtin.zeroCells z.cells n ++ Builtin.zeroCells z.cells (grownCap w n 0 el - n)).size = grownCap w n 0 el * i.size := by
    simp only [Builtin.zeroCells, Array.size_append, Array.size_map, Array.size_range, hzk]
    rw [← Nat.add_mul]; congr 1; omega
  have hb' := bsz_push w.drew (Builtin.zeroCells z.cells n ++ Builtin.zeroCells z.cells (grownCap w n 0 el - n)) el (0, 0)
  rw [hsz, hc] at hb'
  rw [Nat.zero_add]
  exact Nat.le_of_eq hb'.symm
theorem Each.cons {k : Nat} {e : List TV} {L : List (List TV)} (h : e.length = k) (g : Each k L) : Each k (e :: L) := fun x hx => (List.mem_cons.1 hx).elim (fun q => by rw [q]; exact h) (g x)
theorem fill_all {k : Nat} {zs : List TV} (hz : zs.length = k) : ∀ (es : List (List TV)) (vs : List TV) (i : Nat) (pre : List TV), vs.map cellsT = es.map some → Each k es → pre.length = i * k →
    fillA (fun i => some (i * k, k)) (pre ++ (List.replicate es.length zs).flatten) ((List.range' i es.length).zip vs) = some (pre ++ es.flatten)
  | [], vs, i, pre, hv, _, _ => by
    have : vs = [] := by simpa using hv
    subst this; simp [fillA]
  | e :: es, [], i, pre, hv, _, _ => by simp at hv
  | e :: es, v :: vs, i, pre, hv, he, hp => by
    simp only [List.map_cons, List.cons.injEq] at hv
    have hk : e.length = k := he e (by simp)
    simp only [List.length_cons, List.range'_succ, List.zip_cons_cons, fillA, hv.1]
    rw [if_neg (by simp [hk, hp, List.replicate_succ, hz])]
    have h1 : (pre ++ (List.replicate (es.length + 1) zs).flatten).take (i * k) = pre := by rw [← hp]; exact List.take_left
    have h2 : (pre ++ (List.replicate (es.length + 1) zs).flatten).drop (i * k + k) = (List.replicate es.length zs).flatten := by
      rw [List.replicate_succ, List.flatten_cons, ← hp, Nat.add_comm pre.length k, ← List.drop_drop]
      rw [show pre ++ (zs ++ (List.replicate es.length zs).flatten) = (pre ++ zs) ++ (List.replicate es.length zs).flatten by simp]
      rw [List.drop_drop, show k + pre.length = (pre ++ zs).length by simp [hz]; omega]
      exact List.drop_left
    rw [h1, h2, fill_all hz es vs (i + 1) (pre ++ e) hv.2 (fun x hx => he x (by simp [hx])) (by simp [hk, hp, Nat.succ_mul])]
    simp
/-- A row that is built whole. -/
theorem oc_build {t : TypeId} {n k bytes : Nat} {parts : Array (Nat × Operand)} {vs : List TV} {es : List (List TV)} (ha : apP P t = some (k, bytes)) (hsz : ∀ e', P.underlying t = some (.slice e') → (szP P e').isSome = true) (hp : parts.toList.map (·.1) = List.range' 0 n) (hl : es.length = n) (hv : vs.map cellsT = es.map some) (he : Each k es) (hn : 0 < n) (hk : 0 < k) (hk2 : n * k ≤ 2 ^ 24) :
    OC P ⟨d, .buildSlice t n parts, ty, pos, aft, g⟩ vs H (fun r H' => ∃ b, H b = none ∧ r = .rs b 0 n k ∧ H' = upd H b (.cells es.flatten)) := by
  obtain ⟨e', i, z, ht, hi, hz, hzk, hik, hib⟩ := apP_get ha
  obtain ⟨⟨gg, n'⟩, hs⟩ := Option.isSome_iff_exists.1 (hsz e' ht)
  have hn' : n' = k := by
    unfold szP at hs; rw [hi] at hs
    rw [← hik]
    split at hs <;> simp_all
  subst hn'
  have hzp : zeroP P e' = some (z.cells.toList.map cst1) := by unfold zeroP; rw [hi]; simp only [hz]
  have hvl : vs.length = n := by have := congrArg List.length hv; simp at this; omega
  have hpl : parts.size = n := by have := congrArg List.length hp; simpa using this
  refine oc_buildSlice ht hs (Nat.mul_pos hn hk) hk2 hzp (by simpa using hzk) ?_ (by omega)
  have := fill_all (k := n') (zs := z.cells.toList.map cst1) (by simpa using hzk) es vs 0 [] hv he (by simp)
  rw [hl] at this
  rw [hp]
  simpa using this
/-- A set of keys: a map whose values are true. -/
def setR {α : Type} (enc : α → Value) (ks : List α) : Root := mapR enc (ks.map fun k => (k, .s (.bool true)))
variable {α : Type} [DecidableEq α]
theorem getK_set (k : α) : ∀ ks : List α, getK k (ks.map fun k => (k, TV.s (.bool true))) = if k ∈ ks then some (.s (.bool true)) else none
  | [] => rfl
  | a :: ks => by
    simp only [List.map_cons, getK, List.mem_cons]
    by_cases h : k = a
    · simp [h]
    · simp only [h, if_false, false_or]; exact getK_set k ks
theorem putK_set (k : α) : ∀ ks : List α, putK k (TV.s (.bool true)) (ks.map fun k => (k, TV.s (.bool true))) = (if k ∈ ks then ks else ks ++ [k]).map fun k => (k, TV.s (.bool true))
  | [] => rfl
  | a :: ks => by
    simp only [List.map_cons, putK, List.mem_cons]
    by_cases h : k = a
    · simp [h]
    · simp only [h, if_false, false_or]
      rw [putK_set k ks]
      split <;> simp
theorem oc_has {kt e t : TypeId} {enc : α → Value} (K : KeyP P kt enc) (ht : P.underlying t = some (.map kt e)) (hz : zeroT P e = some (.s (.bool false))) {m : Nat} {ks : List α} (hm : H m = some (setR enc ks)) {k : α} {kT : TV} (hkT : ∀ w F v, Rep w F kT v → v = enc k)
    {s x : Operand} : OC P ⟨d, .lookup t s x false, ty, pos, aft, g⟩ [.s (.map (some m)), kT] H (fun r H' => r = .s (.bool (decide (k ∈ ks))) ∧ H' = H) := by
  have h := oc_lookup (d := d) (ty := ty) (pos := pos) (aft := aft) (g := g) (s := s) (x := x) (c := false) K ht hz hm hkT
  rw [getK_set] at h
  by_cases hk : k ∈ ks
  · simpa [hk] using h
  · simpa [hk] using h
theorem oc_put {kt e t : TypeId} {enc : α → Value} (K : KeyP P kt enc) (ht : P.underlying t = some (.map kt e)) {m : Nat} {ks : List α} (hm : H m = some (setR enc ks)) {k : α} {kT : TV} (hkT : ∀ w F v, Rep w F kT v → v = enc k)
    {s x y : Operand} : OC P ⟨d, .mapUpdate t s x y, ty, pos, aft, g⟩ [.s (.map (some m)), kT, .s (.bool true)] H (fun r H' => r = .any ∧ H' = upd H m (setR enc (if k ∈ ks then ks else ks ++ [k]))) := by
  have h := oc_mapUpdate (d := d) (ty := ty) (pos := pos) (aft := aft) (g := g) (s := s) (x := x) (y := y) (u := .s (.bool true)) K ht hm hkT
  rw [putK_set] at h
  exact h
omit [DecidableEq α] in
theorem oc_makeSet {t : TypeId} (enc : α → Value) : OC P ⟨d, .makeMap t none, ty, pos, aft, g⟩ [] H (fun r H' => ∃ b, H b = none ∧ r = .s (.map (some b)) ∧ H' = upd H b (setR enc [])) := oc_makeMap
theorem rep_s {v : Value} : ∀ (w : World) (F : Nat → Prop) (x : Value), Rep w F (.s v) x → x = v := fun w F x h => by simpa only [Rep] using h
theorem rep_agg2 {a b : Value} : ∀ (w : World) (F : Nat → Prop) (x : Value), Rep w F (.agg [.s a, .s b]) x → x = .agg #[a, b] := fun w F x h => by
  simp only [Rep, RepL] at h
  obtain ⟨⟨xs⟩, rfl, y, ys, h1, h2, z, zs, h3, h4, h5⟩ := h
  simp only at h1
  subst h2 h4 h5
  rw [h1, h3]
theorem lenR_mapR {β : Type} (enc : β → Value) (l : List (β × TV)) : lenR (some (mapR enc l)) = some (l.length : Int) := by simp [lenR, mapR]
theorem lenR_setR {β : Type} (enc : β → Value) (ks : List β) : lenR (some (setR enc ks)) = some (ks.length : Int) := by simp [lenR, setR, mapR]
end
attribute [go_sem] lenR_mapR lenR_setR
end Go.Abs
