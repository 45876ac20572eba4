import Derived.Test.YtoeplpkmjfecgaaGreatDoorAb15
/- Strings that are walked through, small builtins. -/
namespace Go.Abs
set_option linter.unusedSimpArgs false
set_option linter.unusedVariables false
section
variable {P : Program} {w : World} {H : Heap}
variable {d : Option Tmp} {ty : TypeId} {pos : String} {aft : Array Edge} {g : Option (Nat × Bool)}
theorem repL_one1 {F : Nat → Prop} {t : TV} {xs : List Value} (h : RepL w F [t] xs) : ∃ y, xs = [y] ∧ Rep w F t y := by
  simp only [RepL] at h; obtain ⟨y, ys, rfl, h1, rfl⟩ := h; exact ⟨y, rfl, h1⟩
theorem repL_two {F : Nat → Prop} {t u : TV} {xs : List Value} (h : RepL w F [t, u] xs) : ∃ y z, xs = [y, z] ∧ Rep w F t y ∧ Rep w F u z := by
  simp only [RepL] at h; obtain ⟨y, ys, rfl, h1, z, zs, rfl, h2, rfl⟩ := h; exact ⟨y, z, rfl, h1, h2⟩
theorem oc_range_str {t : TypeId} {x : Operand} {s : ByteArray} (ht : isStr P t = true) :
    OC P ⟨d, .range t x, ty, pos, aft, g⟩ [.s (.string s)] H (fun r H' => ∃ b, H b = none ∧ r = .s (.pointer (some ⟨b, 0, none⟩)) ∧ H' = upd H b (.strIter s 0)) := by
  intro ev w hr hh
  obtain ⟨y, e, h1⟩ := repL_one1 hr
  simp only [Op.operands, List.map_cons, List.map_nil, List.cons.injEq, and_true] at e
  simp only [Rep] at h1; subst h1
  obtain ⟨h0, h1, h2⟩ := alloc_rel (r := .strIter s 0) (o := .stringIter s 0) hh fun w' F' hF hs ho => ho
  refine ⟨.pointer (some ⟨w.heap.size, 0, none⟩), _, .inl ?_, _, _, ⟨_, h0, rfl, rfl⟩, by simp only [Rep], h1, h2⟩
  unfold execOp; simp only []
  refine run_v ?_
  rw [e]
  unfold Instr.range
  rw [run_ok (run_under (str_under ht))]
  rfl
theorem run_getStr {b p : Nat} {s : ByteArray} (h : w.heap[b]? = some (.stringIter s p)) : (getObj b).run P w = .ok (.stringIter s p) w := by
  simp only [getObj, Sem.run, h]
theorem run_setStr {b p : Nat} {s : ByteArray} {o : Obj} (h : w.heap[b]? = some (.stringIter s p)) : (setObj b o).run P w = .ok () { w with heap := w.heap.setIfInBounds b o } := by
  simp only [setObj, Sem.run, h]
theorem oc_next_at {b p : Nat} {s : ByteArray} {it : Operand} (hb : H b = some (.strIter s p)) (hp : p < s.size) :
    OC P ⟨d, .next it true, ty, pos, aft, g⟩ [.s (.pointer (some ⟨b, 0, none⟩))] H (fun r H' => r = .tup [.s (.bool true), .s (.int .i64 p), .s (.int .i32 (Utf8.decode s p).1)] ∧ H' = upd H b (.strIter s (p + (Utf8.decode s p).2))) := by
  intro ev w hr hh
  obtain ⟨y, e, h1⟩ := repL_one1 hr
  simp only [Op.operands, List.map_cons, List.map_nil, List.cons.injEq, and_true] at e
  simp only [Rep] at h1; subst h1
  have hw : w.heap[b]? = some (.stringIter s p) := hh b _ hb
  obtain ⟨q1, q2⟩ := setObj_rel (r' := .strIter s (p + (Utf8.decode s p).2)) (o := .stringIter s (p + (Utf8.decode s p).2)) hh hb (by unfold bsz; rw [hw]) fun w' F' hF hs ho => ho
  refine ⟨.tuple #[.bool true, .int .i64 p, .int .i32 (Utf8.decode s p).1], _, .inl ?_, _, _, ⟨rfl, rfl⟩, ?_, q1, q2⟩
  · unfold execOp; simp only []
    refine run_v ?_
    rw [e]
    unfold Instr.next
    simp only []
    rw [run_ok (run_getStr hw)]
    simp only [hp, if_true]
    rw [run_ok (run_setStr hw)]
    rfl
  · simp only [Rep, RepL]; exact ⟨_, rfl, _, _, rfl, rfl, _, _, rfl, rfl, _, _, rfl, rfl, rfl⟩
theorem oc_next_end {b p : Nat} {s : ByteArray} {it : Operand} (hb : H b = some (.strIter s p)) (hp : ¬ p < s.size) :
    OC P ⟨d, .next it true, ty, pos, aft, g⟩ [.s (.pointer (some ⟨b, 0, none⟩))] H (fun r H' => r = .tup [.s (.bool false)] ∧ H' = H) := by
  intro ev w hr hh
  obtain ⟨y, e, h1⟩ := repL_one1 hr
  simp only [Op.operands, List.map_cons, List.map_nil, List.cons.injEq, and_true] at e
  simp only [Rep] at h1; subst h1
  have hw : w.heap[b]? = some (.stringIter s p) := hh b _ hb
  refine ⟨.tuple #[.bool false], _, .inl ?_, _, _, ⟨rfl, rfl⟩, ?_, hh, .refl _ _⟩
  · unfold execOp; simp only []
    refine run_v ?_
    rw [e]
    unfold Instr.next
    simp only []
    rw [run_ok (run_getStr hw)]
    simp only [hp, if_false]
    rfl
  · simp only [Rep, RepL]; exact ⟨_, rfl, _, _, rfl, rfl, rfl⟩
theorem run_builtin {b : Builtin} {args : Array Operand} {ts : Array TypeId} {ev : Operand → Value} {v : Value} {w' : World}
    (h : (builtin b ts ty (args.map fun | .const _ => true | _ => false) (args.map ev)).run P w = .ok (.value v) w') : (execOp ev ⟨d, .call { callee := .builtin b, args := args, argTypes := ts }, ty, pos, aft, g⟩).run P w = .ok (.value v) w' := by
  unfold execOp
  simp only []
  unfold resolve
  simp only []
  rw [run_ok (w' := w) rfl]
  unfold invoke
  exact h
theorem oc_min {x y : Operand} {ts : Array TypeId} {k k' : IntKind} {i j : Int} :
    OC P ⟨d, .call { callee := .builtin .min, args := #[x, y], argTypes := ts }, ty, pos, aft, g⟩ [.s (.int k i), .s (.int k' j)] H (fun r H' => r = .s (.int k (if j < i then j else i)) ∧ H' = H) := by
  intro ev w hr hh
  obtain ⟨a, b, e, h1, h2⟩ := repL_two hr
  simp [Op.operands, Call.operands] at e
  obtain ⟨e1, e2⟩ := e
  simp only [Rep] at h1 h2; subst h1 h2
  refine ⟨.int k (if j < i then j else i), w, .inl (run_builtin ?_), _, _, ⟨rfl, rfl⟩, by simp only [Rep], hh, .refl _ _⟩
  rw [show (#[x, y] : Array Operand).map ev = #[ev x, ev y] by simp, e1, e2]
  rfl
theorem oc_cap_nils {x : Operand} {t e : TypeId} (ht : P.underlying t = some (.slice e)) :
    OC P ⟨d, .call { callee := .builtin .cap, args := #[x], argTypes := #[t] }, ty, pos, aft, g⟩ [.nils] H (fun r H' => r = .s (.int .i64 0) ∧ H' = H) := by
  intro ev w hr hh
  obtain ⟨a, q, h1⟩ := repL_one1 hr
  simp [Op.operands, Call.operands] at q
  simp only [Rep] at h1; obtain ⟨ad, rfl⟩ := h1
  refine ⟨.int .i64 0, w, .inl (run_builtin ?_), _, _, ⟨rfl, rfl⟩, by simp only [Rep], hh, .refl _ _⟩
  rw [show (#[x] : Array Operand).map ev = #[ev x] by simp, q]
  unfold builtin
  refine run_v ?_
  unfold Builtin.cap_
  simp only [List.getElem?_toArray, List.getElem?_cons_zero]
  rw [run_ok (run_under ht)]
  rfl
/-- append, to a row of one's own that has its block. -/
theorem oc_append_rs {t tx : TypeId} {s x : Operand} {b n k bytes m : Nat} {cs ns : List TV} {xt : TV} (ha : apP P t = some (k, bytes)) {e' : TypeId} (hk : P.underlying tx = some (.slice e'))
    (hb : H b = none) (hl : cs.length = n * k) (hs : srcT (upd H b (.cells cs)) k xt = some (m, ns)) (ho : ns.all oneT = true) (hby : (n + m + (n + m) / 4 + 192) * bytes ≤ 281474976710656) (h63 : n + m ≤ 9223372036854775807) :
    OC P ⟨d, .call { callee := .builtin .append, args := #[s, x], argTypes := #[t, tx] }, ty, pos, aft, g⟩ [.rs b 0 n k, xt] (upd H b (.cells cs)) (fun r H' => ∃ b', H b' = none ∧ r = .rs b' 0 (n + m) k ∧ H' = upd H b' (.cells (cs ++ ns))) := by
  have hb' : upd H b (.cells cs) b = some (.cells cs) := by simp [upd]
  intro ev w hr hh
  obtain ⟨v, w', h1, r, H', ⟨c, hc, hr', hH⟩, h2⟩ := oc_append (d := d) (ty := ty) (pos := pos) (aft := aft) (g := g) (s := s) (x := x) ha hk hb' hl hs ho hby h63 ev w hr hh
  refine ⟨v, w', h1, r, H', ⟨c, ?_, hr', ?_⟩, h2⟩
  · rcases hc with rfl | hc
    · exact hb
    · by_cases e : c = b
      · subst e; exact hb
      · simp only [upd, if_neg e] at hc; exact hc
  · rw [hH]
    congr 1
    funext p; simp only [dropB, upd]; split
    · rename_i e; subst e; exact hb.symm
    · rfl
theorem zeros_row (z : Array Value) (n : Nat) (hk : 0 < z.size) : ((Array.range (n * z.size)).map (z[· % z.size]!)).toList = (List.replicate n z.toList).flatten := by
  refine List.ext_getElem? fun i => ?_
  rw [Array.toList_map, Array.toList_range, List.getElem?_map]
  by_cases hi : i < n * z.size
  · rw [List.getElem?_range hi, Option.map_some]
    have hm : i % z.size < z.size := Nat.mod_lt _ hk
    rw [getElem!_pos z (i % z.size) hm]
    have hidx : (List.replicate n z.toList).flatten[i]? = z.toList[i % z.size]? := by
      induction n generalizing i with
      | zero => simp at hi
      | succ n ih =>
        rw [List.replicate_succ, List.flatten_cons, List.getElem?_append]
        have hl : z.toList.length = z.size := by simp
        rw [hl]
        by_cases hik : i < z.size
        · rw [if_pos hik, Nat.mod_eq_of_lt hik]
        · rw [if_neg hik]
          have hsub : i - z.size < n * z.size := by rw [Nat.succ_mul] at hi; omega
          rw [ih (i - z.size) hsub (Nat.mod_lt _ hk)]
          congr 1
          rw [Nat.mod_eq_sub_mod (by omega : i ≥ z.size)]
    rw [hidx, List.getElem?_eq_getElem (by simpa using hm)]
    simp
  · rw [List.getElem?_eq_none (by simp; omega), List.getElem?_eq_none (by simp; omega)]
    rfl
/-- A row of one element. -/
theorem oc_build1 {t : TypeId} {x : Operand} {k bytes : Nat} {v : TV} {e : List TV} (ha : apP P t = some (k, bytes)) (hsz : ∀ e', P.underlying t = some (.slice e') → (szP P e').isSome = true) (hc : cellsT v = some e) (he : e.length = k) (hk : 0 < k) (hk2 : k ≤ 2 ^ 24) :
    OC P ⟨d, .buildSlice t 1 #[(0, x)], ty, pos, aft, g⟩ [v] H (fun r H' => ∃ b, H b = none ∧ r = .rs b 0 1 k ∧ H' = upd H b (.cells e)) := by
  obtain ⟨e', i, z, ht, hi, hz, hzk, hik, hib⟩ := apP_get ha
  obtain ⟨⟨gg, n⟩, hs⟩ := Option.isSome_iff_exists.1 (hsz e' ht)
  have hn : n = k := by
    unfold szP at hs; rw [hi] at hs
    rw [← hik]
    split at hs <;> simp_all
  subst hn
  have hzp : zeroP P e' = some (z.cells.toList.map cst1) := by unfold zeroP; rw [hi]; simp only [hz]
  refine oc_buildSlice ht hs (by omega) (by omega) hzp (by simpa using hzk) ?_ rfl
  simp only [List.map_cons, List.map_nil, List.zip_cons_cons, List.zip_nil_right, fillA, hc, Nat.zero_mul, List.take_zero, List.nil_append, Nat.zero_add, he]
  rw [if_neg (by simp [hzk])]
  simp only [Option.some.injEq]
  rw [List.drop_of_length_le (by simp [hzk]), List.append_nil]
/-- append of one element that a row was built for. -/
theorem oc_append1 {t tx : TypeId} {s x : Operand} {b b1 k bytes : Nat} {L : List (List TV)} {e : List TV} (ha : apP P t = some (k, bytes)) {e' : TypeId} (hk : P.underlying tx = some (.slice e'))
    (hL : Each k L) (he : e.length = k) (ho : e.all oneT = true) (hb : L ≠ [] → H b = none) (hb1 : ownH H b L b1 = none) (hby : (L.length + 1 + (L.length + 1) / 4 + 192) * bytes ≤ 281474976710656) (h63 : L.length + 1 ≤ 9223372036854775807) :
    OC P ⟨d, .call { callee := .builtin .append, args := #[s, x], argTypes := #[t, tx] }, ty, pos, aft, g⟩ [ownT b k L, .rs b1 0 1 k] (upd (ownH H b L) b1 (.cells e)) (fun r H' => ∃ b', H b' = none ∧ r = ownT b' k (L ++ [e]) ∧ H' = ownH H b' (L ++ [e])) := by
  have hN : H b1 = none := by
    unfold ownH at hb1; split at hb1
    · exact hb1
    · simp only [upd] at hb1; split at hb1
      · cases hb1
      · exact hb1
  have hcase : L = [] ∨ b1 ≠ b := by
    by_cases h0 : L = []
    · exact .inl h0
    · right; rintro rfl; rw [ownH_at h0] at hb1; cases hb1
  have hF : [e].flatten = e := by simp
  have weak : ∀ (b' : Nat) (v : Value) (w w' : World) (H' : Heap), upd H b1 (.cells e) b' = none → H' = ownH (upd H b1 (.cells e)) b' (L ++ [e]) → After (fun r H'' => r = ownT b' k (L ++ [e]) ∧ H'' = H') (upd (ownH H b L) b1 (.cells e)) w v w' →
      After (fun r H'' => ∃ b', H b' = none ∧ r = ownT b' k (L ++ [e]) ∧ H'' = ownH H b' (L ++ [e])) (upd (ownH H b L) b1 (.cells e)) w v w' := by
    intro b' v w w' H' hb' hH' ⟨r, H'', ⟨hr, hH⟩, h1, h2, h3⟩
    have hb0 : H b' = none := by simp only [upd] at hb'; split at hb' <;> first | cases hb' | exact hb'
    have hne : L ++ [e] ≠ [] := by simp
    have hsub : ∀ p r, ownH H b' (L ++ [e]) p = some r → H'' p = some r := by
      intro p r hp
      rw [hH, hH', ownH_ne' hne]
      rw [ownH_ne' hne] at hp
      simp only [upd] at hp ⊢
      split at hp
      · rename_i q; rw [if_pos q]; exact hp
      · rename_i q; rw [if_neg q]
        have : p ≠ b1 := by rintro rfl; rw [hN] at hp; cases hp
        rw [if_neg this]; exact hp
    refine ⟨r, _, ⟨b', hb0, hr, rfl⟩, Rep.mono (fun p hp => ⟨fr_le hsub p hp, rfl⟩) (fun _ => Nat.le_refl _) _ _ h1, h2.le hsub, h3.le hsub⟩
  by_cases h0 : L = []
  · subst h0
    simp only [ownT_nil, ownH_nil, List.nil_append, List.length_nil, Nat.zero_add] at *
    intro ev w hr hh
    obtain ⟨v, w', h1, r, H', hC, h2⟩ := oc_append_nil (d := d) (ty := ty) (pos := pos) (aft := aft) (g := g) (s := s) (x := x) ha hk (srcT_rs (by simp [upd]) (by simp [he])) ho hby h63 ev w hr hh
    refine ⟨v, w', h1, ?_⟩
    rcases hC with ⟨hm, _⟩ | ⟨hm, b', hb', hr', hH'⟩
    · cases hm
    · have hne : [e] ≠ [] := by simp
      exact weak b' v w w' H' hb' (by rw [hH', ownH_ne' hne, hF]) ⟨r, H', ⟨by rw [hr', ownT_ne hne]; rfl, rfl⟩, h2⟩
  · have hbb := hcase.resolve_left h0
    have hsw : upd (ownH H b L) b1 (.cells e) = ownH (upd H b1 (.cells e)) b L := by
      rw [ownH_ne' h0, ownH_ne' h0]; funext p; simp only [upd]
      by_cases q : p = b1
      · subst q; simp [hbb]
      · by_cases q2 : p = b <;> simp [q, q2]
        rintro rfl; exact absurd rfl (by assumption)
    rw [hsw]
    rw [hsw] at weak
    intro ev w hr hh
    obtain ⟨v, w', h1, r, H', ⟨b', hb', hr', hH'⟩, h2⟩ := oc_append_own (H := upd H b1 (.cells e)) (N := [e]) (d := d) (ty := ty) (pos := pos) (aft := aft) (g := g) (s := s) (x := x) ha hk hL (fun q hq => by simp at hq; rw [hq]; exact he) (fun _ => by simp only [upd]; rw [if_neg (Ne.symm hbb)]; exact hb h0)
      (by rw [hF]; exact srcT_rs (by rw [ownH_ne (eq_false hbb)]; simp [upd]) (by simp [he])) (by rw [hF]; exact ho) hby h63 ev w hr hh
    exact ⟨v, w', h1, weak b' v w w' H' hb' hH' ⟨r, H', ⟨hr', rfl⟩, h2⟩⟩
/-- A row that is made, of zeros. -/
theorem oc_makeSlice {t e : TypeId} {x y : Operand} {n k bytes : Nat} {kx ky : IntKind} {zs : List TV} (ha : apP P t = some (k, bytes)) (ht : P.underlying t = some (.slice e)) (hz : zeroP P e = some zs) (hzl : zs.length = k) (hk : 0 < k) (hby : n * bytes ≤ 281474976710656) (h63 : n ≤ 9223372036854775807) :
    OC P ⟨d, .makeSlice t x y, ty, pos, aft, g⟩ [.s (.int kx n), .s (.int ky n)] H (fun r H' => ∃ b, H b = none ∧ r = ownT b k (List.replicate n zs) ∧ H' = ownH H b (List.replicate n zs)) := by
  intro ev w hr hh
  obtain ⟨a, b, q, h1, h2⟩ := repL_two hr
  simp [Op.operands] at q
  obtain ⟨e1, e2⟩ := q
  simp only [Rep] at h1 h2; subst h1 h2
  obtain ⟨e0, i, z, hu, hi, hiz, hzk, hik, hib⟩ := apP_get ha
  rw [ht] at hu; cases hu
  subst hik
  have hzv : z.cells.toList.map cst1 = zs := by
    unfold zeroP at hz; rw [hi] at hz; simp only [hiz] at hz; simpa using hz
  have hzr : (zeroValue e).run P w = .ok z w := by unfold zeroValue; rw [run_ok (run_info hi)]; simp only [hiz]; rfl
  have hsr : (sizeOf e).run P w = .ok i.size w := by unfold sizeOf; rw [run_ok (run_info hi)]; rfl
  have hwn : IntKind.i64.wrap (n : Int) = n := by rw [IntKind.wrap_i64]; omega
  have hrow := zeros_row z.cells n (by omega)
  rw [hzk] at hrow
  have hnl : ¬ ((decide ((n : Int) < 0) || decide (((i.bytes : Nat) : Int) * n > 2 ^ 48)) = true) := by
    have : ((i.bytes : Nat) : Int) * n = ((n * i.bytes : Nat) : Int) := by rw [Nat.mul_comm]; simp
    rw [this, hib]; simp; omega
  have hrun : (execOp ev ⟨d, .makeSlice t x y, ty, pos, aft, g⟩).run P w = .ok (.value (.slice (some ⟨w.heap.size, 0, none⟩) n n)) { w with heap := w.heap.push (.cells (if n * i.size = 0 then (Array.range 0).map (#[][· % 0]!) else (Array.range (n * i.size)).map (z.cells[· % z.cells.size]!)) e) } := by
    unfold execOp; simp only []
    refine run_v ?_
    rw [e1, e2]
    unfold Instr.makeSlice
    rw [run_ok (run_under ht)]
    simp only []
    rw [run_ok (show (asInt (.int kx n)).run P w = .ok (n : Int) w from rfl), run_ok (show (asInt (.int ky n)).run P w = .ok (n : Int) w from rfl), run_ok (run_info hi)]
    simp only [hwn]
    rw [if_neg (by simp only [Bool.or_eq_true, not_or] at hnl ⊢; simp; simp at hnl; omega)]
    have hask : ∀ m, (askRoom m).run P w = .ok () w := fun m => by unfold askRoom; split <;> rfl
    rw [run_ok (hask _), run_ok hsr]
    simp only [Int.toNat_natCast]
    by_cases h0 : n * i.size = 0
    · rw [if_pos h0, run_ok (run_pure _)]
      simp only [h0, if_true]
      rfl
    · rw [if_neg h0, run_ok hzr, run_ok (run_pure _)]
      simp only [h0, if_false]
      rfl
  by_cases hn : n = 0
  · subst hn
    obtain ⟨h0, h1, h2⟩ := allocCells_rel (elem := e) hh (cs := []) (xs := (Array.range 0).map (#[][· % 0]!)) (by simp only [List.length_nil, List.take_zero, RepL]) (by simp)
    have hsub : ∀ b r, H b = some r → upd H w.heap.size (.cells []) b = some r := fun b r hb => by
      have : b ≠ w.heap.size := by intro e; subst e; rw [h0] at hb; cases hb
      simp only [upd, if_neg this]; exact hb
    simp only [Nat.zero_mul, if_true] at hrun
    refine ⟨_, _, .inl hrun, _, _, ⟨w.heap.size, h0, rfl, rfl⟩, ?_, h1.le hsub, h2.le hsub⟩
    simp only [List.replicate_zero, ownT_nil, Rep]; exact ⟨_, rfl⟩
  · have hnk : n * i.size ≠ 0 := Nat.mul_ne_zero hn (by omega)
    rw [if_neg hnk] at hrun
    have hne : List.replicate n zs ≠ [] := by rw [Ne, List.replicate_eq_nil_iff]; exact hn
    have hrep : RepL w (Fr H w) (List.replicate n zs).flatten ((Array.range (n * i.size)).map (z.cells[· % z.cells.size]!)).toList := by
      rw [hzk, hrow, ← hzv]
      have h1 : RepL w (Fr H w) (z.cells.toList.map cst1) z.cells.toList := rep_cst1s _ _ _
      clear hrow hrun hne hnk hn hnl hwn hby h63 e1 e2 hr
      induction n with
      | zero => simp only [List.replicate_zero, List.flatten_nil, RepL]
      | succ n ih => rw [List.replicate_succ, List.flatten_cons, List.replicate_succ, List.flatten_cons]; exact RepL.append h1 ih
    have hl := hrep.length
    obtain ⟨h0, h1, h2⟩ := allocCells_rel (elem := e) hh (cs := (List.replicate n zs).flatten) (xs := (Array.range (n * i.size)).map (z.cells[· % z.cells.size]!)) (by rw [List.take_of_length_le (by rw [hl]; exact Nat.le_refl _)]; exact hrep) (by rw [hl]; simp)
    refine ⟨_, _, .inl hrun, _, _, ⟨w.heap.size, h0, rfl, rfl⟩, ?_, by rw [ownH_ne' hne]; exact h1, by rw [ownH_ne' hne]; exact h2⟩
    rw [ownT_ne hne]
    simp only [Rep, List.length_replicate]
    refine ⟨_, n, rfl, Nat.le_refl _, .inr ⟨rfl, ?_⟩⟩
    have hb : bsz { w with heap := w.heap.push (.cells ((Array.range (n * i.size)).map (z.cells[· % z.cells.size]!)) e) } w.heap.size = n * i.size := by unfold bsz; simp
    rw [hb]; omega
end
section
variable {P : Program} {A : AS} {K : AS → Prop} (d : Option Tmp) (ty : TypeId) (pos : String) (aft : Array Edge) (g : Option (Nat × Bool))
theorem op_range (t : TypeId) (x : Operand) : opA P ⟨d, .range t x, ty, pos, aft, g⟩ A K =
    withc (evalL A.env [x]) fun vs => Doing P ⟨d, .range t x, ty, pos, aft, g⟩ vs A.H fun r H' => K ((A.on H').put d r) := by rw [opA_eff rfl]; rfl
theorem op_next (x : Operand) (b : Bool) : opA P ⟨d, .next x b, ty, pos, aft, g⟩ A K =
    withc (evalL A.env [x]) fun vs => Doing P ⟨d, .next x b, ty, pos, aft, g⟩ vs A.H fun r H' => K ((A.on H').put d r) := by rw [opA_eff rfl]; rfl
theorem op_min (x y : Operand) (T : Array TypeId) : opA P ⟨d, .call { callee := .builtin .min, args := #[x, y], argTypes := T }, ty, pos, aft, g⟩ A K =
    withc (evalL A.env [x, y]) fun vs => Doing P ⟨d, .call { callee := .builtin .min, args := #[x, y], argTypes := T }, ty, pos, aft, g⟩ vs A.H fun r H' => K ((A.on H').put d r) := by rw [opA_eff rfl]; simp [Op.operands, Call.operands]
theorem op_cap (x : Operand) (T : Array TypeId) : opA P ⟨d, .call { callee := .builtin .cap, args := #[x], argTypes := T }, ty, pos, aft, g⟩ A K =
    withc (evalL A.env [x]) fun vs => Doing P ⟨d, .call { callee := .builtin .cap, args := #[x], argTypes := T }, ty, pos, aft, g⟩ vs A.H fun r H' => K ((A.on H').put d r) := by rw [opA_eff rfl]; simp [Op.operands, Call.operands]
end
attribute [go_sem] op_range op_next op_min op_cap bne_self_eq_false beq_self_eq_true Bool.not_true Bool.not_false Nat.zero_mul Nat.mul_one Nat.one_mul Int.le_refl
end Go.Abs
