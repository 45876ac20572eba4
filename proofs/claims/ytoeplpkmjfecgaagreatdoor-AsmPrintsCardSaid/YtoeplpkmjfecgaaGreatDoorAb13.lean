import Derived.Test.YtoeplpkmjfecgaaGreatDoorAb12
import Derived.Deep.AppendSrc
import Derived.Deep.DeepAppendWide
import Derived.Deep.Upon
/- Operations with contracts of their own: append. -/
namespace Go.Abs
set_option linter.unusedSimpArgs false
set_option linter.unusedVariables false
section
variable {P : Program} {w : World} {H : Heap}
theorem one1_one' (v : Value) : one1 v = v.oneCell' := by cases v <;> rfl
theorem addr_mk (b o j : Nat) : (⟨b, o, none⟩ : Addr).add j = ⟨b, o + j, none⟩ := by unfold Addr.add; split <;> simp_all
/-- What a slice's operand hands in: how many, and their cells. -/
def srcT (H : Heap) (k : Nat) : TV → Option (Nat × List TV)
  | .vs k' es => if k' = k then some (es.length, es.flatten) else none
  | .rs b off m k' => match H b with
    | some (.cells cs) => if k' = k ∧ off + m * k ≤ cs.length then some (m, (cs.drop off).take (m * k)) else none
    | _ => none
  | .nils => some (0, [])
  | _ => none
theorem repC_vals {F : Nat → Prop} {b : Nat} : ∀ {cs : List TV} {off : Nat}, RepC w F b off cs → ∃ vs : List Value, vs.length = cs.length ∧ RepL w F cs vs ∧ ∀ j u, vs[j]? = some u → w.cell? ⟨b, off + j, none⟩ = some u
  | [], off, _ => ⟨[], rfl, by simp only [RepL], fun j u h => by simp at h⟩
  | t :: ts, off, h => by
    simp only [RepC] at h
    obtain ⟨⟨v, hv, hr⟩, h⟩ := h
    obtain ⟨vs, hl, hrs, hc⟩ := repC_vals h
    refine ⟨v :: vs, by simp [hl], by simp only [RepL]; exact ⟨v, vs, rfl, hr, hrs⟩, fun j u hj => ?_⟩
    cases j with
    | zero => simp at hj; subst hj; exact hv
    | succ j => simp at hj; have := hc j u hj; rw [show off + (j + 1) = off + 1 + j by omega]; exact this
theorem repL_append {F : Nat → Prop} : ∀ {ts ts' : List TV} {xs xs' : List Value}, RepL w F ts xs → RepL w F ts' xs' → RepL w F (ts ++ ts') (xs ++ xs')
  | [], ts', xs, xs', h, h' => by simp only [RepL] at h; subst h; exact h'
  | t :: ts, ts', xs, xs', h, h' => by
    simp only [RepL] at h
    obtain ⟨y, ys, rfl, h1, h2⟩ := h
    simp only [List.cons_append, RepL]
    exact ⟨y, ys ++ xs', rfl, h1, repL_append h2 h'⟩
theorem repE_vals {F : Nat → Prop} {k : Nat} : ∀ {es : List (List TV)} {b off n : Nat}, RepE w F (some ⟨b, off, none⟩) k n es → ∃ vs : List Value, vs.length = n * k ∧ RepL w F es.flatten vs ∧ ∀ j u, vs[j]? = some u → w.cell? ⟨b, off + j, none⟩ = some u
  | [], b, off, n, h => by simp only [RepE] at h; subst h; exact ⟨[], by simp, by simp only [List.flatten_nil, RepL], fun j u h => by simp at h⟩
  | e :: es, b, off, n, h => by
    simp only [RepE] at h
    obtain ⟨b', off', m, ha, rfl, _, hk, hc, h⟩ := h
    cases ha
    obtain ⟨vs, hl, hr, hv⟩ := repC_vals hc
    obtain ⟨vs', hl', hr', hv'⟩ := repE_vals h
    refine ⟨vs ++ vs', by rw [List.length_append, hl, hl', hk, Nat.succ_mul]; omega, by rw [List.flatten_cons]; exact repL_append hr hr', fun j u hj => ?_⟩
    rw [List.getElem?_append] at hj
    split at hj
    · exact hv j u hj
    · rename_i hlt
      have := hv' _ u hj
      rw [hl, hk] at this hlt
      rw [show off + j = off + k + (j - k) by omega]; exact this
theorem repL_drop {F : Nat → Prop} : ∀ {ts : List TV} {xs : List Value} (i : Nat), RepL w F ts xs → RepL w F (ts.drop i) (xs.drop i)
  | ts, xs, 0, h => h
  | [], xs, i + 1, h => by simp only [RepL] at h; subst h; simp only [List.drop_nil, RepL]
  | t :: ts, xs, i + 1, h => by
    simp only [RepL] at h
    obtain ⟨y, ys, rfl, _, h⟩ := h
    exact repL_drop i h
theorem repL_take {F : Nat → Prop} : ∀ {ts : List TV} {xs : List Value} (i : Nat), RepL w F ts xs → RepL w F (ts.take i) (xs.take i)
  | ts, xs, 0, h => by simp only [List.take_zero, RepL]
  | [], xs, i + 1, h => by simp only [RepL] at h; subst h; simp only [List.take_nil, RepL]
  | t :: ts, xs, i + 1, h => by
    simp only [RepL] at h
    obtain ⟨y, ys, rfl, h1, h⟩ := h
    simp only [List.take_succ_cons, RepL]
    exact ⟨y, _, rfl, h1, repL_take i h⟩
theorem src_none {k : Nat} {tx e' : TypeId} (hk : P.underlying tx = some (.slice e')) (a : Option Addr) (cap : Nat) : Src P k tx (.slice a 0 cap) 0 [] w := by
  refine ⟨.inl ⟨e', hk⟩, fun _ => rfl, ?_, ?_, by simp, fun u hu => by cases hu⟩ <;> cases a <;> simp [Builtin.firstCells, loadCells, loadCellsFrom]
/-- A slice's operand, as the kit's append wants it. -/
theorem srcT_run (hh : HRel H w) {k : Nat} {x : TV} {y : Value} (hx : Rep w (Fr H w) x y) {m : Nat} {ns : List TV} (h : srcT H k x = some (m, ns)) (ho : ns.all oneT = true) {tx e' : TypeId} (hk : P.underlying tx = some (.slice e')) :
    ∃ news, Src P k tx y m news w ∧ RepL w (Fr H w) ns news := by
  have ones : ∀ {news : List Value}, RepL w (Fr H w) ns news → ∀ u ∈ news, u.oneCell' = true := fun hr u hu => by rw [← one1_one']; exact repL_one hr ho u hu
  unfold srcT at h
  split at h
  · rename_i k' es
    split at h
    · rename_i hkk; subst hkk
      simp only [Option.some.injEq, Prod.mk.injEq] at h; obtain ⟨rfl, rfl⟩ := h
      simp only [Rep] at hx
      obtain ⟨a, n, cap, rfl, hnc, hE⟩ := hx
      have hn := hE.length
      subst hn
      cases es with
      | nil =>
        exact ⟨[], src_none hk a cap, by simp only [List.flatten_nil, RepL]⟩
      | cons e es =>
        have hE' := hE
        simp only [RepE] at hE'
        obtain ⟨b, off, m, rfl, _⟩ := hE'
        obtain ⟨vs, hl, hr, hv⟩ := repE_vals hE
        exact ⟨vs, Src.ofSlice w hk ⟨b, off, none⟩ _ cap vs hl (fun j u hj => by rw [addr_mk]; exact hv j u hj) (ones hr), hr⟩
    · cases h
  · rename_i b off m' k'
    split at h
    · rename_i cs hb
      split at h
      · rename_i hc
        obtain ⟨rfl, hlen⟩ := hc
        simp only [Option.some.injEq, Prod.mk.injEq] at h; obtain ⟨rfl, rfl⟩ := h
        simp only [Rep] at hx
        obtain ⟨a, cap, rfl, hnc, hcap⟩ := hx
        obtain ⟨c, elem, fz, hbl, hfz, hcs, hrep⟩ := hh b _ hb
        rcases hcap with rfl | ⟨rfl, hsz⟩
        · have hm : m' = 0 := by omega
          subst hm
          exact ⟨[], src_none hk a 0, by simp only [Nat.zero_mul, List.take_zero, RepL]⟩
        · have hr : RepL w (Fr H w) ((cs.drop off).take (m' * k')) (((c.toList.take cs.length).drop off).take (m' * k')) := repL_take _ (repL_drop _ hrep)
          have hl : (((c.toList.take cs.length).drop off).take (m' * k')).length = m' * k' := by simp; omega
          refine ⟨_, Src.ofSlice w hk ⟨b, off, none⟩ _ cap _ hl (fun j u hj => ?_) (ones hr), hr⟩
          rw [addr_mk]
          rw [List.getElem?_take] at hj
          split at hj
          · rw [List.getElem?_drop, List.getElem?_take] at hj
            split at hj
            · simp only [World.cell?, hbl]; simpa using hj
            · cases hj
          · cases hj
      · cases h
    · cases h
  · simp only [Option.some.injEq, Prod.mk.injEq] at h; obtain ⟨rfl, rfl⟩ := h
    simp only [Rep] at hx
    obtain ⟨a, rfl⟩ := hx
    exact ⟨[], src_none hk a 0, by simp only [RepL]⟩
  · cases h
/-- Cells laid behind those that are held. -/
theorem putEnd_rel (hh : HRel H w) {b : Nat} {cs ns : List TV} (hb : H b = some (.cells cs)) {c : Array Value} {elem : TypeId} {fz : Nat × Nat} (hcell : w.heap[b]? = some (.cells c elem fz)) {news : List Value} (hn : RepL w (Fr H w) ns news) (hsz : cs.length + news.length ≤ c.size) :
    HRel (upd H b (.cells (cs ++ ns))) (putCells w b cs.length news) ∧ Ext H w (upd H b (.cells (cs ++ ns))) (putCells w b cs.length news) := by
  obtain ⟨c0, elem0, fz0, hcell0, hz, _, hr⟩ := hh b _ hb
  rw [hcell] at hcell0
  simp only [Option.some.injEq, Obj.cells.injEq] at hcell0; obtain ⟨rfl, rfl, rfl⟩ := hcell0
  have hl := hn.length
  have hsame := putCells_same (b := b) news w cs.length
  have hnew := heap_putCells (b := b) news w c cs.length hcell
  have hset := setMany c news cs.length hsz
  generalize (news.zipIdx cs.length |>.foldl (fun c p => c.setIfInBounds p.2 p.1) c) = c' at hnew hset
  have hsize : c'.size = c.size := by
    have := congrArg List.length hset
    simp only [List.length_append, List.length_take, List.length_drop, Array.length_toList] at this
    omega
  have hE : Ext H w (upd H b (.cells (cs ++ ns))) (putCells w b cs.length news) := by
    refine ⟨by rw [hsame.1]; exact Nat.le_refl _, fun b' hb' hn' => ?_, fun b' => ?_, hsame.2.1, hsame.2.2.1, hsame.2.2.2.1, dr_le (Nat.le_of_eq hsame.2.2.2.2.symm)⟩
    · have hne : b' ≠ b := by intro e; subst e; rw [hb] at hn'; cases hn'
      exact ⟨heap_putCells_ne hne _ _ _, by simp [upd, hne, hn']⟩
    · by_cases hne : b' = b
      · subst hne
        have e1 : bsz w b' = c.size := by unfold bsz; rw [hcell]
        have e2 : bsz (putCells w b' cs.length news) b' = c'.size := by unfold bsz; rw [hnew]
        rw [e1, e2, hsize]; exact Nat.le_refl _
      · unfold bsz; rw [heap_putCells_ne hne]; exact Nat.le_refl _
  refine ⟨fun b' r' hb' => ?_, hE⟩
  by_cases hne : b' = b
  · subst hne
    simp only [upd, if_true, Option.some.injEq] at hb'; subst hb'
    refine ⟨_, elem, fz, hnew, by rw [hsize]; exact hz, by rw [hsize, List.length_append, hl]; exact hsz, ?_⟩
    rw [hset]
    have e1 : (c.toList.take cs.length ++ news ++ c.toList.drop (cs.length + news.length)).take (cs ++ ns).length = c.toList.take cs.length ++ news := by
      rw [List.take_append_of_le_length (by simp; omega), List.take_of_length_le (by simp; omega)]
    rw [e1]
    exact RepL.append (hr.ext hE) (hn.ext hE)
  · simp [upd, hne] at hb'
    exact (hh b' r' hb').ext hE (heap_putCells_ne hne _ _ _)
/-- A slice's element: how many cells, how many bytes. -/
def apP (P : Program) (t : TypeId) : Option (Nat × Nat) := match P.underlying t with
  | some (.slice e) => match P.info? e with
    | some i => match i.zero with
      | some z => if z.cells.size = i.size then some (i.size, i.bytes) else none
      | none => none
    | none => none
  | _ => none
theorem apP_get {t : TypeId} {k bytes : Nat} (h : apP P t = some (k, bytes)) : ∃ e i z, P.underlying t = some (.slice e) ∧ P.info? e = some i ∧ i.zero = some z ∧ z.cells.size = k ∧ i.size = k ∧ i.bytes = bytes := by
  unfold apP at h
  split at h
  · rename_i e he
    split at h
    · rename_i i hi
      split at h
      · rename_i z hz
        split at h
        · rename_i hzs
          simp only [Option.some.injEq, Prod.mk.injEq] at h; obtain ⟨rfl, rfl⟩ := h
          exact ⟨e, i, z, he, hi, hz, hzs, rfl, rfl⟩
        · cases h
      · cases h
    · cases h
  · cases h
theorem append_room {t tx ty e : TypeId} {i : TypeInfo} (ht : P.underlying t = some (.slice e)) (hi : P.info? e = some i) {b off n cap m : Nat} {x : Value} {news : List Value} (hs : Src P i.size tx x m news w) (hroom : n + m ≤ cap)
    {c : Array Value} {elem : TypeId} {fz : Nat × Nat} (hb : w.heap[b]? = some (.cells c elem fz)) (hz : fz.2 ≤ fz.1 ∨ c.size ≤ fz.1) (hsz : off + n * i.size + news.length ≤ c.size) :
    (Builtin.append_ #[t, tx] ty #[.slice (some ⟨b, off, none⟩) n cap, x]).run P w = .ok (.slice (some ⟨b, off, none⟩) (n + m) cap) (putCells w b (off + n * i.size) news) := by
  have hst := storeCells_run (P := P) news w c (off + n * i.size) 0 hb hz (by omega) (fun u hu => by rw [one1_one']; exact hs.one u hu)
  simp only [Nat.add_zero] at hst
  rcases hs.kind with ⟨e', hk⟩ | hk <;> simp [Builtin.append_, run_underlying ht, run_underlying hk, sizeOf, typeInfo, hi, hs.len, hroom, hs.cells, addr_mk, hst]
/-- All that is held but block b. -/
def dropB (H : Heap) (b : Nat) : Heap := fun x => if x = b then none else H x
theorem dropB_upd (H : Heap) (b : Nat) (r : Root) : upd (dropB H b) b r = upd H b r := by funext x; simp only [upd, dropB]; split <;> rfl
theorem run_append {d : Option Tmp} {ty : TypeId} {pos : String} {aft : Array Edge} {g : Option (Nat × Bool)} {t tx : TypeId} {s x : Operand} {ev : Operand → Value} {v : Value} {w' : World}
    (h : (Builtin.append_ #[t, tx] ty #[ev s, ev x]).run P w = .ok v w') : (execOp ev ⟨d, .call { callee := .builtin .append, args := #[s, x], argTypes := #[t, tx] }, ty, pos, aft, g⟩).run P w = .ok (.value v) w' := by
  unfold execOp
  simp only []
  unfold resolve
  simp only []
  rw [run_ok (w' := w) rfl]
  unfold invoke
  simp only []
  unfold builtin
  simp only []
  rw [show (#[s, x] : Array Operand).map ev = #[ev s, ev x] by simp]
  exact run_v h
theorem bsz_push (w : World) (c : Array Value) (elem : TypeId) (fz : Nat × Nat) : bsz { w with heap := w.heap.push (.cells c elem fz) } w.heap.size = c.size := by unfold bsz; simp
/-- append, to a list of one's own. -/
theorem oc_append {d : Option Tmp} {ty : TypeId} {pos : String} {aft : Array Edge} {g : Option (Nat × Bool)} {t tx : TypeId} {s x : Operand} {b n k bytes m : Nat} {cs ns : List TV} {xt : TV} (ha : apP P t = some (k, bytes)) {e' : TypeId} (hk : P.underlying tx = some (.slice e'))
    (hb : H b = some (.cells cs)) (hl : cs.length = n * k) (hs : srcT H k xt = some (m, ns)) (ho : ns.all oneT = true) (hby : (n + m + (n + m) / 4 + 192) * bytes ≤ 281474976710656) (h63 : n + m ≤ 9223372036854775807) :
    OC P ⟨d, .call { callee := .builtin .append, args := #[s, x], argTypes := #[t, tx] }, ty, pos, aft, g⟩ [.rs b 0 n k, xt] H (fun r H' => ∃ b', (b' = b ∨ H b' = none) ∧ r = .rs b' 0 (n + m) k ∧ H' = upd (dropB H b) b' (.cells (cs ++ ns))) := by
  intro ev w hr hh
  simp only [Op.operands, Call.operands, List.append_toArray, List.nil_append, List.map_cons, List.map_nil, RepL] at hr
  obtain ⟨y0, ys, e0, h0, y1, ys1, e1, h1, rfl⟩ := hr
  simp only [List.cons.injEq] at e0 e1
  obtain ⟨q0, rfl⟩ := e0
  obtain ⟨q1, _⟩ := List.cons.inj e1
  subst q0 q1
  obtain ⟨e, i, z, ht, hi, hz, hzk, hik, hib⟩ := apP_get ha
  subst hik hib
  obtain ⟨news, hsrc, hnr⟩ := srcT_run hh h1 hs ho hk
  have hnl := hsrc.newsLen
  have hnn := hnr.length
  simp only [Rep] at h0
  obtain ⟨a, cap, hy, hnc, hcap⟩ := h0
  obtain ⟨c, elem, fz, hcell, hfz, hcs, hrep⟩ := hh b _ hb
  by_cases hroom : n + m ≤ cap
  · rcases hcap with rfl | ⟨rfl, hsz⟩
    · obtain rfl : n = 0 := by omega
      obtain rfl : m = 0 := by omega
      obtain rfl : news = [] := List.eq_nil_of_length_eq_zero (by rw [hnl]; simp)
      obtain rfl : ns = [] := List.eq_nil_of_length_eq_zero (by rw [hnn]; rfl)
      have hH : upd (dropB H b) b (.cells (cs ++ [])) = H := by
        rw [dropB_upd, List.append_nil]; funext p; simp only [upd]; split
        · rename_i e; subst e; exact hb.symm
        · rfl
      refine ⟨_, w, .inl (run_append (by rw [hy]; exact run_append_nothing w t tx ty e i ht hi a 0 0 (Nat.le_refl _) _ hsrc)), _, _, ⟨b, .inl rfl, rfl, rfl⟩, ?_, ?_, ?_⟩
      · rw [hH]; simp only [Rep]; exact ⟨a, 0, rfl, by omega, .inl rfl⟩
      · rw [hH]; exact hh
      · rw [hH]; exact .refl _ _
    · have hbs : bsz w b = c.size := by unfold bsz; rw [hcell]
      have hmul : n * i.size + m * i.size ≤ cap * i.size := by rw [← Nat.add_mul]; exact Nat.mul_le_mul_right _ hroom
      have hfit : cs.length + news.length ≤ c.size := by rw [hl, hnl]; omega
      obtain ⟨hR, hE⟩ := putEnd_rel hh hb hcell hnr hfit
      have hrun := append_room (ty := ty) ht hi hsrc hroom hcell hfz (off := 0) (by rw [Nat.zero_add, ← hl]; exact hfit)
      rw [Nat.zero_add, ← hl] at hrun
      refine ⟨_, _, .inl (run_append (by rw [hy]; exact hrun)), _, _, ⟨b, .inl rfl, rfl, rfl⟩, ?_, ?_, ?_⟩
      · simp only [Rep]
        exact ⟨_, cap, rfl, hroom, .inr ⟨rfl, Nat.le_trans hsz (hE.bsz b)⟩⟩
      · rw [dropB_upd]; exact hR
      · rw [dropB_upd]; exact hE
  · have e0 : Ext H w H w.drew := ⟨Nat.le_refl _, fun _ _ h => ⟨rfl, h⟩, fun _ => Nat.le_refl _, rfl, rfl, rfl, dr_succ _⟩
    have hhd : HRel H w.drew := fun p r hp => (hh p r hp).ext e0 rfl
    have hold : ∃ olds : List Value, (Builtin.firstCells i.size n (.slice a n cap)).run P w.drew = .ok olds.toArray w.drew ∧ RepL w (Fr H w) cs olds := by
      rcases hcap with rfl | ⟨rfl, hsz⟩
      · obtain rfl : n = 0 := by omega
        obtain rfl : cs = [] := List.eq_nil_of_length_eq_zero (by rw [hl]; simp)
        exact ⟨[], (src_none (w := w) hk a 0).cellsD, by simp only [RepL]⟩
      · refine ⟨c.toList.take cs.length, ?_, hrep⟩
        refine run_firstCells_some w.drew i.size n ⟨b, 0, none⟩ n cap _ (by simp; omega) fun j u hj => ?_
        rw [addr_mk, Nat.zero_add]
        rw [List.getElem?_take] at hj
        split at hj
        · show w.cell? ⟨b, j, none⟩ = some u
          simp only [World.cell?, hcell]; simpa using hj
        · cases hj
    obtain ⟨olds, hold, hor⟩ := hold
    have hrun := run_append_grow_src (P := P) w t tx ty e i z ht hi hz a n cap olds hold _ m news hsrc (by omega) (by omega) (growslice_fits_wide (by omega) hby)
    have hon := hor.length
    have hlen : (cs ++ ns).length = (olds ++ news).length := by rw [List.length_append, List.length_append, hon, hnn]
    obtain ⟨hnone, hR, hE⟩ := allocCells_rel (w := w.drew) hhd (cs := cs ++ ns) (xs := (olds ++ news).toArray ++ Builtin.zeroCells z.cells (grownCap w (n + m) cap e - (n + m))) (elem := e)
      (by
        have e1 : ((olds ++ news).toArray ++ Builtin.zeroCells z.cells (grownCap w (n + m) cap e - (n + m))).toList.take (cs ++ ns).length = olds ++ news := by
          rw [hlen, Array.toList_append, List.take_append_of_le_length (by simp)]; simp; exact List.take_of_length_le (by simp)
        rw [e1]; exact RepL.append (hor.ext e0) (hnr.ext e0))
      (by rw [hlen]; simp)
    have hsz : w.drew.heap.size = w.heap.size := rfl
    rw [hsz] at hnone hR hE
    have hle : ∀ p r, upd (dropB H b) w.heap.size (.cells (cs ++ ns)) p = some r → upd H w.heap.size (.cells (cs ++ ns)) p = some r := fun p r hp => by
      simp only [upd, dropB] at hp ⊢
      split at hp
      · rename_i h; rw [if_pos h]; exact hp
      · rename_i h; rw [if_neg h]; split at hp
        · cases hp
        · exact hp
    refine ⟨_, _, .inl (run_append (by rw [hy]; exact hrun)), _, _, ⟨w.heap.size, .inr hnone, rfl, rfl⟩, ?_, HRel.le hle hR, ?_⟩
    · simp only [Rep]
      have hge := grownCap_ge w (n + m) cap e
      refine ⟨_, _, rfl, hge, .inr ⟨rfl, ?_⟩⟩
      rw [Nat.zero_add]
      have hc : ((olds ++ news).toArray ++ Builtin.zeroCells z.cells (grownCap w (n + m) cap e - (n + m))).size = (olds ++ news).length + (grownCap w (n + m) cap e - (n + m)) * i.size := by
        simp [Builtin.zeroCells, hzk]
      have hb' := bsz_push w.drew ((olds ++ news).toArray ++ Builtin.zeroCells z.cells (grownCap w (n + m) cap e - (n + m))) e (0, 0)
      rw [hsz, hc] at hb'
      refine Nat.le_trans ?_ (Nat.le_of_eq hb'.symm)
      rw [List.length_append, ← hon, hnl, hl, ← Nat.add_mul, ← Nat.add_mul]
      exact Nat.mul_le_mul_right _ (by omega)
    · have hE' := e0.trans hE
      refine ⟨hE'.size, fun p hp hn => ⟨(hE'.keep p hp hn).1, ?_⟩, hE'.bsz, hE'.os, hE'.tape, hE'.output, hE'.drawn⟩
      simp only [upd, dropB]
      rw [if_neg (by omega)]
      split
      · rfl
      · exact hn
/-- append, to nothing. -/
theorem oc_append_nil {d : Option Tmp} {ty : TypeId} {pos : String} {aft : Array Edge} {g : Option (Nat × Bool)} {t tx : TypeId} {s x : Operand} {k bytes m : Nat} {ns : List TV} {xt : TV} (ha : apP P t = some (k, bytes)) {e' : TypeId} (hk : P.underlying tx = some (.slice e'))
    (hs : srcT H k xt = some (m, ns)) (ho : ns.all oneT = true) (hby : (m + m / 4 + 192) * bytes ≤ 281474976710656) (h63 : m ≤ 9223372036854775807) :
    OC P ⟨d, .call { callee := .builtin .append, args := #[s, x], argTypes := #[t, tx] }, ty, pos, aft, g⟩ [.nils, xt] H (fun r H' => (m = 0 ∧ r = .nils ∧ H' = H) ∨ (0 < m ∧ ∃ b', H b' = none ∧ r = .rs b' 0 m k ∧ H' = upd H b' (.cells ns))) := by
  intro ev w hr hh
  simp only [Op.operands, Call.operands, List.append_toArray, List.nil_append, List.map_cons, List.map_nil, RepL] at hr
  obtain ⟨y0, ys, e0, h0, y1, ys1, e1, h1, rfl⟩ := hr
  simp only [List.cons.injEq] at e0 e1
  obtain ⟨q0, rfl⟩ := e0
  obtain ⟨q1, _⟩ := List.cons.inj e1
  subst q0 q1
  obtain ⟨e, i, z, ht, hi, hz, hzk, hik, hib⟩ := apP_get ha
  subst hik hib
  obtain ⟨news, hsrc, hnr⟩ := srcT_run hh h1 hs ho hk
  have hnl := hsrc.newsLen
  have hnn := hnr.length
  simp only [Rep] at h0
  obtain ⟨a, hy⟩ := h0
  by_cases hm : m = 0
  · subst hm
    obtain rfl : news = [] := List.eq_nil_of_length_eq_zero (by rw [hnl]; simp)
    refine ⟨_, w, .inl (run_append (by rw [hy]; exact run_append_nothing w t tx ty e i ht hi a 0 0 (Nat.le_refl _) _ hsrc)), _, _, .inl ⟨rfl, rfl, rfl⟩, ?_, hh, .refl _ _⟩
    simp only [Rep]; exact ⟨a, rfl⟩
  · have e0 : Ext H w H w.drew := ⟨Nat.le_refl _, fun _ _ h => ⟨rfl, h⟩, fun _ => Nat.le_refl _, rfl, rfl, rfl, dr_succ _⟩
    have hhd : HRel H w.drew := fun p r hp => (hh p r hp).ext e0 rfl
    have hrun := run_append_grow_src (P := P) w t tx ty e i z ht hi hz a 0 0 [] (src_none (w := w) hk a 0).cellsD _ m news hsrc (by omega) (by omega) (growslice_fits_wide (by omega) (by simpa using hby))
    simp only [Nat.zero_add] at hrun
    have hlen : ns.length = ([] ++ news).length := by simp [hnn]
    obtain ⟨hnone, hR, hE⟩ := allocCells_rel (w := w.drew) hhd (cs := ns) (xs := ([] ++ news).toArray ++ Builtin.zeroCells z.cells (grownCap w m 0 e - m)) (elem := e)
      (by
        have e1 : (([] ++ news).toArray ++ Builtin.zeroCells z.cells (grownCap w m 0 e - m)).toList.take ns.length = news := by
          rw [hlen, Array.toList_append, List.take_append_of_le_length (by simp)]; simp
        rw [e1]; exact hnr.ext e0)
      (by rw [hlen]; simp)
    have hsz : w.drew.heap.size = w.heap.size := rfl
    rw [hsz] at hnone hR hE
    refine ⟨_, _, .inl (run_append (by rw [hy]; exact hrun)), _, _, .inr ⟨by omega, w.heap.size, hnone, rfl, rfl⟩, ?_, hR, e0.trans hE⟩
    simp only [Rep]
    have hge := grownCap_ge w m 0 e
    refine ⟨_, _, rfl, hge, .inr ⟨rfl, ?_⟩⟩
    rw [Nat.zero_add]
    have hc : (([] ++ news).toArray ++ Builtin.zeroCells z.cells (grownCap w m 0 e - m)).size = news.length + (grownCap w m 0 e - m) * i.size := by
      simp [Builtin.zeroCells, hzk]
    have hb' := bsz_push w.drew (([] ++ news).toArray ++ Builtin.zeroCells z.cells (grownCap w m 0 e - m)) e (0, 0)
    rw [hsz, hc] at hb'
    refine Nat.le_trans ?_ (Nat.le_of_eq hb'.symm)
    rw [hnl, ← Nat.add_mul]
    exact Nat.mul_le_mul_right _ (by omega)
/-- At an operation with a contract of its own. -/
def Doing (P : Program) (o : Oper) (vs : List TV) (H : Heap) (K : TV → Heap → Prop) : Prop := ∃ C, OC P o vs H C ∧ ∀ r H', C r H' → K r H'
theorem Doing.by {o : Oper} {vs : List TV} {C K : TV → Heap → Prop} (h : OC P o vs H C) (k : ∀ r H', C r H' → K r H') : Doing P o vs H K := ⟨C, h, k⟩
theorem opA_eff {o : Oper} {A : AS} {K : AS → Prop} (he : effOp o.op = true) : opA P o A K = withc (evalL A.env o.op.operands.toList) fun vs => Doing P o vs A.H fun r H' => K ((A.on H').put o.dst r) := by
  unfold opA effA withc Doing; rw [if_pos he]
  cases evalL A.env o.op.operands.toList <;> rfl
variable {A : AS} {K : AS → Prop} (d : Option Tmp) (ty : TypeId) (pos : String) (aft : Array Edge) (g : Option (Nat × Bool))
theorem op_append (s x : Operand) (T : Array TypeId) : opA P ⟨d, .call { callee := .builtin .append, args := #[s, x], argTypes := T }, ty, pos, aft, g⟩ A K =
    withc (evalL A.env [s, x]) fun vs => Doing P ⟨d, .call { callee := .builtin .append, args := #[s, x], argTypes := T }, ty, pos, aft, g⟩ vs A.H fun r H' => K ((A.on H').put d r) := by rw [opA_eff rfl]; simp [Op.operands, Call.operands]
theorem op_lookup (t : TypeId) (s x : Operand) (c : Bool) : opA P ⟨d, .lookup t s x c, ty, pos, aft, g⟩ A K =
    withc (evalL A.env [s, x]) fun vs => Doing P ⟨d, .lookup t s x c, ty, pos, aft, g⟩ vs A.H fun r H' => K ((A.on H').put d r) := by rw [opA_eff rfl]; rfl
theorem op_mapUpdate (t : TypeId) (s x y : Operand) : opA P ⟨d, .mapUpdate t s x y, ty, pos, aft, g⟩ A K =
    withc (evalL A.env [s, x, y]) fun vs => Doing P ⟨d, .mapUpdate t s x y, ty, pos, aft, g⟩ vs A.H fun r H' => K ((A.on H').put d r) := by rw [opA_eff rfl]; rfl
theorem op_makeMap (t : TypeId) : opA P ⟨d, .makeMap t none, ty, pos, aft, g⟩ A K =
    withc (evalL A.env []) fun vs => Doing P ⟨d, .makeMap t none, ty, pos, aft, g⟩ vs A.H fun r H' => K ((A.on H').put d r) := by rw [opA_eff rfl]; rfl
theorem op_makeSlice (t : TypeId) (s x : Operand) : opA P ⟨d, .makeSlice t s x, ty, pos, aft, g⟩ A K =
    withc (evalL A.env [s, x]) fun vs => Doing P ⟨d, .makeSlice t s x, ty, pos, aft, g⟩ vs A.H fun r H' => K ((A.on H').put d r) := by rw [opA_eff rfl]; rfl
theorem op_buildSlice (t : TypeId) (n : Nat) (ps : Array (Nat × Operand)) : opA P ⟨d, .buildSlice t n ps, ty, pos, aft, g⟩ A K =
    withc (evalL A.env (ps.toList.map (·.2))) fun vs => Doing P ⟨d, .buildSlice t n ps, ty, pos, aft, g⟩ vs A.H fun r H' => K ((A.on H').put d r) := by rw [opA_eff rfl]; simp [Op.operands]
end
@[congr] theorem Doing_congr {P : Program} {o : Oper} {vs vs' : List TV} {H H' : Heap} {K : TV → Heap → Prop} (h : vs = vs') (h' : H = H') : Doing P o vs H K = Doing P o vs' H' K := by rw [h, h']
attribute [go_sem] op_append op_lookup op_mapUpdate op_makeMap op_makeSlice op_buildSlice
end Go.Abs
