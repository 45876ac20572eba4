import Derived.Test.YtephimncnnogfaaDoorAb27
import Derived.Shelf.SlSortCmp.WholeK
import Derived.Shelf.SlSortCmp.NoneTotal
/- A row of one's own, sorted by the library. -/
namespace Go.Abs
set_option linter.unusedSimpArgs false
set_option linter.unusedVariables false
open Go.Sort Go.Proofs Go.Shelf
set_option linter.unusedSectionVars false
section
variable {P : Program} {w : World} {H : Heap}
theorem AC.intro {g : FuncId} {fn : Func} {args : List TV} {C : TV → Heap → Prop} (hf : P.funcs[g]? = some fn) (hb : fn.body.isNone = false) (hname : (fn.name == "runtime.NumGoroutine") = false)
    (h : ∀ argv w, RepL w (Fr H w) args argv → HRel H w → Calls P g argv.toArray w fun e w' => ∃ v, e = .returned v ∧ After C H w v w') : AC P g args H C := by
  intro argv w ha hh
  refine .inl ⟨?_, fun cs => ?_⟩
  · unfold callFunc
    rw [run_ok (w' := w) (a := P) rfl]
    simp only [hf, hname, Bool.false_eq_true, if_false, hb]; rfl
  · obtain ⟨e, w', fr, ⟨v, rfl, hA⟩, s⟩ := h argv w ha hh cs
    exact ⟨_, w', fr, ⟨v, rfl, hA⟩, s⟩
theorem AC.callsN {g : FuncId} {fn : Func} {args : List TV} {C : TV → Heap → Prop} (h : AC P g args H C) (hf : P.funcs[g]? = some fn) (hb : fn.body.isNone = false) (hname : (fn.name == "runtime.NumGoroutine") = false)
    {argv : List Value} {w : World} (ha : RepL w (Fr H w) args argv) (hh : HRel H w) : Calls P g argv.toArray w fun e w' => ∃ v, e = .returned v ∧ After C H w v w' := by
  rcases h argv w ha hh with h | ⟨v, w', h, _⟩
  · exact h.2
  · have : (callFunc g argv.toArray).run P w = .ok (.enter g argv.toArray) w := by
      unfold callFunc
      rw [run_ok (w' := w) (a := P) rfl]
      simp only [hf, hname, Bool.false_eq_true, if_false, hb]; rfl
    rw [this] at h; cases h
/-- Where all that is held is held exactly, a call that leaves it so does nothing but lay blocks and draw. -/
theorem AC.grown {g : FuncId} {fn : Func} {args : List TV} {G : Heap} {v : Value} (h : AC P g args G (fun r K => r = .s v ∧ K = G)) (hG : ∀ b r, G b = some r → ∃ o, r = .exact o) (hf : P.funcs[g]? = some fn) (hb : fn.body.isNone = false) (hname : (fn.name == "runtime.NumGoroutine") = false)
    {argv : List Value} {w : World} (ha : RepL w (Fr G w) args argv) (hh : HRel G w) : Calls P g argv.toArray w fun e w' => e = .returned v ∧ ∃ q os', w' = grow (w.drewN q) os' := by
  refine (h.callsN hf hb hname ha hh).mono fun e w' ⟨u, he, r, K, ⟨hr, hK⟩, hv, hrel, hE⟩ => ?_
  subst hr hK
  simp only [Rep] at hv
  subst hv
  refine ⟨he, w'.drawn - w.drawn, w'.heap.extract w.heap.size w'.heap.size, ?_⟩
  have same : ∀ p, p < w.heap.size → w'.heap[p]? = w.heap[p]? := fun p hp => by
    cases e1 : K p with
    | none => exact (hE.keep p hp e1).1
    | some r =>
      obtain ⟨o, rfl⟩ := hG p r e1
      exact (hrel p _ e1).trans (hh p _ e1).symm
  have hheap : w'.heap = w.heap ++ w'.heap.extract w.heap.size w'.heap.size := by
    apply Array.ext_getElem?
    intro i
    rw [Array.getElem?_append]
    split
    · rename_i hi; exact same i hi
    · rename_i hi
      rw [Array.getElem?_extract]
      have hs := hE.size
      split
      · rw [show w.heap.size + (i - w.heap.size) = i by omega]
      · rw [Array.getElem?_eq_none (by omega)]
  have hd := hE.drawn
  have h1 := hE.os; have h2 := hE.tape; have h3 := hE.output
  unfold grow World.drewN
  cases w' with
  | mk heap tape drawn os output =>
    simp only at h1 h2 h3 hd hheap ⊢
    subst h1 h2 h3
    congr 1
    omega
variable {α : Type}
def flatV (enc : α → List Value) (l : List α) : List Value := l.flatMap enc
theorem flatV_len {enc : α → List Value} {k : Nat} (hk : ∀ x, (enc x).length = k) : ∀ l : List α, (flatV enc l).length = l.length * k
  | [] => by simp [flatV]
  | x :: l => by
    have := flatV_len hk l
    unfold flatV at this ⊢
    rw [List.flatMap_cons, List.length_append, hk, this, List.length_cons, Nat.add_mul]; omega
theorem flatV_get [Inhabited α] {enc : α → List Value} {k : Nat} (hk : ∀ x, (enc x).length = k) (h0 : 0 < k) : ∀ (l : List α) (t : Nat), t < l.length * k → (flatV enc l)[t]? = (enc (l.toArray[t / k]!))[t % k]?
  | [], t, h => by simp at h
  | x :: l, t, h => by
    have ih := flatV_get hk h0 l (t - k)
    unfold flatV at ih ⊢
    rw [List.flatMap_cons, List.getElem?_append, hk]
    by_cases q : t < k
    · rw [if_pos q, Nat.div_eq_of_lt q, Nat.mod_eq_of_lt q]; rfl
    · rw [if_neg q, ih (by simp [Nat.add_mul] at h; omega)]
      obtain ⟨u, rfl⟩ : ∃ u, t = u + k := ⟨t - k, by omega⟩
      rw [Nat.add_sub_cancel, Nat.add_div_right _ h0, Nat.add_mod_right]
      simp
theorem flatK_list [Inhabited α] {enc : α → List Value} {k : Nat} (hk : ∀ x, (enc x).length = k) (h0 : 0 < k) (d : Array α) : (flatK enc k d).toList = flatV enc d.toList := by
  apply List.ext_getElem?
  intro t
  by_cases ht : t < d.size * k
  · have h1 := flatV_get hk h0 d.toList t (by simpa using ht)
    rw [h1]
    have h2 := get_flatK enc k d t ht
    rw [Array.getElem?_toList, Array.getElem?_eq_getElem (by simpa using ht)]
    rw [getElem!_pos (flatK enc k d) t (by simpa using ht)] at h2
    rw [h2]
    have hm : t % k < (enc d[t / k]!).length := by rw [hk]; exact Nat.mod_lt _ h0
    rw [getElem!_pos (enc d[t / k]!) (t % k) hm]
    simp only [Array.toArray_toList]
    rw [List.getElem?_eq_getElem hm]
  · rw [List.getElem?_eq_none (by simp; omega), List.getElem?_eq_none (by rw [flatV_len hk]; simp; omega)]
theorem repL_plain_iff {w : World} {F : Nat → Prop} : ∀ {vs xs : List Value}, RepL w F (vs.map .s) xs ↔ xs = vs
  | [], xs => by simp [RepL]
  | v :: vs, xs => by
    simp only [List.map_cons, RepL]
    constructor
    · rintro ⟨y, ys, rfl, h1, h2⟩
      simp only [Rep] at h1
      rw [h1, repL_plain_iff.1 h2]
    · rintro rfl; exact ⟨v, vs, rfl, by simp only [Rep], repL_plain_iff.2 rfl⟩
variable [Inhabited α] {ρ : Ren}
theorem sw_heap {enc : α → List Value} {k b m : Nat} {dk : Array α} {os : Array Obj} {p : Nat} (hp : p < w.heap.size) (hb : p ≠ b) : (sortWorldK enc k w b 0 m dk os).heap[p]? = w.heap[p]? := by
  unfold sortWorldK grow putRowK putRow mapBlock Sort.ahead
  simp only []
  rw [Array.getElem?_append, if_pos (by simpa using hp), Array.getElem?_modify, if_neg (Ne.symm hb)]
theorem sw_block {enc : α → List Value} {k b m : Nat} {dk : Array α} {os : Array Obj} {c : Array Value} {elem : TypeId} {fz : Nat × Nat} (hb : w.heap[b]? = some (.cells c elem fz)) : (sortWorldK enc k w b 0 m dk os).heap[b]? = some (.cells (Go.Sort.putCells id 0 (flatK enc k dk) c) elem fz) := by
  have hlt : b < w.heap.size := (Array.getElem?_eq_some_iff.1 hb).1
  unfold sortWorldK grow putRowK putRow mapBlock Sort.ahead
  simp only []
  rw [Array.getElem?_append, if_pos (by simpa using hlt), Array.getElem?_modify, if_pos rfl, hb]
  rfl
theorem putCells_take {F c : Array Value} (h : F.size ≤ c.size) : (Go.Sort.putCells id 0 F c).toList.take F.size = F.toList := by
  apply List.ext_getElem?
  intro j
  rw [List.getElem?_take]
  by_cases hj : j < F.size
  · rw [if_pos hj]
    unfold Go.Sort.putCells
    rw [Array.getElem?_toList, Array.getElem?_toList, Array.getElem?_mapIdx, Array.getElem?_eq_getElem (by omega), Array.getElem?_eq_getElem hj]
    simp only [Option.map_some]
    rw [if_pos ⟨Nat.zero_le _, by omega⟩, Nat.sub_zero, getElem!_pos F j hj]; rfl
  · rw [if_neg hj, List.getElem?_eq_none (by simpa using hj)]
theorem sort_c (L : SlLaysF0.n6 P ρ) {k : Nat} (hk0 : 0 < k) (aE : ∀ w, (isAgg (ρ.t 24)).run P w = .ok true w) (zE : ∀ w, (Go.sizeOf (ρ.t 24)).run P w = .ok k w) (enc : α → List Value) (hk : ∀ x, (enc x).length = k) (h1 : ∀ x, ∀ v ∈ enc x, v.oneCell' = true) (cf : α → α → Int) (hO : SWO (ltOf cf))
    {g : Nat} {fn : Func} (hgf : P.funcs[g]? = some fn) (hgb : fn.body.isNone = false) (hgn : (fn.name == "runtime.NumGoroutine") = false) {F : Func} (hF : P.funcs[ρ.f 6]? = some F) (hFb : F.body.isNone = false) (hFn : (F.name == "runtime.NumGoroutine") = false)
    {G H : Heap} (hG : ∀ b r, G b = some r → ∃ o, r = .exact o) (hs : Sub G H) (hcl : ∀ x y, AC P g [.agg ((enc x).map .s), .agg ((enc y).map .s)] G (fun r K => r = .s (.int .i64 (cf x y)) ∧ K = G))
    {b : Nat} {l : List α} (hne : l ≠ []) (hb : H b = some (.cells ((flatV enc l).map .s))) (hsz : l.length < 4611686018427387904) :
    AC P (ρ.f 6) [.rs b 0 l.length k, .s (.func (.func g) #[] #[])] H (fun r H' => ∃ l' : List α, l'.Perm l ∧ (∀ (i j : Nat) (x y : α), i < j → l'[i]? = some x → l'[j]? = some y → ltOf cf y x = false) ∧ r = .any ∧ H' = upd H b (.cells ((flatV enc l').map .s))) := by
  refine AC.intro hF hFb hFn fun argv w ha hh => ?_
  obtain ⟨y0, y1, rfl, r0, r1⟩ := repL_two ha
  simp only [Rep] at r0 r1
  subst r1
  obtain ⟨a, cap, rfl, hcap, hcase⟩ := r0
  have hpos : 0 < l.length := List.length_pos_iff.2 hne
  obtain ⟨rfl, hbz⟩ := hcase.resolve_left (by omega)
  obtain ⟨c, elem, fz, hc, hfz, hl, hr⟩ := hh b _ hb
  have hlt := hh.lt hb
  have hflen : ((flatV enc l).map TV.s).length = l.length * k := by rw [List.length_map, flatV_len hk]
  rw [hflen] at hl hr
  have hvals := repL_plain_iff.1 hr
  have hFK : (flatK enc k l.toArray).toList = flatV enc l := flatK_list hk hk0 l.toArray
  have hHold : HoldsK enc k w b 0 l.toArray := by
    intro j hj
    rw [size_flatK] at hj
    have hj' : j < l.length * k := by simpa using hj
    have hjc : j < c.size := by omega
    have e1 : c[j]? = (flatV enc l)[j]? := by
      rw [← hvals, List.getElem?_take, if_pos hj', Array.getElem?_toList]
    have e2 : (flatK enc k l.toArray)[j]? = (flatV enc l)[j]? := by rw [← hFK, Array.getElem?_toList]
    refine ⟨?_, ?_⟩
    · simp only [World.cell?, hc, Nat.zero_add, Option.isSome_none, Bool.false_eq_true, if_false]
      rw [e1, ← e2, Array.getElem?_eq_getElem (by rw [size_flatK]; simpa using hj'), getElem!_pos (flatK enc k l.toArray) j (by rw [size_flatK]; simpa using hj')]; rfl
    · simp only [World.frozen?, hc, Nat.zero_add]
      obtain ⟨lo, hi⟩ := fz
      simp only at hfz ⊢
      rcases hfz with h | h
      · rw [Bool.and_eq_false_iff]
        by_cases q : lo ≤ j
        · exact .inr (by simp; omega)
        · exact .inl (by simpa using q)
      · rw [Bool.and_eq_false_iff]; exact .inl (by simp; omega)
  have gHas : ∀ p r, G p = some r → p ≠ b := fun p r hp q => by
    obtain ⟨o, rfl⟩ := hG p r hp
    have := hs p _ hp
    rw [q, hb] at this; cases this
  have hcmp : CmpLays P g #[] enc k cf b 0 l.toArray.size w := by
    intro m os dk hdk x y
    have h := AC.grown (hcl x y) hG hgf hgb hgn (argv := [.agg (enc x).toArray, .agg (enc y).toArray]) (w := sortWorldK enc k w b 0 m dk os)
      ⟨_, _, rfl, ⟨_, rfl, by simpa using repL_plain_iff.2 rfl⟩, _, _, rfl, ⟨_, rfl, by simpa using repL_plain_iff.2 rfl⟩, rfl⟩ (fun p r hp => by
        obtain ⟨o, rfl⟩ := hG p r hp
        have h2 := hh p _ (hs p _ hp)
        have hlt2 := hh.lt (hs p _ hp)
        show (sortWorldK enc k w b 0 m dk os).heap[p]? = some o
        rw [sw_heap hlt2 (gHas p _ hp)]; exact h2)
    exact h
  have eg : ∀ args w, (callFunc g args).run P w = .ok (.enter g args) w := fun args w => by
    unfold callFunc
    rw [run_ok (w' := w) (a := P) rfl]
    simp only [hgf, hgn, Bool.false_eq_true, if_false, hgb]; rfl
  have hcon := AnyQ.slices_SortFunc L k aE zE enc hk h1 cf hO g #[] b 0 cap l.toArray w eg hcmp hHold hlt (by simpa using hsz)
  refine Calls.mono hcon fun e w' hpost => ?_
  obtain ⟨he, d', n, os, hp, hsrt, hw⟩ := hpost
  obtain ⟨hp1, _, hp3⟩ := hp
  have hd : d'.toList.Perm l := by
    have e1 : (d'.extract 0 l.toArray.size).toList = d'.toList := by rw [Array.extract_eq_self_of_le (by simpa using Nat.le_of_eq hp1)]
    have e2 : (l.toArray.extract 0 l.toArray.size).toList = l := by simp
    rw [e1, e2] at hp3; exact hp3
  have hdl : d'.size = l.length := by simpa using hp1
  have hsame : ∀ p, p < w.heap.size → p ≠ b → w'.heap[p]? = w.heap[p]? := fun p h h' => by rw [hw]; exact sw_heap h h'
  have hblk : w'.heap[b]? = some (.cells (Go.Sort.putCells id 0 (flatK enc k d') c) elem fz) := by rw [hw]; exact sw_block hc
  have hsz' : (Go.Sort.putCells id 0 (flatK enc k d') c).size = c.size := by unfold Go.Sort.putCells; simp
  have hE : Ext H w (upd H b (.cells ((flatV enc d'.toList).map .s))) w' := by
    refine ⟨by rw [hw]; unfold sortWorldK grow putRowK putRow mapBlock Sort.ahead; simp, fun p hp hn => ?_, fun p => ?_, by rw [hw]; rfl, by rw [hw]; rfl, by rw [hw]; rfl, by rw [hw]; exact Nat.le_add_right _ _⟩
    · have hpb : p ≠ b := by rintro rfl; rw [hb] at hn; cases hn
      exact ⟨hsame p hp hpb, by simp only [upd, if_neg hpb]; exact hn⟩
    · by_cases q : p = b
      · subst q; unfold bsz; rw [hc, hblk]; simp only [hsz']; exact Nat.le_refl _
      · by_cases hp : p < w.heap.size
        · unfold bsz; rw [hsame p hp q]; exact Nat.le_refl _
        · have : bsz w p = 0 := by unfold bsz; rw [Array.getElem?_eq_none (by omega)]
          omega
  refine ⟨.tuple #[], he, .any, _, ⟨d'.toList, hd, fun i j x y hij hx hy => ?_, rfl, rfl⟩, by simp only [Rep], fun p r hp => ?_, hE⟩
  · rw [Array.getElem?_toList] at hx hy
    have hjs := (Array.getElem?_eq_some_iff.1 hy).1
    have h := hsrt i j (Nat.zero_le _) hij (by simpa [hdl] using hjs)
    obtain ⟨hi', ex⟩ := Array.getElem?_eq_some_iff.1 hx
    obtain ⟨hj', ey⟩ := Array.getElem?_eq_some_iff.1 hy
    rw [getElem!_pos d' i hi', getElem!_pos d' j hj', ex, ey] at h
    exact h
  · by_cases q : p = b
    · subst q
      simp only [upd, if_true, Option.some.injEq] at hp
      subst hp
      have hfl : (flatV enc d'.toList).length = l.length * k := by rw [flatV_len hk, Array.length_toList, hdl]
      refine ⟨_, elem, fz, hblk, by rw [hsz']; exact hfz, by rw [List.length_map, hfl, hsz']; exact hl, ?_⟩
      rw [List.length_map, hfl]
      apply repL_plain_iff.2
      have h2 := putCells_take (F := flatK enc k d') (c := c) (by rw [size_flatK, hdl]; exact hl)
      rw [size_flatK, hdl] at h2
      rw [h2, flatK_list hk hk0]
    · simp only [upd, if_neg q] at hp
      exact (hh p r hp).ext hE (hsame p (hh.lt hp) q)
end
end Go.Abs
