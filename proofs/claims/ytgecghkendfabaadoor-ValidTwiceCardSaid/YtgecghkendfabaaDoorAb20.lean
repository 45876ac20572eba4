import Derived.Test.YtgecghkendfabaaDoorAb19
/- A place in the midst of a function; blocks of one's own among rows; a row cut short. -/
namespace Go.Abs
set_option linter.unusedSimpArgs false
set_option linter.unusedVariables false
variable {P : Program} {H K : Heap}
/-- What comes behind is shown once, for all roads to it. -/
theorem ARun.mid {n : Nat} {Z : AS → Prop} {c : Code} {k : List Item} {A : AS} (B : AS) (h : ARun P n Z k B) (g : ∀ k', Later (ARun P n Z k' B) → ARun P n Z (.code c :: k') A) : ARun P n Z (.code c :: k) A := g k h
theorem OC.mono {o : Oper} {vs : List TV} {C C' : TV → Heap → Prop} (h : OC P o vs H C) (hc : ∀ r H', C r H' → C' r H') : OC P o vs H C' := fun ev w hr hh =>
  let ⟨v, w', h1, r, H', c, h2⟩ := h ev w hr hh; ⟨v, w', h1, r, H', hc _ _ c, h2⟩
/-- A new block, as a row of one's own. -/
theorem Owns.cell {rows : List Row} {t : Nat} {cs : List TV} (h : Owns H K rows) (ht : K t = none) : Owns H (upd K t (.cells cs)) (rows ++ [(t, 0, [cs])]) := by
  have := h.snoc (b := t) (k := 0) (L := [cs]) ht
  unfold ownH at this
  rw [if_neg (by simp), List.flatten_cons, List.flatten_nil, List.append_nil] at this
  exact this
/-- One block is written. -/
theorem Owns.put {pre post : List Row} {t k : Nat} {cs ds : List TV} (h : Owns H K (pre ++ (t, k, [cs]) :: post)) : Owns H (upd K t (.cells ds)) (pre ++ (t, k, [ds]) :: post) :=
  h.turn (.inl rfl) (fun p r hp hr => by simp only [upd, if_neg hp]; exact hr) (.inr (by simp [upd])) (fun e => by cases e) (fun e => by cases e)
theorem Owns.at {pre post : List Row} {t k : Nat} {cs : List TV} (h : Owns H K (pre ++ (t, k, [cs]) :: post)) : K t = some (.cells cs) := by
  have := (h.held (t, k, [cs]) (by simp)).resolve_left (by simp)
  simpa using this
theorem Owns.left {rows more : List Row} (h : Owns H K (rows ++ more)) : Owns H K rows := ⟨h.sub, fun r hr => h.free r (by simp [hr]), fun r hr => h.held r (by simp [hr]), (List.pairwise_append.1 h.apart).1⟩
theorem conv_pre {A H' : Heap} (hs : Sub H' A) {b k : Nat} {L M : List (List TV)} (hA : A b = some (.cells (L ++ M).flatten)) (hb : H' b = none) (he : Each k L) : Conv A H' (.rs b 0 L.length k) (.vs k L) := by
  intro w x hh hx
  simp only [Rep] at hx ⊢
  obtain ⟨a, cap, rfl, hn, hc⟩ := hx
  refine ⟨a, _, cap, rfl, hn, ?_⟩
  by_cases h0 : L = []
  · subst h0; simp only [RepE, List.length_nil]
  · have hpos : 0 < L.length := List.length_pos_iff.2 h0
    rcases hc with hc | ⟨rfl, hc⟩
    · omega
    · obtain ⟨c, elem, fz, hcell, hfz, hl, hr⟩ := hh b _ hA
      have hlt := hh.lt hA
      have hr2 := hr.take L.flatten.length
      rw [List.flatten_append, List.take_left] at hr2
      refine repE_cells ⟨hlt, hb⟩ he (RepL.mono (fun p hp => ⟨fr_le hs p hp, rfl⟩) (fun _ => Nat.le_refl _) _ _ hr2) fun j u hj => ?_
      rw [List.getElem?_take] at hj
      split at hj
      · rw [List.getElem?_take] at hj
        split at hj
        · simp only [World.cell?, hcell, Nat.zero_add, Option.isSome_none, Bool.false_eq_true, if_false]; simpa using hj
        · cases hj
      · cases hj
end Go.Abs
