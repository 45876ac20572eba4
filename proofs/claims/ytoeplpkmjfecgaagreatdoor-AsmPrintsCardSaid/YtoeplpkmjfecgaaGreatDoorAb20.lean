import Derived.Test.YtoeplpkmjfecgaaGreatDoorAb19
/- A place in the midst of a function; blocks of one's own among rows; a row cut short. -/
namespace Go.Abs
set_option linter.unusedSimpArgs false
set_option linter.unusedVariables false
variable {P : Program} {H K : Heap}
/-- What comes behind is shown once, for all roads to it. -/
theorem ARun.mid {n : NT} {Z : AS → Prop} {c : Code} {k : List Item} {A : AS} (B : AS) (h : ARun P n Z k B) (g : ∀ k', Later (ARun P n Z k' B) → ARun P n Z (.code c :: k') A) : ARun P n Z (.code c :: k) A := g k h
theorem ARun.midB {n : NT} {Z : AS → Prop} {c : Code} {id : Nat} {k : List Item} {A : AS} (B : AS) (h : ARun P n Z k B) (g : ∀ k', Later (ARun P n Z k' B) → ARun P n Z (.code c :: .inBlock id :: k') A) : ARun P n Z (.code c :: .inBlock id :: k) A := g k h
/-- A call that sees less, and leaves less. -/
theorem AC.drop {g : FuncId} {args args' : List TV} {H H' : Heap} {C : TV → Heap → Prop} (h : AC P g args' H' C) (hs : Sub H' H) (hc : ConvL H H' args args') : AC P g args H C := by
  intro argv w ha hh
  have main : ∀ v w', After C H' w v w' → After C H w v w' := fun v w' ⟨r, K, hC, hv, hrel, e⟩ => ⟨r, K, hC, hv, hrel, ⟨e.size, fun b hb hn => e.keep b hb (hs.gone hn), e.bsz, e.os, e.tape, e.output, e.drawn⟩⟩
  rcases h argv w (hc w argv hh ha) (hh.le hs) with ⟨h1, h2⟩ | ⟨v, w', h1, h2⟩
  · refine .inl ⟨h1, fun cs => ?_⟩
    obtain ⟨e, w', fr, ⟨v, he, hA⟩, s⟩ := h2 cs
    exact ⟨e, w', fr, ⟨v, he, main v w' hA⟩, s⟩
  · exact .inr ⟨v, w', h1, main v w' h2⟩
/-- From here on less is held: rows of one's own are written no more. -/
theorem ARun.freeze {n : NT} {Z : AS → Prop} {k : List Item} {E E' : List (Nat × TV)} {H H' : Heap} (h : ARun P n Z k ⟨E', H'⟩) (hs : Sub H' H) (hc : ∀ p ∈ E', ∃ v, look E p.1 = some v ∧ Conv H H' v p.2) : ARun P n Z k ⟨E, H⟩ := fun a w r => by
  have r' : Rel n ⟨E', H'⟩ a w := ⟨r.defers, r.size, fun t v hv => by
    obtain ⟨u, hu, hcv⟩ := hc (t, v) (look_mem hv)
    obtain ⟨h1, h2⟩ := r.env t u hu
    exact ⟨h1, hcv w _ r.heap h2⟩, r.heap.le hs⟩
  exact (h a w r').mono fun j a' w' ⟨A', z, q, e⟩ => ⟨A', z, q, ⟨e.size, fun b hb hn => e.keep b hb (hs.gone hn), e.bsz, e.os, e.tape, e.output, e.drawn⟩⟩
theorem OC.mono {o : Oper} {vs : List TV} {C C' : TV → Heap → Prop} (h : OC P o vs H C) (hc : ∀ r H', C r H' → C' r H') : OC P o vs H C' := fun ev w hr hh =>
  let ⟨v, w', h1, r, H', c, h2⟩ := h ev w hr hh; ⟨v, w', h1, r, H', hc _ _ c, h2⟩
/-- A new block, as a row of one's own. -/
theorem Owns.cell {rows : List Row} {t : Nat} {cs : List TV} (h : Owns H K rows) (ht : K t = none) : Owns H (upd K t (.cells cs)) (rows ++ [(t, 0, [cs])]) := by
  have := h.snoc (b := t) (k := 0) (L := [cs]) ht
  unfold ownH at this
  rw [if_neg (by simp), List.flatten_cons, List.flatten_nil, List.append_nil] at this
  exact this
/-- One block is written. -/
theorem Owns.put {pre post : List Row} {t k : Nat} {cs ds : List TV} (h : Owns H K (pre ++ (t, k, [cs]) :: post)) : Owns H (upd K t (.cells ds)) (pre ++ (t, k, [ds]) :: post) :=
  h.turn (.inl rfl) (fun p r hp hr => by simp only [upd, if_neg hp]; exact hr) (.inr (by simp [upd])) (fun e => by cases e) (fun e => by cases e)
theorem Owns.at {pre post : List Row} {t k : Nat} {cs : List TV} (h : Owns H K (pre ++ (t, k, [cs]) :: post)) : K t = some (.cells cs) := by
  have := (h.held (t, k, [cs]) (by simp)).resolve_left (by simp)
  simpa using this
theorem Owns.left {rows more : List Row} (h : Owns H K (rows ++ more)) : Owns H K rows := ⟨h.sub, fun r hr => h.free r (by simp [hr]), fun r hr => h.held r (by simp [hr]), (List.pairwise_append.1 h.apart).1⟩
theorem conv_pre {A H' : Heap} (hs : Sub H' A) {b k : Nat} {L M : List (List TV)} (hA : A b = some (.cells (L ++ M).flatten)) (hb : H' b = none) (he : Each k L) : Conv A H' (.rs b 0 L.length k) (.vs k L) := by
  intro w x hh hx
  simp only [Rep] at hx ⊢
  obtain ⟨a, cap, rfl, hn, hc⟩ := hx
  refine ⟨a, _, cap, rfl, hn, ?_⟩
  by_cases h0 : L = []
  · subst h0; simp only [RepE, List.length_nil]
  · have hpos : 0 < L.length := List.length_pos_iff.2 h0
    rcases hc with hc | ⟨rfl, hc⟩
    · omega
    · obtain ⟨c, elem, fz, hcell, hfz, hl, hr⟩ := hh b _ hA
      have hlt := hh.lt hA
      have hr2 := hr.take L.flatten.length
      rw [List.flatten_append, List.take_left] at hr2
      refine repE_cells ⟨hlt, hb⟩ he (RepL.mono (fun p hp => ⟨fr_le hs p hp, rfl⟩) (fun _ => Nat.le_refl _) _ _ hr2) fun j u hj => ?_
      rw [List.getElem?_take] at hj
      split at hj
      · rw [List.getElem?_take] at hj
        split at hj
        · simp only [World.cell?, hcell, Nat.zero_add, Option.isSome_none, Bool.false_eq_true, if_false]; simpa using hj
        · cases hj
      · cases hj
/-- A block that nobody writes any more. -/
theorem repC_cells {w : World} {F : Nat → Prop} {b : Nat} : ∀ (ts : List TV) (off : Nat) (xs : List Value), RepL w F ts xs → (∀ j u, xs[j]? = some u → w.cell? ⟨b, off + j, none⟩ = some u) → RepC w F b off ts
  | [], off, xs, _, _ => by simp only [RepC]
  | t :: ts, off, xs, h, hc => by
    simp only [RepL] at h; obtain ⟨y, ys, rfl, h1, h2⟩ := h
    simp only [RepC]
    exact ⟨⟨y, hc 0 y rfl, h1⟩, repC_cells ts (off + 1) ys h2 fun j u hj => by rw [show off + 1 + j = off + (j + 1) by omega]; exact hc (j + 1) u (by simpa using hj)⟩
theorem conv_fp {A H' : Heap} (hs : Sub H' A) {b : Nat} {cs cs' : List TV} (hA : A b = some (.cells cs)) (hb : H' b = none) (hc : ConvL A H' cs cs') : Conv A H' (.s (.pointer (some ⟨b, 0, none⟩))) (.fp cs') := by
  intro w x hh hx
  simp only [Rep] at hx ⊢
  subst hx
  obtain ⟨c, elem, fz, hcell, hfz, hl, hr⟩ := hh b _ hA
  have hlt := hh.lt hA
  refine ⟨b, 0, rfl, ⟨hlt, hb⟩, repC_cells cs' 0 _ (hc w _ hh hr) fun j u hj => ?_⟩
  rw [List.getElem?_take] at hj
  split at hj
  · simp only [World.cell?, hcell, Nat.zero_add, Option.isSome_none, Bool.false_eq_true, if_false]; simpa using hj
  · cases hj
end Go.Abs
