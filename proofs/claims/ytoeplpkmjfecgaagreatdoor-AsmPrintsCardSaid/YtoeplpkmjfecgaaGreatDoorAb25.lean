import Derived.Test.YtoeplpkmjfecgaaGreatDoorAb24
/- What a block that is held has, seen otherwise. -/
namespace Go.Abs
set_option linter.unusedSimpArgs false
set_option linter.unusedVariables false
section
variable {P : Program}
theorem Conv.same {H H' : Heap} (h : ∀ b, H b = none → H' b = none) (t : TV) : Conv H H' t t := fun w x _ r => Rep.mono (fun b hb => ⟨⟨hb.1, h b hb.2⟩, rfl⟩) (fun _ => Nat.le_refl _) _ _ r
theorem ConvL.same {H H' : Heap} (h : ∀ b, H b = none → H' b = none) (t : List TV) : ConvL H H' t t := fun w x _ r => RepL.mono (fun b hb => ⟨⟨hb.1, h b hb.2⟩, rfl⟩) (fun _ => Nat.le_refl _) _ _ r
theorem ARun.turnH {n : NT} {Z : AS → Prop} {k : List Item} {E E' : List (Nat × TV)} {H H' : Heap} (h : ARun P n Z k ⟨E', H'⟩)
    (hs : ∀ b r, H' b = some r → H b = some r ∨ ∃ cs cs', H b = some (.cells cs) ∧ r = .cells cs' ∧ cs'.length = cs.length ∧ ConvL H H' cs cs')
    (hc : ∀ t v, look E' t = some v → ∃ u, look E t = some u ∧ Conv H H' u v) : ARun P n Z k ⟨E, H⟩ := fun a w r => by
  have hgone : ∀ b, H b = none → H' b = none := fun b hb => by
    cases e : H' b with
    | none => rfl
    | some r =>
      rcases hs b r e with q | ⟨cs, cs', q, _⟩ <;> rw [q] at hb <;> cases hb
  have hfr : ∀ b, Fr H w b → Fr H' w b := fun b hb => ⟨hb.1, hgone b hb.2⟩
  have hrel : HRel H' w := fun b r' hb => by
    rcases hs b r' hb with q | ⟨cs, cs', q, rfl, hl, hcv⟩
    · exact (r.heap b r' q).mono hfr
    · obtain ⟨c, elem, fz, h1, hz, h2, h3⟩ := r.heap b _ q
      exact ⟨c, elem, fz, h1, hz, by rw [hl]; exact h2, by rw [hl]; exact hcv w _ r.heap h3⟩
  have r' : Rel n ⟨E', H'⟩ a w := ⟨r.defers, r.size, fun t v hv => by
    obtain ⟨u, hu, hcv⟩ := hc t v hv
    obtain ⟨h1, h2⟩ := r.env t u hu
    exact ⟨h1, hcv w _ r.heap h2⟩, hrel⟩
  exact (h a w r').mono fun j a' w' ⟨A', z, q, e⟩ => ⟨A', z, q, ⟨e.size, fun b hb hn => e.keep b hb (hgone b hn), e.bsz, e.os, e.tape, e.output, e.drawn⟩⟩
/-- The cells of one block, seen otherwise. -/
theorem ARun.recell {n : NT} {Z : AS → Prop} {k : List Item} {E : List (Nat × TV)} {H : Heap} (b : Nat) {cs : List TV} (cs' : List TV) (hb : H b = some (.cells cs)) (hl : cs'.length = cs.length) (hc : ConvL H (upd H b (.cells cs')) cs cs') (h : ARun P n Z k ⟨E, upd H b (.cells cs')⟩) : ARun P n Z k ⟨E, H⟩ := by
  refine ARun.turnH h (fun c r hr => ?_) (fun t v hv => ⟨v, hv, Conv.same (fun c hn => ?_) v⟩)
  · by_cases q : c = b
    · subst q
      rw [upd_self] at hr; cases hr
      exact .inr ⟨cs, cs', hb, rfl, hl, hc⟩
    · simp only [upd, if_neg q] at hr; exact .inl hr
  · have q : c ≠ b := by rintro rfl; rw [hb] at hn; cases hn
    simp only [upd, if_neg q]; exact hn
end
end Go.Abs
