import Derived.Test.YtlejfpakgoaffaaDoorNmLaws3
import Derived.Test.YtlejfpakgoaffaaDoorPx7
/- Names, pure: the order. -/
namespace Go.Proofs.YtlejfpakgoaffaaDoor.Nm
open Go.Lib Go.RowKit Go.Proofs.YtlejfpakgoaffaaDoorW.PrintWords Go.Proofs.YtlejfpakgoaffaaDoor.P
set_option linter.unusedVariables false

theorem l_asym {a b : List UInt8} (h : a < b) : ¬ b < a := fun h2 => List.lt_irrefl a (List.lt_trans h h2)
theorem l_tri (a b : List UInt8) (h1 : ¬ a < b) (h2 : ¬ b < a) : a = b := List.le_antisymm (List.not_lt.mp h2) (List.not_lt.mp h1)
theorem less_asym (a b : ByteArray) (ha : chk a = 0) (hb : chk b = 0) (h1 : lessR a b = true) : lessR b a = false := by
  cases h2 : lessR b a
  · rfl
  · rw [less_names a b ha hb] at h1
    rw [less_names b a hb ha] at h2
    rcases h1 with h1 | ⟨e1, h1⟩
    · rcases h2 with h2 | ⟨e2, h2⟩
      · exact absurd h2 (l_asym h1)
      · rw [e2] at h1; exact absurd h1 (List.lt_irrefl _)
    · rcases h2 with h2 | ⟨e2, h2⟩
      · rw [e1] at h2; exact absurd h2 (List.lt_irrefl _)
      · omega
theorem less_trans (a b c : ByteArray) (ha : chk a = 0) (hb : chk b = 0) (hc : chk c = 0) (h1 : lessR a b = true) (h2 : lessR b c = true) : lessR a c = true := by
  rw [less_names a b ha hb] at h1
  rw [less_names b c hb hc] at h2
  rw [less_names a c ha hc]
  rcases h1 with h1 | ⟨e1, h1⟩
  · rcases h2 with h2 | ⟨e2, h2⟩
    · exact .inl (List.lt_trans h1 h2)
    · rw [e2] at h1; exact .inl h1
  · rcases h2 with h2 | ⟨e2, h2⟩
    · rw [← e1] at h2; exact .inl h2
    · exact .inr ⟨e1.trans e2, by omega⟩
theorem less_total (a b : ByteArray) (ha : chk a = 0) (hb : chk b = 0) (h1 : lessR a b = false) : lessR b a = (a.toList != b.toList) := by
  cases h2 : lessR b a
  · have g1 : ¬ _ := fun h => by rw [(less_names a b ha hb).mpr h] at h1; cases h1
    have g2 : ¬ _ := fun h => by rw [(less_names b a hb ha).mpr h] at h2; cases h2
    have e1 : (cutA a).toList = (cutA b).toList := l_tri _ _ (fun h => g1 (.inl h)) (fun h => g2 (.inl h))
    have e2 : ver (cutB a) = ver (cutB b) := by
      rcases Int.lt_trichotomy (ver (cutB a)) (ver (cutB b)) with h | h | h
      · exact absurd (.inr ⟨e1, h⟩) g1
      · exact h
      · exact absurd (.inr ⟨e1.symm, h⟩) g2
    rw [names_eq a b ha hb e1 e2, bne_self_eq_false]
  · refine (bne_iff_ne.mpr fun h => ?_).symm
    have : a = b := ba_ext (by rw [← ByteArray.toList_eq, ← ByteArray.toList_eq]; exact h)
    rw [this, less_irr] at h2
    cases h2
theorem less_ne (a b : ByteArray) (h1 : lessR a b = true) : (a.toList != b.toList) = true := by
  refine bne_iff_ne.mpr fun h => ?_
  have : a = b := ba_ext (by rw [← ByteArray.toList_eq, ← ByteArray.toList_eq]; exact h)
  rw [this, less_irr] at h1
  cases h1
theorem order_ev (a b c : ByteArray) (ha : a.size < 4294967281) (hb : b.size < 4294967281) (hc : c.size < 4294967281) : Ev (fun k => budwoodlaw02_NameOrder.f k a b c) true := by
  have jt : Ev (fun k => budwoodlaw02_NameOrder.j0 k a b c true) true := by
    refine Ev.step (fun k => by rw [budwoodlaw02_NameOrder.j0]) ?_
    simp only [if_true]
    refine Ev.bind (less_ev a a ha ha) ?_
    rw [less_irr]
    simp only [Bool.false_eq_true, if_false]
    exact awake_end
  unfold budwoodlaw02_NameOrder.f
  refine Ev.bind (check_ev a ha) ?_
  by_cases h1 : chk a = 0
  · simp only [h1, if_true]
    refine Ev.bind (check_ev b hb) ?_
    by_cases h2 : chk b = 0
    · simp only [h2, if_true]
      refine Ev.bind (check_ev c hc) ?_
      by_cases h3 : chk c = 0
      · simp only [h3, bne_self_eq_false]
        refine Ev.step (fun k => by rw [budwoodlaw02_NameOrder.j0]) ?_
        simp only [Bool.false_eq_true, if_false]
        refine Ev.bind (less_ev a b ha hb) (Ev.bind (less_ev b a hb ha) (Ev.bind (less_ev b c hb hc) ?_))
        cases h4 : lessR a b
        · rw [less_total a b h1 h2 h4]
          simp only [Bool.false_eq_true, if_false, beq_self_eq_true, if_true]
          exact awake_end
        · rw [less_asym a b h1 h2 h4, less_ne a b h4]
          simp only [Bool.false_eq_true, if_false, beq_self_eq_true, if_true]
          cases h5 : lessR b c
          · simp only [Bool.false_eq_true, if_false]
            exact awake_end
          · simp only [if_true]
            refine Ev.bind (less_ev a c ha hc) ?_
            rw [less_trans a b c h1 h2 h3 h4 h5]
            simp only [if_true]
            exact awake_end
      · simp only [show (chk c != 0) = true from bne_iff_ne.mpr h3]
        exact jt
    · simp only [if_neg h2]
      exact jt
  · simp only [if_neg h1]
    exact jt
end Go.Proofs.YtlejfpakgoaffaaDoor.Nm
