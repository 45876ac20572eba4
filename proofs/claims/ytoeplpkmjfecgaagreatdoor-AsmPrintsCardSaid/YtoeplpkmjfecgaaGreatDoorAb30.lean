import Derived.Test.YtoeplpkmjfecgaaGreatDoorAb29
/- An error that is none, held against nil. -/
namespace Go.Abs
set_option linter.unusedSimpArgs false
set_option linter.unusedVariables false
set_option linter.unusedVariables false
set_option linter.unusedSectionVars false
section
variable {P : Program} {n : NT} {Z : AS → Prop} {k : List Item} {A : AS}
theorem run_nil_neq {a : Act} {w : World} {T yT : TypeId} {t : Tmp} {d : Option Tmp} {ty : TypeId} {pos : String} {aft : Array Edge} {g : Option (Nat × Bool)} (ht : a.eval (.tmp t) = .nilIface) (hT : isIfcT P T = true) :
    (execOp a.eval ⟨d, .binOp .neq T (.tmp t) (.const .nilIface) yT, ty, pos, aft, g⟩).run P w = .ok (.value (.bool false)) w := by
  unfold isIfcT at hT
  split at hT
  · rename_i m hu
    have e1 : a.eval (.const .nilIface) = .nilIface := rfl
    have h1 : (Op.equal T .nilIface .nilIface).run P w = .ok true w := by
      unfold Op.equal Op.maxDepth; rw [Op.equalIn]; rw [run_ok (run_under hu)]; rfl
    have h2 : (eqGuard .neq T (.tmp t) (.const .nilIface) .nilIface .nilIface).run P w = .ok () w := by
      unfold eqGuard; simp [pure, Sem.run]
    unfold execOp
    simp only [ht, e1]
    refine run_v ?_
    rw [run_ok h2]
    unfold binOp
    rw [run_ok h1]; rfl
  · cases hT
theorem ARun.nilErr {id : Nat} {d1 d2 x : Tmp} {T yT ty1 ty2 : TypeId} {p1 p2 : String} {a1 a2 : Array Edge} (hx : look A.env x = some (.s .nilIface)) (hT : isIfcT P T = true)
    (hd : dstOk n.n [(⟨some d1, .move (.tmp x), ty1, p1, a1, none⟩ : Oper), ⟨some d2, .binOp .neq T (.tmp d1) (.const .nilIface) yT, ty2, p2, a2, none⟩] = true)
    (h : ARun P n Z k ⟨(d2, .s (.bool false)) :: (d1, .s .nilIface) :: A.env, A.H⟩) :
    ARun P n Z (.code (.region id #[⟨some d1, .move (.tmp x), ty1, p1, a1, none⟩, ⟨some d2, .binOp .neq T (.tmp d1) (.const .nilIface) yT, ty2, p2, a2, none⟩] false) :: k) A := by
  intro a w r
  refine TWP.region (dstOk_nd hd) ?_
  have hr := (r.env x _ hx).2
  simp only [Rep] at hr
  have hd1 : d1 < n.n := dstOk_all hd ⟨some d1, .move (.tmp x), ty1, p1, a1, none⟩ (by simp) d1 rfl
  have hd2 : d2 < n.n := dstOk_all hd ⟨some d2, .binOp .neq T (.tmp d1) (.const .nilIface) yT, ty2, p2, a2, none⟩ (by simp) d2 rfl
  have r1 : Rel n ⟨(d1, .s .nilIface) :: A.env, A.H⟩ (a.put (some d1) .nilIface) w := r.put (v := .s .nilIface) (d := some d1) (.refl _ _) r.heap (fun t ht => by cases ht; exact hd1) (by simp only [Rep])
  have r2 : Rel n ⟨(d2, .s (.bool false)) :: (d1, .s .nilIface) :: A.env, A.H⟩ ((a.put (some d1) .nilIface).put (some d2) (.bool false)) w := r1.put (v := .s (.bool false)) (d := some d2) (.refl _ _) r1.heap (fun t ht => by cases ht; exact hd2) (by simp only [Rep])
  have hv : (a.put (some d1) .nilIface).eval (.tmp d1) = .nilIface := by
    have := (r1.env d1 (.s .nilIface) (by simp [look])).2
    simp only [Rep] at this
    exact this
  show wpOps P _ _ [0, 1] a w
  simp only [wpOps, List.getElem?_toArray, List.getElem?_cons_zero, List.getElem?_cons_succ, Region.wanted, if_true]
  refine .inl ?_
  unfold Oper.wp
  have e0 : (execOp a.eval ⟨some d1, .move (.tmp x), ty1, p1, a1, none⟩).run P w = .ok (.value .nilIface) w := by
    unfold execOp
    simp only [Act.eval, hr]
    rfl
  rw [e0, Oper.upon_value]
  refine .inl ?_
  rw [run_nil_neq hv hT, Oper.upon_value]
  exact h _ _ r2
end
end Go.Abs
