import Derived.Test.YtoeplpkmjfecgaaGreatDoorAb22
/- A region that draws its order: its head in any order, its end in the text's. -/
namespace Go.Abs
set_option linter.unusedSimpArgs false
set_option linter.unusedVariables false
section
variable {P : Program}
theorem draw1_any {ops : Array Oper} {n : NT} {A : AS} {Q : Exit → Act → World → Prop} (I : AS → Prop) (φ : List Phase) (hok : drawOk ops φ = true) (hdst : dstOk n.n ops.toList = true)
    (h : dphase P ops I φ A) {a : Act} {w : World} (r : Rel n A a w) (hQ : ∀ A' a' w', I A' → Rel n A' a' w' → Ext A.H w A'.H w' → Q .normal a' w') :
    wpAny P .any ops Q ops.size (Array.replicate ops.size false) a { w with drawn := w.drawn + 1 } := by
  simp only [drawOk, Bool.and_eq_true, List.all_eq_true, decide_eq_true_eq] at hok
  obtain ⟨⟨⟨⟨⟨⟨⟨⟨h1, h2⟩, h3⟩, h4⟩, h5⟩, h6⟩, h7⟩, h8⟩, h9⟩ := hok
  cases φ with
  | nil => exact h.elim
  | cons ph rest =>
    obtain ⟨chk, new, c⟩ := ph
    obtain ⟨hchks, hnews⟩ := h
    simp only [phOk, Bool.and_eq_true, List.all_eq_true] at h9
    obtain ⟨⟨hnf, _⟩, hnext⟩ := h9
    have hO : orderOf ((chk, new, c) :: rest) = new ++ (c.toList ++ orderOf rest) := by simp [orderOf]
    rw [hO] at h3 h4 h5 h6 h7 h8
    have safe_l : ∀ (l m : List Nat), safeW ops (l ++ m) = true → safeW ops l = true := by
      intro l
      induction l with
      | nil => intro m h; rfl
      | cons x l ih =>
        intro m h
        simp only [List.cons_append, safeW, Bool.and_eq_true, List.all_eq_true] at h ⊢
        exact ⟨⟨h.1.1, fun y hy => h.1.2 y (List.mem_append_left _ hy)⟩, ih m h.2⟩
    obtain ⟨B, hB1, hB2, hB3, hB4⟩ := news_run hnews (fun j hj => hnf j hj) (safe_l _ _ h7)
    have hnone : ∀ j, j < ops.size → (Array.replicate ops.size false).getD j true = false := by
      intro j hj; simp [Array.getD_eq_getD_getElem?, hj]
    have hlt : ∀ j ∈ new ++ (c.toList ++ orderOf rest), j < ops.size := fun j hj => by simpa using h5 j hj
    have hdr : Rel n A a { w with drawn := w.drawn + 1 } :=
      ⟨r.defers, r.size, fun t v hv => ⟨(r.env t v hv).1, Rep.mono (w := w) (w' := { w with drawn := w.drawn + 1 }) (F := Fr A.H w) (F' := Fr A.H { w with drawn := w.drawn + 1 }) (fun b hb => ⟨hb, rfl⟩) (fun b => Nat.le_refl _) _ _ (r.env t v hv).2⟩,
        fun b rr hb => RootRel.ext (w := w) (H := A.H) ⟨Nat.le_refl _, fun _ _ h => ⟨rfl, h⟩, fun _ => Nat.le_refl _, rfl, rfl, rfl, dr_succ _⟩ rfl (r.heap b rr hb)⟩
    refine draw_main (P := P) (n := n) (O := new ++ (c.toList ++ orderOf rest)) (fun o ho => dstOk_all hdst o (by simpa using ho)) h7 h8 h2 hlt h6 (fun j hj => by simpa using h4 j (List.mem_range.2 hj))
      (K := I) (H0 := A.H) (w0 := { w with drawn := w.drawn + 1 }) ?_ ops.size c rest new new B _ a _ ?_ rfl (fun j hj => hj) ?_ ⟨by simp, ?_, ?_, ?_, ?_⟩ ?_ hB1
    · intro A' a' w' hk r' e
      have e0 : Ext A.H w A.H { w with drawn := w.drawn + 1 } := ⟨Nat.le_refl _, fun _ _ h => ⟨rfl, h⟩, fun _ => Nat.le_refl _, rfl, rfl, rfl, dr_succ _⟩
      exact hQ A' a' w' hk r' (e0.trans e)
    · unfold toCome
      exact Nat.le_trans (List.length_filter_le _ _) (by simp)
    · cases c with
      | none => simpa using hnext
      | some i => simpa using hnext
    · intro j hj; exact hnone j (hlt j (List.mem_append_right _ hj))
    · intro j hj h1' h2'
      have := h4 j (List.mem_range.2 hj)
      simp only [List.contains_iff_mem, List.mem_append] at this
      rcases this with h | h
      · exact absurd h h1'
      · exact absurd (List.mem_append.2 h) h2'
    · intro j hj _; exact hB3 j hj
    · have hle : AS.le ⟨filt (pend ops (Array.replicate ops.size false) new) B.env, B.H⟩ A := by
        refine ⟨fun t u hu => ?_, fun b r hb => by rw [← hB2]; exact hb⟩
        have hu' : look (filt (pend ops (Array.replicate ops.size false) new) B.env) t = some u := hu
        rw [look_filt] at hu'
        split at hu'
        · cases hu'
        · rename_i hnp
          rw [hB4 t (fun x hx e => hnp (mem_pend.2 ⟨x, hx, hnone x (hlt x (List.mem_append_left _ hx)), e⟩))] at hu'
          exact hu'
      exact Rel.le hle hdr
    · rw [hB2]; exact .refl _ _
theorem draw3_any {ops : Array Oper} {n : NT} {A : AS} {Q : Exit → Act → World → Prop} (I : AS → Prop) (new : List Nat) (c1 c2 c3 : Nat) (chk1 chka chkb chk3 : List Nat) (ra rb r3 : List Phase) (hok : threeOk ops new c1 c2 c3 chk1 chka chkb chk3 ra rb r3 = true) (hdst : dstOk n.n ops.toList = true)
    (h : newsB P ops (three P ops I c1 c2 c3 chk1 chka chkb chk3 ra rb r3) new A) {a : Act} {w : World} (r : Rel n A a w) (hQ : ∀ A' a' w', I A' → Rel n A' a' w' → Ext A.H w A'.H w' → Q .normal a' w') :
    wpAny P .any ops Q ops.size (Array.replicate ops.size false) a { w with drawn := w.drawn + 1 } := by
  simp only [threeOk, Bool.and_eq_true] at hok
  obtain ⟨⟨⟨⟨⟨⟨⟨⟨⟨⟨⟨⟨⟨_, hdown⟩, l1⟩, l2⟩, l3⟩, hnf⟩, s1⟩, sa⟩, sb⟩, s3⟩, is1⟩, is2⟩, is3⟩, hw⟩ := hok
  replace hnf := List.all_eq_true.1 hnf
  obtain ⟨o3, ho3⟩ := Option.isSome_iff_exists.1 is3
  obtain ⟨o1, ho1⟩ := Option.isSome_iff_exists.1 is1
  obtain ⟨o2, ho2⟩ := Option.isSome_iff_exists.1 is2
  have h1 := lin_of l1
  have h2 := lin_of l2
  have h3 := lin_of l3
  obtain ⟨B, ⟨k1, k2⟩, hB2, hB3, hB4⟩ := news_run (newsB_news (k' := three P ops I c1 c2 c3 chk1 chka chkb chk3 ra rb r3) (fun _ h => h) h) (fun j hj => hnf j hj) (safe_left _ _ h1.safe)
  have hnone : ∀ j, j < ops.size → (Array.replicate ops.size false).getD j true = false := by
    intro j hj; simp [Array.getD_eq_getD_getElem?, hj]
  have hdr : Rel n A a { w with drawn := w.drawn + 1 } :=
    ⟨r.defers, r.size, fun t v hv => ⟨(r.env t v hv).1, Rep.mono (w := w) (w' := { w with drawn := w.drawn + 1 }) (F := Fr A.H w) (F' := Fr A.H { w with drawn := w.drawn + 1 }) (fun b hb => ⟨hb, rfl⟩) (fun b => Nat.le_refl _) _ _ (r.env t v hv).2⟩,
      fun b rr hb => RootRel.ext (w := w) (H := A.H) ⟨Nat.le_refl _, fun _ _ h => ⟨rfl, h⟩, fun _ => Nat.le_refl _, rfl, rfl, rfl, dr_succ _⟩ rfl (r.heap b rr hb)⟩
  refine draw_three (P := P) (n := n) (fun o ho => dstOk_all hdst o (by simpa using ho)) hdown h1 h2 h3 s1 sa sb s3 ho1 ho2 ho3 hw (K := I) (H0 := A.H) (w0 := { w with drawn := w.drawn + 1 }) ?_ (by
    simp only [dnext, ho1, onO] at k1
    exact cgo_imp k1 fun B hB => ⟨chksB_chks hB.1, dnext_cgo ho2 hB.2.1, dnext_cgo ho3 hB.2.2⟩) (dnext_cgo ho3 k2) ops.size _ a _ ?_ ⟨by simp, ?_, ?_, ?_, ?_⟩ (by rw [hB2]; exact .refl _ _)
  · intro A' a' w' hk r' e
    have e0 : Ext A.H w A.H { w with drawn := w.drawn + 1 } := ⟨Nat.le_refl _, fun _ _ h => ⟨rfl, h⟩, fun _ => Nat.le_refl _, rfl, rfl, rfl, dr_succ _⟩
    exact hQ A' a' w' hk r' (e0.trans e)
  · unfold toCome
    exact Nat.le_trans (List.length_filter_le _ _) (by simp)
  · intro j hj; exact hnone j (h1.lt j (List.mem_append_right _ hj))
  · intro j hj h1' h2'
    rcases List.mem_append.1 (h1.all j hj) with h | h
    · exact absurd h h1'
    · exact absurd h h2'
  · intro j hj _; exact hB3 j hj
  · have hle : AS.le ⟨filt (pend ops (Array.replicate ops.size false) new) B.env, B.H⟩ A := by
      refine ⟨fun t u hu => ?_, fun b r hb => by rw [← hB2]; exact hb⟩
      have hu' : look (filt (pend ops (Array.replicate ops.size false) new) B.env) t = some u := hu
      rw [look_filt] at hu'
      split at hu'
      · cases hu'
      · rename_i hnp
        rw [hB4 t (fun x hx e => hnp (mem_pend.2 ⟨x, hx, hnone x (h1.lt x (List.mem_append_left _ hx)), e⟩))] at hu'
        exact hu'
    exact Rel.le hle hdr
theorem ext_get (ops : Array Oper) (m j : Nat) (h : j < (ops.extract 0 m).size) : ops[j]? = (ops.extract 0 m)[j]? := by
  simp at h
  rw [Array.getElem?_eq_getElem (by omega), Array.getElem?_eq_getElem (by simp; omega)]
  simp
theorem drop_ops (ops : Array Oper) (m : Nat) : (List.range' m (ops.size - m)).map (ops[·]?) = (ops.toList.drop m).map some := by
  apply List.ext_getElem?
  intro i
  rw [List.getElem?_map, List.getElem?_map, List.getElem?_drop]
  by_cases h : i < ops.size - m
  · rw [List.getElem?_range' h, Array.getElem?_toList]
    simp only [Option.map_some, Nat.one_mul]
    rw [Array.getElem?_eq_getElem (by omega)]; rfl
  · rw [List.getElem?_eq_none (by simp; omega), List.getElem?_eq_none (by simp; omega)]; rfl
def tailOk (ops : Array Oper) (m : Nat) : Bool := headOk (ops.extract 0 m) ops && downB ops && downB (ops.extract 0 m) && tailB ops (ops.extract 0 m).size
theorem ARun.tail {ops : Array Oper} {n : NT} {Z : AS → Prop} {k : List Item} {A : AS} {id : Nat} (m : Nat) (hm : P.follows .mixedOrders = true) (I : AS → Prop) (htl : tailOk ops m = true) (hdst : dstOk n.n ops.toList = true)
    (hI : ∀ A, I A → aops P ops (ARun P n Z k) (ops.toList.drop (ops.extract 0 m).size) A)
    (hh : ∀ (Q : Exit → Act → World → Prop) a w, Rel n A a w → (∀ A' a' w', I A' → Rel n A' a' w' → Ext A.H w A'.H w' → Q .normal a' w') → wpAny P .any (ops.extract 0 m) Q (ops.extract 0 m).size (Array.replicate (ops.extract 0 m).size false) a { w with drawn := w.drawn + 1 }) :
    ARun P n Z (.code (.region id ops true) :: k) A := by
  intro a w r
  unfold tailOk at htl
  simp only [Bool.and_eq_true] at htl
  obtain ⟨⟨⟨hg, hdown⟩, hdp⟩, ht⟩ := htl
  have hle : (ops.extract 0 m).size ≤ ops.size := by simp; omega
  refine TWP.region_draw (dstOk_nd hdst) fun t => ?_
  simp only [Region.schedule, hm, Bool.true_or, if_true]
  refine wpAny_sound ops.size t _ a _ ?_
  have hno : ∀ j, j < ops.size → (Array.replicate ops.size false).getD j true = false := by
    intro j hj; simp [Array.getD_eq_getD_getElem?, hj]
  refine any_tail hg (fun j hj => ext_get ops m j hj) hdown hdp ht (ops.extract 0 m).size (Array.replicate (ops.extract 0 m).size false) _ a _ ops.size (by omega) (by simp) (by simp) (fun j hj => ?_) (fun j _ hj => hno j hj) (fun j q hj hl _ => by rw [hno j hj] at hl; cases hl) ?_
  · rw [hno j (by omega)]
    rw [Array.getD_eq_getD_getElem?, Array.getElem?_replicate, if_pos hj]; rfl
  · refine hh _ a w r fun A' a' w' hk r' e => ?_
    show wpOps P ops _ (List.range' (ops.extract 0 m).size (ops.size - (ops.extract 0 m).size)) a' w'
    refine aops_run (fun o ho => dstOk_all hdst o (by simpa using ho)) _ _ A' a' w' (drop_ops ops _) r' (hI A' hk) fun A2 a2 w2 hk2 r2 e2 => ?_
    exact (hk2 a2 w2 r2).mono fun j a3 w3 ⟨A3, z, r3, e3⟩ => ⟨A3, z, r3, (e.trans e2).trans e3⟩
theorem ARun.draw1T {ops : Array Oper} {n : NT} {Z : AS → Prop} {k : List Item} {A : AS} {id : Nat} (m : Nat) (hm : P.follows .mixedOrders = true) (φ : List Phase) (hok : drawOk (ops.extract 0 m) φ = true) (htl : tailOk ops m = true) (hdst : dstOk n.n ops.toList = true) (hdp : dstOk n.n (ops.extract 0 m).toList = true)
    (h : dphaseB P (ops.extract 0 m) (aops P ops (ARun P n Z k) (ops.toList.drop (ops.extract 0 m).size)) φ A) : ARun P n Z (.code (.region id ops true) :: k) A :=
  ARun.tail m hm _ htl hdst (fun _ h => h) fun Q a w r hQ => draw1_any _ φ hok hdp (dphaseB_dphase h) r hQ
theorem ARun.draw3T {ops : Array Oper} {n : NT} {Z : AS → Prop} {k : List Item} {A : AS} {id : Nat} (m : Nat) (hm : P.follows .mixedOrders = true) (I : AS → Prop) (new : List Nat) (c1 c2 c3 : Nat) (chk1 chka chkb chk3 : List Nat) (ra rb r3 : List Phase) (hok : threeOk (ops.extract 0 m) new c1 c2 c3 chk1 chka chkb chk3 ra rb r3 = true) (htl : tailOk ops m = true) (hdst : dstOk n.n ops.toList = true) (hdp : dstOk n.n (ops.extract 0 m).toList = true)
    (hI : ∀ A, I A → aops P ops (ARun P n Z k) (ops.toList.drop (ops.extract 0 m).size) A) (h : newsB P (ops.extract 0 m) (three P (ops.extract 0 m) I c1 c2 c3 chk1 chka chkb chk3 ra rb r3) new A) : ARun P n Z (.code (.region id ops true) :: k) A :=
  ARun.tail m hm I htl hdst hI fun Q a w r hQ => draw3_any I new c1 c2 c3 chk1 chka chkb chk3 ra rb r3 hok hdp h r hQ
/-- There is a block that is not there yet. -/
theorem ARun.free {n : NT} {Z : AS → Prop} {k : List Item} {E : List (Nat × TV)} {H : Heap} (h : ∀ b, H b = none → ARun P n Z k ⟨E, H⟩) : ARun P n Z k ⟨E, H⟩ := fun a w r => h w.heap.size (by
  cases e : H w.heap.size with
  | none => rfl
  | some r' => exact absurd (HRel.lt r.heap e) (Nat.lt_irrefl _)) a w r
theorem Owns.two {H : Heap} {b k k' : Nat} (h : H b = none) : Owns H H [(b, k, []), (b, k', [])] := ⟨Sub.refl H, fun r hr => by simp at hr; rcases hr with rfl | rfl <;> exact h, fun r hr => by simp at hr; rcases hr with rfl | rfl <;> exact .inl rfl, by simp⟩
end
end Go.Abs
