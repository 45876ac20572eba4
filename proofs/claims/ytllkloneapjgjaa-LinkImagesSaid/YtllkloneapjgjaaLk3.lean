import Derived.Test.YtllkloneapjgjaaLk2
/- Link, pure: Image, copies, the law of images. -/
namespace Go.Proofs.Ytllkloneapjgjaa.Wd
open Go.Lib Go.RowKit Go.Proofs.YtllkloneapjgjaaW.PrintWords Go.Proofs.YtllkloneapjgjaaW.PrintMore Go.Proofs.Ytllkloneapjgjaa.P
set_option linter.unusedVariables false
set_option linter.unusedSimpArgs false

/-- All words, each by F, from the i-th on; d are left. -/
def imgR (F : Int → Int × Int) : Nat → Nat → List Int → List Int × Int
  | 0, _, out => (out, 0)
  | d + 1, i, out => if (F i).2 = 0 then imgR F d (i + 1) (out ++ [(F i).1]) else ([], (F i).2)
theorem imgR_len (F : Int → Int × Int) : ∀ (d i : Nat) (out : List Int), (imgR F d i out).1.length ≤ out.length + d := by
  intro d
  induction d with
  | zero => intro i out; simp [imgR]
  | succ d ih =>
    intro i out
    unfold imgR
    split
    · have := ih (i + 1) (out ++ [(F i).1])
      simp at this
      omega
    · simp
theorem image_l0 (nm : ByteArray) (ex im : List ByteArray) (mc md : List Int) (re : List S53) (pc pd : Int) (slots : List Int) (hc : mc.length < 4611686018427387904) (hr : re.length < 4611686018427387904)
    (h1 : RW mc) (h2 : RW md) (h3 : RR re) (h4 : RW slots) (n : Nat) (hn : n ≤ 100000) : ∀ (d i : Nat) (out : List Int), i + d = n → out.length ≤ i →
    Ev (fun k => link_Image.l0 k slots out (n : Int) (i : Int) nm ex im mc md re pc pd) (imgR (wordR mc md re pc pd slots) d i out) := by
  intro d
  induction d with
  | zero =>
    intro i out hi ho
    refine Ev.step (fun k => by rw [link_Image.l0]) ?_
    simp only [if_neg (show ¬ (i : Int) < (n : Int) by omega), imgR]
    exact Ev.now _
  | succ d ih =>
    intro i out hi ho
    refine Ev.step (fun k => by rw [link_Image.l0]) ?_
    simp only [if_pos (show (i : Int) < (n : Int) by omega)]
    refine Ev.bind (word_ev nm ex im mc md re pc pd slots (i : Int) hc hr ⟨by omega, by omega⟩ h1 h2 h3 h4) ?_
    unfold imgR
    by_cases h : (wordR mc md re pc pd slots (i : Int)).2 = 0
    · simp only [if_pos h, if_pos (show out.length < 35184372088832 by omega), w64 (x := (i : Int) + 1) (by omega) (by omega)]
      exact ih (i + 1) _ (by omega) (by simp; omega)
    · simp only [if_neg h]
      exact Ev.now _
theorem refImage_l0 (nm : ByteArray) (ex im : List ByteArray) (mc md : List Int) (re : List S53) (pc pd : Int) (slots : List Int) (hc : mc.length < 4611686018427387904) (hr : re.length < 4611686018427387904)
    (h1 : RW mc) (h2 : RW md) (h3 : RR re) (h4 : RW slots) (n : Nat) (hn : n ≤ 100000) : ∀ (d i : Nat) (out : List Int), i + d = n → out.length ≤ i →
    Ev (fun k => budwoodref16_Image.l0 k slots out (n : Int) (i : Int) nm ex im mc md re pc pd) (imgR (wordR mc md re pc pd slots) d i out) := by
  intro d
  induction d with
  | zero =>
    intro i out hi ho
    refine Ev.step (fun k => by rw [budwoodref16_Image.l0]) ?_
    simp only [if_neg (show ¬ (i : Int) < (n : Int) by omega), imgR]
    exact Ev.now _
  | succ d ih =>
    intro i out hi ho
    refine Ev.step (fun k => by rw [budwoodref16_Image.l0]) ?_
    simp only [if_pos (show (i : Int) < (n : Int) by omega)]
    refine Ev.bind (refWord_ev nm ex im mc md re pc pd slots (i : Int) hc hr ⟨by omega, by omega⟩ h1 h2 h3 h4) ?_
    unfold imgR
    by_cases h : (wordR mc md re pc pd slots (i : Int)).2 = 0
    · simp only [if_pos h, if_pos (show out.length < 35184372088832 by omega), w64 (x := (i : Int) + 1) (by omega) (by omega)]
      exact ih (i + 1) _ (by omega) (by simp; omega)
    · simp only [if_neg h]
      exact Ev.now _
theorem pagesR_le {n m : Nat} (h : n ≤ 16 * m) : pagesR n ≤ m := by unfold pagesR; omega
theorem words_f (p q : Nat) (hp : p ≤ 256) (hq : q ≤ 256) : layout_Words.f (p : Int) (q : Int) = some (((p + q) * 16 : Nat) : Int) := by
  unfold layout_Words.f layout_Pages.f layout_may.f
  by_cases h : ((p : Int) == 0 && ((q : Int) == 0)) = true
  · rw [if_pos h]
    simp only [Bool.and_eq_true, beq_iff_eq] at h
    have e1 : p = 0 := by omega
    have e2 : q = 0 := by omega
    subst e1; subst e2
    show some (wrap64 (0 * 16)) = _
    rw [w64 (x := 0 * 16) (by omega) (by omega)]
    rfl
  · rw [if_neg h]
    simp only [if_pos (show (p : Int) ≥ 0 by omega), if_pos (show (q : Int) ≥ 0 by omega), decide_eq_true (show (p : Int) ≤ 256 by omega), decide_eq_true (show (q : Int) ≤ 256 by omega), Option.bind_some, if_true,
      w64 (x := (p : Int) + q) (by omega) (by omega), w64 (x := ((p : Int) + q) * 16) (by omega) (by omega)]
    rw [Option.some.injEq]
    omega
theorem refWords_f (p q : Nat) (hp : p ≤ 256) (hq : q ≤ 256) : budwoodref12_Words.f (p : Int) (q : Int) = some (((p + q) * 16 : Nat) : Int) := by
  unfold budwoodref12_Words.f budwoodref12_Pages.f
  simp only [if_neg (show ¬ (p : Int) < 0 by omega), if_neg (show ¬ (q : Int) < 0 by omega), if_neg (show ¬ (p : Int) > 256 by omega), if_neg (show ¬ (q : Int) > 256 by omega), Option.bind_some,
    w64 (x := (p : Int) + q) (by omega) (by omega), w64 (x := 16 * ((p : Int) + q)) (by omega) (by omega)]
  rw [Option.some.injEq]
  omega
/-- All words of a module, or why there are none. -/
def imageR (mc md : List Int) (re : List S53) (pc pd : Int) (slots : List Int) : List Int × Int :=
  if mc.length > 512 ∨ md.length > 128 ∨ re.length > 256 then ([], 5) else imgR (wordR mc md re pc pd slots) ((pagesR mc.length + pagesR md.length) * 16) 0 []
theorem imageR_len (mc md : List Int) (re : List S53) (pc pd : Int) (slots : List Int) : (imageR mc md re pc pd slots).1.length ≤ 100000 := by
  unfold imageR
  split
  · simp
  · rename_i h
    have a := pagesR_le (n := mc.length) (m := 32) (by omega)
    have b := pagesR_le (n := md.length) (m := 8) (by omega)
    have := imgR_len (wordR mc md re pc pd slots) ((pagesR mc.length + pagesR md.length) * 16) 0 []
    simp only [List.length_nil] at this
    omega
theorem image_ev (nm : ByteArray) (ex im : List ByteArray) (mc md : List Int) (re : List S53) (pc pd : Int) (slots : List Int) (hc : mc.length ≤ 2000) (hd : md.length ≤ 2000) (hr : re.length ≤ 2000)
    (h1 : RW mc) (h2 : RW md) (h3 : RR re) (h4 : RW slots) : Ev (fun k => link_Image.f k nm ex im mc md re pc pd slots) (imageR mc md re pc pd slots) := by
  unfold link_Image.f imageR
  have jt : Ev (fun k => link_Image.j0 k slots true nm ex im mc md re pc pd) (([] : List Int), 5) := by
    refine Ev.step (fun k => by rw [link_Image.j0]) ?_
    simp only [if_true]
    exact Ev.now _
  by_cases c1 : mc.length > 512
  · simp only [if_pos (show (mc.length : Int) > 512 by omega), if_pos (Or.inl c1)]
    exact jt
  by_cases c2 : md.length > 128
  · simp only [if_neg (show ¬ (mc.length : Int) > 512 by omega), if_pos (show (md.length : Int) > 128 by omega), if_pos (show mc.length > 512 ∨ md.length > 128 ∨ re.length > 256 from .inr (.inl c2))]
    exact jt
  simp only [if_neg (show ¬ (mc.length : Int) > 512 by omega), if_neg (show ¬ (md.length : Int) > 128 by omega)]
  by_cases c3 : re.length > 256
  · simp only [decide_eq_true (show (re.length : Int) > 256 by omega), if_pos (show mc.length > 512 ∨ md.length > 128 ∨ re.length > 256 from .inr (.inr c3))]
    exact jt
  simp only [decide_eq_false (show ¬ (re.length : Int) > 256 by omega), if_neg (show ¬ (mc.length > 512 ∨ md.length > 128 ∨ re.length > 256) by omega)]
  refine Ev.step (fun k => by rw [link_Image.j0]) ?_
  have a := pagesR_le (n := mc.length) (m := 32) (by omega)
  have b := pagesR_le (n := md.length) (m := 8) (by omega)
  have ho : layout_Of.f nm ex im mc md re = some (((pagesR mc.length : Nat) : Int), ((pagesR md.length : Nat) : Int)) := by
    unfold layout_Of.f
    rw [up_f _ (by omega), up_f _ (by omega)]
    rfl
  simp only [Bool.false_eq_true, if_false, ho, Option.bind_some, words_f (pagesR mc.length) (pagesR md.length) (by omega) (by omega)]
  exact image_l0 nm ex im mc md re pc pd slots (by omega) (by omega) h1 h2 h3 h4 _ (by omega) _ 0 [] (by omega) (by simp)
theorem refImage_ev (nm : ByteArray) (ex im : List ByteArray) (mc md : List Int) (re : List S53) (pc pd : Int) (slots : List Int) (hc : mc.length ≤ 2000) (hd : md.length ≤ 2000) (hr : re.length ≤ 2000)
    (h1 : RW mc) (h2 : RW md) (h3 : RR re) (h4 : RW slots) : Ev (fun k => budwoodref16_Image.f k nm ex im mc md re pc pd slots) (imageR mc md re pc pd slots) := by
  unfold budwoodref16_Image.f imageR
  have jt : Ev (fun k => budwoodref16_Image.j0 k slots true nm ex im mc md re pc pd) (([] : List Int), 5) := by
    refine Ev.step (fun k => by rw [budwoodref16_Image.j0]) ?_
    simp only [if_true]
    exact Ev.now _
  by_cases c1 : mc.length > 512
  · simp only [if_pos (show (mc.length : Int) > 512 by omega), if_pos (Or.inl c1)]
    exact jt
  by_cases c2 : md.length > 128
  · simp only [if_neg (show ¬ (mc.length : Int) > 512 by omega), if_pos (show (md.length : Int) > 128 by omega), if_pos (show mc.length > 512 ∨ md.length > 128 ∨ re.length > 256 from .inr (.inl c2))]
    exact jt
  simp only [if_neg (show ¬ (mc.length : Int) > 512 by omega), if_neg (show ¬ (md.length : Int) > 128 by omega)]
  by_cases c3 : re.length > 256
  · simp only [decide_eq_true (show (re.length : Int) > 256 by omega), if_pos (show mc.length > 512 ∨ md.length > 128 ∨ re.length > 256 from .inr (.inr c3))]
    exact jt
  simp only [decide_eq_false (show ¬ (re.length : Int) > 256 by omega), if_neg (show ¬ (mc.length > 512 ∨ md.length > 128 ∨ re.length > 256) by omega)]
  refine Ev.step (fun k => by rw [budwoodref16_Image.j0]) ?_
  have a := pagesR_le (n := mc.length) (m := 32) (by omega)
  have b := pagesR_le (n := md.length) (m := 8) (by omega)
  have ho : budwoodref12_Of.f nm ex im mc md re = some (((pagesR mc.length : Nat) : Int), ((pagesR md.length : Nat) : Int)) := by
    unfold budwoodref12_Of.f
    rw [refPages_f _ (by omega), refPages_f _ (by omega)]
    rfl
  simp only [Bool.false_eq_true, if_false, ho, Option.bind_some, refWords_f (pagesR mc.length) (pagesR md.length) (by omega) (by omega)]
  exact refImage_l0 nm ex im mc md re pc pd slots (by omega) (by omega) h1 h2 h3 h4 _ (by omega) _ 0 [] (by omega) (by simp)

/-! ### what is the same as itself -/
theorem sameWords_l0 (l : List Int) (hl : l.length ≤ 100000) : ∀ (d i : Nat), i + d = l.length → Ev (fun k => budwoodref10_SameWords.l0 k l l (i : Int)) true := by
  intro d
  induction d with
  | zero =>
    intro i hi
    refine Ev.step (fun k => by rw [budwoodref10_SameWords.l0]) ?_
    simp only [if_neg (show ¬ (i : Int) < (l.length : Int) by omega)]
    exact Ev.now _
  | succ d ih =>
    intro i hi
    refine Ev.step (fun k => by rw [budwoodref10_SameWords.l0]) ?_
    simp only [if_pos (show (i : Int) < (l.length : Int) by omega), if_pos (show 0 ≤ (i : Int) by omega), if_true, w64 (x := (i : Int) + 1) (by omega) (by omega)]
    exact ih (i + 1) (by omega)
theorem sameWords_ev (l : List Int) (hl : l.length ≤ 100000) : Ev (fun k => budwoodref10_SameWords.f k l l) true := by
  unfold budwoodref10_SameWords.f
  simp only [if_true]
  exact sameWords_l0 l hl l.length 0 (by omega)
theorem sameTexts_l0 (l : List ByteArray) (hl : l.length ≤ 100000) : ∀ (d i : Nat), i + d = l.length → Ev (fun k => budwoodref10_SameTexts.l0 k l l (i : Int)) true := by
  intro d
  induction d with
  | zero =>
    intro i hi
    refine Ev.step (fun k => by rw [budwoodref10_SameTexts.l0]) ?_
    simp only [if_neg (show ¬ (i : Int) < (l.length : Int) by omega)]
    exact Ev.now _
  | succ d ih =>
    intro i hi
    refine Ev.step (fun k => by rw [budwoodref10_SameTexts.l0]) ?_
    simp only [if_pos (show (i : Int) < (l.length : Int) by omega), if_pos (show 0 ≤ (i : Int) by omega), if_true, w64 (x := (i : Int) + 1) (by omega) (by omega)]
    exact ih (i + 1) (by omega)
theorem sameTexts_ev (l : List ByteArray) (hl : l.length ≤ 100000) : Ev (fun k => budwoodref10_SameTexts.f k l l) true := by
  unfold budwoodref10_SameTexts.f
  simp only [if_true]
  exact sameTexts_l0 l hl l.length 0 (by omega)
theorem same_l0 (nm : ByteArray) (ex im : List ByteArray) (mc md : List Int) (re : List S53) (hl : re.length ≤ 100000) : ∀ (d i : Nat), i + d = re.length → Ev (fun k => budwoodref10_Same.l0 k (i : Int) nm ex im mc md re nm ex im mc md re) true := by
  intro d
  induction d with
  | zero =>
    intro i hi
    refine Ev.step (fun k => by rw [budwoodref10_Same.l0]) ?_
    simp only [if_neg (show ¬ (i : Int) < (re.length : Int) by omega)]
    exact Ev.now _
  | succ d ih =>
    intro i hi
    refine Ev.step (fun k => by rw [budwoodref10_Same.l0]) ?_
    simp only [if_pos (show (i : Int) < (re.length : Int) by omega), if_pos (show 0 ≤ (i : Int) by omega), beq_self_eq_true, Bool.not_true, Bool.or_self, Bool.false_eq_true, if_false, w64 (x := (i : Int) + 1) (by omega) (by omega)]
    exact ih (i + 1) (by omega)
theorem same_ev (nm : ByteArray) (ex im : List ByteArray) (mc md : List Int) (re : List S53) (h1 : ex.length ≤ 2000) (h2 : im.length ≤ 2000) (h3 : mc.length ≤ 2000) (h4 : md.length ≤ 2000) (h5 : re.length ≤ 2000) :
    Ev (fun k => budwoodref10_Same.f k nm ex im mc md re nm ex im mc md re) true := by
  unfold budwoodref10_Same.f
  simp only [if_true]
  refine Ev.bind (sameTexts_ev ex (by omega)) ?_
  simp only [if_true]
  refine Ev.bind (sameTexts_ev im (by omega)) ?_
  simp only [if_true]
  refine Ev.bind (sameWords_ev mc (by omega)) ?_
  simp only [if_true]
  refine Ev.bind (sameWords_ev md (by omega)) ?_
  simp only [if_true, bne_self_eq_false]
  refine Ev.step (fun k => by rw [budwoodref10_Same.j0]) ?_
  simp only [Bool.false_eq_true, if_false]
  exact same_l0 nm ex im mc md re (by omega) re.length 0 (by omega)
theorem copy_f (nm : ByteArray) (ex im : List ByteArray) (mc md : List Int) (re : List S53) (h1 : ex.length ≤ 2000) (h2 : im.length ≤ 2000) (h3 : mc.length ≤ 2000) (h4 : md.length ≤ 2000) (h5 : re.length ≤ 2000) :
    budwoodref10_Copy.f nm ex im mc md re = some (nm, ex, im, mc, md, re) := by
  unfold budwoodref10_Copy.f
  simp only [Option.bind_some, List.length_nil, Nat.zero_add, List.nil_append, if_pos (show ex.length < 8796093022208 by omega), if_pos (show im.length < 8796093022208 by omega), if_pos (show mc.length < 35184372088832 by omega),
    if_pos (show md.length < 35184372088832 by omega), if_pos (show re.length < 23456248059221 by omega)]
theorem images_l0 (nm : ByteArray) (ex im : List ByteArray) (mc md : List Int) (re : List S53) (h1 : ex.length ≤ 2000) (h2 : im.length ≤ 2000) (h3 : mc.length ≤ 2000) (h4 : md.length ≤ 2000) (h5 : re.length ≤ 2000) :
    ∀ (d i : Nat) (a : List Int), i + d = a.length → a.length ≤ 100000 → Ev (fun k => budwoodlaw16_LinkImages.l0 k a true (i : Int) nm ex im mc md re nm ex im mc md re) true := by
  intro d
  induction d with
  | zero =>
    intro i a hi ha
    refine Ev.step (fun k => by rw [budwoodlaw16_LinkImages.l0]) ?_
    simp only [if_neg (show ¬ (i : Int) < (a.length : Int) by omega), if_true]
    refine Ev.bind (same_ev nm ex im mc md re h1 h2 h3 h4 h5) ?_
    simp only [if_true]
    exact awake_end
  | succ d ih =>
    intro i a hi ha
    refine Ev.step (fun k => by rw [budwoodlaw16_LinkImages.l0]) ?_
    simp only [if_pos (show (i : Int) < (a.length : Int) by omega), if_pos (show 0 ≤ (i : Int) by omega), w64 (x := (i : Int) + 1) (by omega) (by omega)]
    exact ih (i + 1) _ (by simp; omega) (by simp; omega)
theorem images_ev (nm : ByteArray) (ex im : List ByteArray) (mc md : List Int) (re : List S53) (pc pd : Int) (slots : List Int)
    (h1 : RW mc) (h2 : RW md) (h3 : RR re) (h4 : RW slots) : Ev (fun k => budwoodlaw16_LinkImages.f k nm ex im mc md re pc pd slots) true := by
  unfold budwoodlaw16_LinkImages.f
  obtain ⟨r, e, hr⟩ := size_ev nm ex im mc md re
  refine Ev.bind e ?_
  by_cases h : r > 2000
  · simp only [if_pos h]
    exact awake_end
  · obtain ⟨l1, l2, l3, l4, l5⟩ := hr (by omega)
    simp only [if_neg h, copy_f nm ex im mc md re l4 l5 l1 l2 l3, Option.bind_some]
    refine Ev.bind (image_ev nm ex im mc md re pc pd slots l1 l2 l3 h1 h2 h3 h4) (Ev.bind (refImage_ev nm ex im mc md re pc pd slots l1 l2 l3 h1 h2 h3 h4) ?_)
    refine Ev.bind (sameWords_ev _ (imageR_len mc md re pc pd slots)) ?_
    simp only [if_true, beq_self_eq_true]
    refine Ev.step (fun k => by rw [budwoodlaw16_LinkImages.j0]) ?_
    exact images_l0 nm ex im mc md re l4 l5 l1 l2 l3 (imageR mc md re pc pd slots).1.length 0 _ (by omega) (imageR_len mc md re pc pd slots)
end Go.Proofs.Ytllkloneapjgjaa.Wd
