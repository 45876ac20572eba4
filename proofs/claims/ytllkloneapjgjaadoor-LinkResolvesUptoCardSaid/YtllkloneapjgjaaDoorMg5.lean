import Derived.Test.YtllkloneapjgjaaDoorMg4
import Derived.Test.YtllkloneapjgjaaDoorAb25
/- The order of names, by definition. -/
namespace Go.Abs
set_option linter.unusedSimpArgs false
set_option linter.unusedVariables false
set_option maxHeartbeats 4000000
open Go.Proofs Go.Nm Go.Wd
set_option linter.unusedVariables false
set_option maxRecDepth 8000
variable {H : Heap}
theorem rsplit_c {s : ByteArray} (hf : few s) : AC Tryd.prog 63 [.s (.string s)] H (fun r H' => r = .tup [.s (.string (splitR s).1), .s (.int .i64 (splitR s).2.1), .s (.int .i64 (splitR s).2.2)] ∧ H' = H) := by
  refine AC.body Tryd.func63 rfl rfl (n := 23) (res := [.tmp 2, .tmp 3, .tmp 4]) rfl rfl (by simp) ?_
  simp only [ent]
  have C := fun H => rCheck_c (H := H) hf
  have P := fun H => rparts_c (H := H) hf.fits
  have V := fun H => rversion_c (H := H) (s := cutB s) (cutB_few hf).fits
  unfold splitR
  clear hf
  by_cases q : chk s = 0
  · rw [if_pos q]
    rw [q] at C
    clear q
    (repeat' (first | refine wk ?_ | refine wk2 ?_ ?_ | with_reducible refine wkF fun _ _ _ => ?_ | with_reducible intro _ | refine Calling.eq (C _) ?_ | refine Calling.eq (P _) ?_ | refine Calling.eq (V _) ?_ | exact ag | fail))
    exact fin0
  · rw [if_neg q]
    have h1 : (chk s == 0) = false := by simpa using q
    have h2 : (chk s != 0) = true := by simpa using q
    clear q
    (repeat' (first | refine wk ?_ | refine wk2 ?_ ?_ | with_reducible refine wkF fun _ _ _ => ?_ | with_reducible intro _ | refine Calling.eq (C _) ?_ | refine Calling.eq (P _) ?_ | refine Calling.eq (V _) ?_ | exact ag | fail))
    exact fin0
/-- The order of names. -/
def lessS (a b : ByteArray) : Bool := if (chk a != 0) || (chk b != 0) then Op.bytesLess a.toList b.toList else Op.bytesLess (splitR a).1.toList (splitR b).1.toList || (((splitR a).1.toList == (splitR b).1.toList) && decide ((splitR a).2.1 < (splitR b).2.1))
theorem rless_c {a b : ByteArray} (ha : few a) (hb : few b) : AC Tryd.prog 46 [.s (.string a), .s (.string b)] H (fun r H' => r = .s (.bool (lessS a b)) ∧ H' = H) := by
  refine AC.body Tryd.func46 rfl rfl (n := 45) (res := [.tmp 4]) rfl rfl (by simp) ?_
  simp only [ent]
  have A := fun H => rsplit_c (H := H) ha
  have B := fun H => rsplit_c (H := H) hb
  rw [splitR_e] at A B
  unfold lessS
  clear ha hb
  generalize (splitR a).1 = x at *
  generalize (splitR b).1 = y at *
  generalize (splitR a).2.1 = m at *
  generalize (splitR b).2.1 = n at *
  cases q1 : (chk a != 0) <;> cases q2 : (chk b != 0)
  · simp only [Bool.or_self, Bool.false_eq_true, if_false]
    cases q3 : Op.bytesLess x.toList y.toList <;> cases q4 : (x.toList == y.toList) <;> simp only [Bool.true_or, Bool.false_or, Bool.true_and, Bool.false_and, Bool.or_false]
    all_goals
      (repeat' (first | refine wk ?_ | refine wk2 ?_ ?_ | with_reducible refine wkF fun _ _ _ => ?_ | with_reducible intro _ | refine Calling.eq (A _) ?_ | refine Calling.eq (B _) ?_ | exact ag | fail))
      exact fin0
  all_goals
    simp only [Bool.or_true, Bool.true_or, if_true]
    (repeat' (first | refine wk ?_ | refine wk2 ?_ ?_ | with_reducible refine wkF fun _ _ _ => ?_ | with_reducible intro _ | refine Calling.eq (A _) ?_ | refine Calling.eq (B _) ?_ | exact ag | fail))
    exact fin0
end Go.Abs
/- Imports resolved, by definition. -/
namespace Go.Abs
set_option linter.unusedSimpArgs false
set_option linter.unusedVariables false
set_option maxHeartbeats 4000000
open Go.Proofs Go.Nm Go.Wd
set_option linter.unusedVariables false
set_option maxRecDepth 8000
variable {H : Heap}
theorem rslotN_c (e : Ent) (H : Heap) : AC Tryd.prog 33 [.agg e.enc] H (fun r H' => r = .s (.int .u32 e.slotN) ∧ H' = H) := by
  have h : ((e.slotN : Nat) : Int) = e.slot := by
    unfold Ent.slotN Ent.slot IntKind.wrap
    simp [IntKind.bits, IntKind.signed]
    omega
  rw [h]; exact rslot_c e H
def RSym.slotOf (R : RSym) (s : ByteArray) : Nat := ((R.get s).getD Ent.zero).slotN
def RSym.lost (R : RSym) (s : ByteArray) : Bool := !(R.get s).isSome
def RSym.res (R : RSym) (im : List ByteArray) : List Nat × Int := if decide (0 ≤ fi R.lost im) then ([], 23) else (im.map R.slotOf, 0)
theorem rresolve_c (R : RSym) (hR : R.ok) {im : List ByteArray} (hl : im.length ≤ 1000) (H : Heap) :
    AC Tryd.prog 12 [R.tv, .vs 1 (im.map s1)] H (fun r H' => r = .tup [.vs 1 ((R.res im).1.map u1), .s (.int .i64 (R.res im).2)] ∧ H' = H) := by
  refine AC.body Tryd.func12 rfl rfl (n := 33) (res := [.tmp 4, .tmp 5]) rfl rfl (by simp) ?_
  simp only [ent]
  have F0 := fun x H => rfind_c R hR x H
  simp only [RSym.tv_def] at F0 ⊢
  clear hR
  replace F0 := later F0
  (repeat' (first | refine wk ?_ | refine wk2 ?_ ?_ | with_reducible refine wkF fun _ _ _ => ?_ | with_reducible intro _ | exact ag | fail))
  rename_i v hv hvn
  generalize hK : upd H v _ = K
  have k1 : K v = some (.cells [.vs 1 (R.mods.map s1), .vs 5 (R.l.map Ent.enc)]) := by rw [← hK]; clear hK; exact ag
  have hsub : Sub H K := by rw [← hK]; clear hK; exact sb
  clear hK hv hvn
  refine ARun.rounds (fun st : Nat × Nat => ⟨[(1, .vs 1 (im.map s1)), (2, .s (.pointer (some ⟨v, 0, none⟩))), (6, ownT st.2 1 (((im.take st.1).map R.slotOf).map u1)), (7, .s (.int .i64 (st.1 : Nat)))], ownH K st.2 (((im.take st.1).map R.slotOf).map u1)⟩) (fun st => im.length - st.1)
    (fun st => st.1 ≤ im.length ∧ noneB R.lost im st.1 ∧ ((((im.take st.1).map R.slotOf).map u1) ≠ [] → K st.2 = none)) ?_ (0, 0) ⟨by simp, .zero, fun h => absurd rfl h⟩ ?_
  · rintro ⟨i, b⟩ ⟨hi, hno, hb⟩ next
    simp only [] at hi hno hb ⊢
    replace hno := later hno
    have f1 := ownH_keep hb k1
    replace hb := later hb
    by_cases hlt : i < im.length
    · have e1 : (i : Int) < im.length := by omega
      have e2 : (0 : Int) ≤ i := by omega
      obtain ⟨x, hx⟩ := at_ hlt
      have hlen : (((im.take i).map R.slotOf).map u1).length = i := by simp; omega
      have hnx : ((im.take (i + 1)).map R.slotOf).map u1 = ((im.take i).map R.slotOf).map u1 ++ [u1 (R.slotOf x)] := by rw [List.take_add_one, hx]; simp
      have hx1 := vget s1 hx
      rw [s1_def] at hx1
      have hw := w64s (i := i) (by omega)
      have F := F0.go x
      cases hq : R.lost x with
      | true =>
        have hr : R.res im = ([], 23) := if_pos (by rw [fi_some hx hq hno.go]; simp)
        have hq' : (R.get x).isSome = false := by unfold RSym.lost at hq; simpa using hq
        rw [hr]
        rw [hq', if_neg (by decide)] at F
        clear hx next hq hr hnx
        (repeat' (first | refine wk ?_ | refine wk2 ?_ ?_ | with_reducible refine wkF fun _ _ _ => ?_ | with_reducible intro _ | exact ag | fail))
        refine ARun.drawT mixed [0, 1, 2, 3, 4] (.alt 5 [1, 2, 3] [6, 7, 8] (.alt 9 [0, 1, 2, 3, 4, 6, 7, 8] [] (.alt 10 [8] [11] .leaf .nil) .nil) (.alt 9 [0, 1, 2, 3, 4] [] (.alt 5 [1, 2, 3] [6, 7, 8] (.alt 10 [8] [11] .leaf .nil) .nil) .nil)) (by kernel_rfl) (by rfl) ?_
        (repeat' (first | refine wk ?_ | refine wk2 ?_ ?_ | with_reducible refine wkF fun _ _ _ => ?_ | with_reducible intro _ | refine Calling.eq (F _) ?_ | exact ag | fail))
        all_goals
          rename_i c hc hcn
          exact Fin.done (vs := [.nils, .s (.int .i64 23)]) ag (fun a r h => Sub.upd (sub_ownK (Sub.refl K) hb.go) (own_gone hb.go hc) a r (hsub a r h)) (Conv.tup (.cons conv_nils (.cons (Conv.refl (fun a r h => Sub.upd (sub_ownK (Sub.refl K) hb.go) (own_gone hb.go hc) a r (hsub a r h)) _) .nil))) ⟨rfl, rfl⟩
      | false =>
        have nx := fun b' hb' => next.go (i + 1, b') ⟨by simp only []; omega, hno.go.succ hx hq, fun _ => hb'⟩ (by simp only []; omega)
        have hq' : (R.get x).isSome = true := by unfold RSym.lost at hq; simpa using hq
        have hs : R.slotOf x = ((R.get x).getD Ent.zero).slotN := rfl
        rw [hq', if_pos rfl] at F
        simp only [hnx, hs] at nx
        generalize (R.get x).getD Ent.zero = e at *
        have Q := fun H => rslotN_c e H
        replace nx := later nx
        clear hx next hq hs hnx hq'
        (repeat' (first | refine wk ?_ | refine wk2 ?_ ?_ | with_reducible refine wkF fun _ _ _ => ?_ | with_reducible intro _ | exact ag | fail))
        refine ARun.drawT mixed [0, 1, 2, 3, 4] (.alt 5 [1, 2, 3] [6, 7, 8] (.alt 9 [0, 1, 2, 3, 4, 6, 7, 8] [] (.alt 10 [8] [11] .leaf .nil) .nil) (.alt 9 [0, 1, 2, 3, 4] [] (.alt 5 [1, 2, 3] [6, 7, 8] (.alt 10 [8] [11] .leaf .nil) .nil) .nil)) (by kernel_rfl) (by rfl) ?_
        (repeat' (first | refine wk ?_ | refine wk2 ?_ ?_ | with_reducible refine wkF fun _ _ _ => ?_ | with_reducible intro _ | refine Calling.eq (F _) ?_ | exact ag | fail))
        all_goals
          rename_i c hc hcn
          rw [own_upd hc]
          have hb2 := own_left (E := Root.cells e.enc) hb.go hc
          have hcK := own_gone hb.go hc
          replace hb2 := later hb2
          replace hcK := later hcK
          clear hb hc hcn
          (repeat' (first | refine wk ?_ | refine wk2 ?_ ?_ | with_reducible refine wkF fun _ _ _ => ?_ | with_reducible intro _ | refine Calling.eq (Q _) ?_ | refine Doing.fresh (oc_build1 ap36 (fun _ h => by cases h; rfl) rfl rfl (by decide) (by decide)) fun _ _ _ => ?_ | refine Doing.fresh (oc_append1 (e := u1 e.slotN) ap36 us36 (each_u1 _) rfl rfl hb2.go (by assumption) (by rw [hlen]; omega) (by rw [hlen]; omega)) fun _ _ _ => ?_ | exact ag | fail))
          rename_i b' hb' _
          refine ARun.weaken (nx.go b' ((Sub.upd (Sub.refl K) hcK.go).gone hb')) ?_
          exact leK (own_sub hcK.go hb')
    · have e1 : decide ((i : Int) < im.length) = false := by simp; omega
      obtain rfl : i = im.length := by omega
      have hr : R.res im = (im.map R.slotOf, 0) := if_neg (by rw [fi_none fun j y hj => hno.go j y ((List.getElem?_eq_some_iff.1 hj).1) hj]; decide)
      rw [hr, List.take_length]
      rw [List.take_length] at hb
      clear next hr hno
      (repeat' (first | refine wk ?_ | refine wk2 ?_ ?_ | with_reducible refine wkF fun _ _ _ => ?_ | with_reducible intro _ | exact ag | fail))
      exact Fin.done (vs := [ownT b 1 ((im.map R.slotOf).map u1), .s (.int .i64 0)]) ag (sub_ownK hsub hb.go) (Conv.tup (.cons (conv_ownK hsub hb.go (each_u1 _)) (.cons (Conv.refl (sub_ownK hsub hb.go) _) .nil))) ⟨rfl, rfl⟩
  · simp only [List.take_zero, List.map_nil, ownT_nil, ownH_nil]
    exact leK (Sub.refl _)
end Go.Abs
/- What modules export, by definition: an entry is put in its place. -/
namespace Go.Abs
set_option linter.unusedSimpArgs false
set_option linter.unusedVariables false
set_option maxHeartbeats 4000000
open Go.Proofs Go.Nm Go.Wd
set_option linter.unusedVariables false
set_option maxRecDepth 8000
variable {H : Heap}
def putL (e : Ent) : List Ent → List Ent
  | [] => [e]
  | x :: l => if lessS x.nm e.nm then x :: putL e l else e :: x :: l
theorem putL_at (e : Ent) : ∀ (l : List Ent) (i : Nat), (∀ j x, j < i → l[j]? = some x → lessS x.nm e.nm = true) → (∀ x, l[i]? = some x → lessS x.nm e.nm = false) → i ≤ l.length → putL e l = l.take i ++ [e] ++ l.drop i
  | [], i, _, _, h => by simp at h; subst h; rfl
  | x :: l, 0, _, h, _ => by simp [putL, h x rfl]
  | x :: l, i + 1, h, g, hi => by
    unfold putL
    rw [if_pos (h 0 x (by omega) rfl), putL_at e l i (fun j y hj hy => h (j + 1) y (by omega) (by simpa using hy)) (fun y hy => g y (by simpa using hy)) (by simpa using hi)]
    simp
theorem each_ent (l : List Ent) : Each 5 (l.map Ent.enc) := fun e he => by obtain ⟨x, _, rfl⟩ := List.mem_map.1 he; rfl
theorem one_ent (l : List Ent) : ((l.map Ent.enc).flatten).all oneT = true := by
  rw [List.all_eq_true]
  intro t ht
  obtain ⟨r, hr, htr⟩ := List.mem_flatten.1 ht
  obtain ⟨x, _, rfl⟩ := List.mem_map.1 hr
  exact List.all_eq_true.1 (ent_one x) t htr
theorem own_swap {K : Heap} {b c : Nat} {L : List (List TV)} {E : Root} (hb : upd K c E b = none) : ownH (upd K c E) b L = upd (ownH K b L) c E := by
  by_cases h : L = []
  · rw [h, ownH_nil, ownH_nil]
  · have n : b ≠ c := by rintro rfl; rw [upd_self] at hb; cases hb
    rw [ownH_ne' h, ownH_ne' h]
    funext x
    simp only [upd_eq]
    by_cases q : x = c
    · rw [if_neg (by rw [q]; exact n.symm), if_pos q, if_pos q]
    · rw [if_neg q, if_neg q]
theorem own_free {K : Heap} {b c : Nat} {L : List (List TV)} {E : Root} (hc : K c = none) (hb : upd K c E b = none) : ownH K b L c = none := by
  have n : b ≠ c := by rintro rfl; rw [upd_self] at hb; cases hb
  rw [ownH_ne (eq_false n.symm)]; exact hc
theorem put_c (l : List Ent) (e : Ent) (hl : l.length ≤ 100000) (hf : ∀ x ∈ l, few x.nm) (he : few e.nm) (H : Heap) : AC Tryd.prog 29 [.vs 5 (l.map Ent.enc), .agg e.enc] H (fun r H' => r = .vs 5 ((putL e l).map Ent.enc) ∧ H' = H) := by
  refine AC.body Tryd.func29 rfl rfl (n := 36) (res := [.tmp 4]) rfl rfl (by simp) ?_
  simp only [ent]
  have ed : e.enc = [.s (.string e.nm), .s (.string e.md), .s (.int .i64 e.gt), .s (.int .i64 e.ix), .s (.int .i64 e.rf)] := rfl
  have L := fun x hx H => rless_c (H := H) (hf x hx) he
  replace L := later L
  replace ed := later ed
  clear hf he
  (repeat' (first | refine wk ?_ | refine wk2 ?_ ?_ | with_reducible refine wkF fun _ _ _ => ?_ | with_reducible intro _ | exact ag | fail))
  rename_i v hv hvn
  have hsub : Sub H (upd H v (.cells e.enc)) := sb
  generalize hK : upd H v (.cells e.enc) = K at *
  have k1 : K v = some (.cells e.enc) := by rw [← hK]; exact upd_self _ _ _
  clear hK
  obtain ⟨i0, hi0, hp0, hput⟩ : ∃ i0 : Nat, i0 ≤ l.length ∧ (∀ i, i ≤ l.length → noneB (fun x : Ent => !lessS x.nm e.nm) l i → (∀ x, l[i]? = some x → lessS x.nm e.nm = false) → i = i0) ∧ putL e l = l.take i0 ++ [e] ++ l.drop i0 := by
    obtain ⟨i0, h1, h2, h3⟩ : ∃ i0 : Nat, i0 ≤ l.length ∧ noneB (fun x : Ent => !lessS x.nm e.nm) l i0 ∧ (∀ x, l[i0]? = some x → lessS x.nm e.nm = false) := by
      clear L k1 hl
      induction l with
      | nil => exact ⟨0, by simp, .zero, fun x hx => by simp at hx⟩
      | cons y l ih =>
        cases q : lessS y.nm e.nm with
        | false => exact ⟨0, by simp, .zero, fun x hx => by simp at hx; subst hx; exact q⟩
        | true =>
          obtain ⟨i0, h1, h2, h3⟩ := ih
          refine ⟨i0 + 1, by simpa using h1, fun j x hj hx => ?_, fun x hx => h3 x (by simpa using hx)⟩
          cases j with
          | zero => simp at hx; subst hx; simp [q]
          | succ j => exact h2 j x (by omega) (by simpa using hx)
    refine ⟨i0, h1, fun i g1 g2 g3 => ?_, putL_at e l i0 (fun j x hj hx => by simpa using h2 j x hj hx) h3 h1⟩
    rcases Nat.lt_trichotomy i i0 with h | h | h
    · have hx : l[i]? = some l[i] := List.getElem?_eq_getElem (by omega)
      have a := h2 i _ h hx
      have b := g3 _ hx
      simp only [b] at a; cases a
    · exact h
    · have hx : l[i0]? = some l[i0] := List.getElem?_eq_getElem (by omega)
      have a := g2 i0 _ h hx
      have b := h3 _ hx
      simp only [b] at a; cases a
  replace hp0 := later hp0
  replace hput := later hput
  refine ARun.midB ⟨[(0, .vs 5 (l.map Ent.enc)), (3, .s (.pointer (some ⟨v, 0, none⟩))), (4, .nils), (5, .s (.int .i64 i0))], K⟩ ?_ fun k' nx => ?_
  · clear hp0 L
    have hl' := later hl
    clear hl
    have a1 : (0 : Int) ≤ i0 := by omega
    have a2 : (i0 : Int) ≤ l.length := by omega
    (repeat' (first | refine wk ?_ | refine wk2 ?_ ?_ | with_reducible refine wkF fun _ _ _ => ?_ | with_reducible intro _ | exact ag | fail))
    refine ARun.drawTI 8 mixed _ [0, 1, 2, 3, 5] (.alt 4 [1, 2, 5] [] (.alt 6 [0, 1, 2, 3] [] (.alt 7 [0, 1, 2, 3, 5] [] .leaf .nil) .nil) (.alt 6 [0, 1, 2, 3] [] (.alt 4 [1, 2, 5] [] (.alt 7 [0, 1, 2, 3, 5] [] .leaf .nil) .nil) .nil)) (by kernel_rfl) (by kernel_rfl) (by rfl) (by rfl) (fun _ h => h) ?_; simp only [List.extract_toArray, List.extract_eq_take_drop, List.drop_zero, Nat.sub_zero, List.take_succ_cons, List.take_zero, List.size_toArray, List.length_cons, List.length_nil, List.drop_succ_cons, Nat.reduceAdd]
    (repeat' (first | refine wk ?_ | refine wk2 ?_ ?_ | with_reducible refine wkF fun _ _ _ => ?_ | with_reducible intro _ | exact ag | fail))
    all_goals simp only [Nat.sub_zero, ← List.map_take]
    · (repeat' (first | refine wk ?_ | refine wk2 ?_ ?_ | with_reducible refine wkF fun _ _ _ => ?_ | with_reducible intro _ | refine Doing.fresh (oc_append_own0 ap27 us27 (each_ent _) (one_ent _) (by have := hl'.go; simp; omega) (by have := hl'.go; simp; omega)) fun _ _ _ => ?_ | refine Doing.fresh (oc_build1 ap27 (fun _ h => by cases h; rfl) rfl rfl (by decide) (by decide)) fun _ _ _ => ?_ | refine Doing.fresh (oc_append1 ap27 us27 (each_ent _) rfl rfl (fun _ => by assumption) (by assumption) (by have := hl'.go; simp; omega) (by have := hl'.go; simp; omega)) fun _ _ _ => ?_ | exact ag | fail))
      replace ed := ed.go
      have eB : List.take (l.length - i0) (List.drop i0 (List.map Ent.enc l)) = (l.drop i0).map Ent.enc := by rw [← List.map_drop, List.take_of_length_le (by simp)]
      have h4 : (List.map Ent.enc (List.take i0 l) ++ [e.enc]).length = i0 + 1 := by simp; omega
      have h5 : ((l.drop i0).map Ent.enc).length = l.length - i0 := by simp
      have e4 : Each 5 (List.map Ent.enc (List.take i0 l) ++ [e.enc]) := (each_ent _).app (by intro x hx; simp at hx; rw [hx]; rfl)
      simp only [eB]
      rename_i b hb hbn
      clear ed eB
      (repeat' (first | refine wk ?_ | refine wk2 ?_ ?_ | with_reducible refine wkF fun _ _ _ => ?_ | with_reducible intro _ | refine Doing.fresh (oc_append_own ap27 us27 e4 (each_ent _) (fun _ => hb) (srcT_vs _ _ _) (one_ent _) (by have := hl'.go; rw [h4, h5]; omega) (by have := hl'.go; rw [h4, h5]; omega)) fun _ _ _ => ?_ | exact ag | fail))
      rename_i b' hb' hbn'
      have e5 : (List.map Ent.enc (List.take i0 l) ++ [e.enc]) ++ (l.drop i0).map Ent.enc = (putL e l).map Ent.enc := by rw [hput.go]; simp
      rw [e5]
      exact Fin.done (vs := [ownT b' 5 ((putL e l).map Ent.enc)]) ag (sub_ownK hsub (fun _ => hb')) (conv_ownK hsub (fun _ => hb') (each_ent _)) ⟨rfl, rfl⟩
    · (repeat' (first | refine wk ?_ | refine wk2 ?_ ?_ | with_reducible refine wkF fun _ _ _ => ?_ | with_reducible intro _ | refine Doing.fresh (oc_append_own0 ap27 us27 (each_ent _) (one_ent _) (by have := hl'.go; simp; omega) (by have := hl'.go; simp; omega)) fun _ _ _ => ?_ | refine Doing.fresh (oc_build1 ap27 (fun _ h => by cases h; rfl) rfl rfl (by decide) (by decide)) fun _ _ _ => ?_ | exact ag | fail))
      rename_i c hc _ b hb _
      rw [own_swap hb]
      have hf := own_free (L := (l.take i0).map Ent.enc) hc hb
      have hb := nu1 hb
      clear hc
      (repeat' (first | refine wk ?_ | refine wk2 ?_ ?_ | with_reducible refine wkF fun _ _ _ => ?_ | with_reducible intro _ | refine Doing.fresh (oc_append1 ap27 us27 (each_ent _) rfl rfl (fun _ => hb) hf (by have := hl'.go; simp; omega) (by have := hl'.go; simp; omega)) fun _ _ _ => ?_ | exact ag | fail))
      replace ed := ed.go
      have eB : List.take (l.length - i0) (List.drop i0 (List.map Ent.enc l)) = (l.drop i0).map Ent.enc := by rw [← List.map_drop, List.take_of_length_le (by simp)]
      have h4 : (List.map Ent.enc (List.take i0 l) ++ [e.enc]).length = i0 + 1 := by simp; omega
      have h5 : ((l.drop i0).map Ent.enc).length = l.length - i0 := by simp
      have e4 : Each 5 (List.map Ent.enc (List.take i0 l) ++ [e.enc]) := (each_ent _).app (by intro x hx; simp at hx; rw [hx]; rfl)
      simp only [eB]
      rename_i b hb hbn
      clear ed eB
      (repeat' (first | refine wk ?_ | refine wk2 ?_ ?_ | with_reducible refine wkF fun _ _ _ => ?_ | with_reducible intro _ | refine Doing.fresh (oc_append_own ap27 us27 e4 (each_ent _) (fun _ => hb) (srcT_vs _ _ _) (one_ent _) (by have := hl'.go; rw [h4, h5]; omega) (by have := hl'.go; rw [h4, h5]; omega)) fun _ _ _ => ?_ | exact ag | fail))
      rename_i b' hb' hbn'
      have e5 : (List.map Ent.enc (List.take i0 l) ++ [e.enc]) ++ (l.drop i0).map Ent.enc = (putL e l).map Ent.enc := by rw [hput.go]; simp
      rw [e5]
      exact Fin.done (vs := [ownT b' 5 ((putL e l).map Ent.enc)]) ag (sub_ownK hsub (fun _ => hb')) (conv_ownK hsub (fun _ => hb') (each_ent _)) ⟨rfl, rfl⟩
  · refine ARun.rounds (fun i : Nat => ⟨[(0, .vs 5 (l.map Ent.enc)), (3, .s (.pointer (some ⟨v, 0, none⟩))), (4, .nils), (5, .s (.int .i64 i))], K⟩) (fun i => l.length - i) (fun i => i ≤ l.length ∧ noneB (fun x : Ent => !lessS x.nm e.nm) l i) ?_ 0 ⟨by omega, .zero⟩ ?_
    · rintro i ⟨hi, hno⟩ next
      replace hno := later hno
      by_cases hlt : i < l.length
      · have h1 : (i : Int) < l.length := by omega
        have h2 : (0 : Int) ≤ i := by omega
        obtain ⟨x, hx⟩ := at_ hlt
        have hx1 := vget Ent.enc hx
        rw [Ent.enc_def] at hx1
        have hw := w64s (i := i) (by omega)
        have Q := L.go x (List.mem_of_getElem? hx)
        have ed' := ed.go
        cases hb : lessS x.nm e.nm with
        | false =>
          obtain rfl := hp0.go i hi hno.go (fun y hy => by rw [hx] at hy; cases hy; exact hb)
          have hn := nx.go
          rw [hb] at Q
          replace hn := later hn
          rw [ed'] at k1
          clear hx next nx hp0 ed'
          (repeat' (first | refine wk ?_ | refine wk2 ?_ ?_ | with_reducible refine wkF fun _ _ _ => ?_ | with_reducible intro _ | exact ag | fail))
          refine ARun.drawB mixed [([], [0, 1, 2, 3, 4, 5, 6, 7, 8, 9, 10, 11], some 12), ([0, 1, 2, 3, 5, 6, 7, 8, 10], [13], none)] (by kernel_rfl) (by rfl) ?_
          (repeat' (first | refine wk ?_ | refine wk2 ?_ ?_ | with_reducible refine wkF fun _ _ _ => ?_ | with_reducible intro _ | refine Calling.eq (Q _) ?_ | exact ag | fail))
          exact ARun.weaken hn.go (leK (Sub.refl _))
        | true =>
          have nx := next.go (i + 1) ⟨by omega, hno.go.succ hx (by simp [hb])⟩ (by omega)
          rw [hb] at Q
          rw [ed'] at k1
          clear hx next hp0 ed'
          (repeat' (first | refine wk ?_ | refine wk2 ?_ ?_ | with_reducible refine wkF fun _ _ _ => ?_ | with_reducible intro _ | exact ag | fail))
          refine ARun.drawB mixed [([], [0, 1, 2, 3, 4, 5, 6, 7, 8, 9, 10, 11], some 12), ([0, 1, 2, 3, 5, 6, 7, 8, 10], [13], none)] (by kernel_rfl) (by rfl) ?_
          (repeat' (first | refine wk ?_ | refine wk2 ?_ ?_ | with_reducible refine wkF fun _ _ _ => ?_ | with_reducible intro _ | refine Calling.eq (Q _) ?_ | exact ag | fail))
          exact ARun.weaken nx (leK (Sub.refl _))
      · have h1 : decide ((i : Int) < l.length) = false := by simp; omega
        obtain rfl := hp0.go i hi hno.go (fun y hy => by rw [List.getElem?_eq_none (by omega)] at hy; cases hy)
        have hn := nx.go
        replace hn := later hn
        clear next nx hp0
        (repeat' (first | refine wk ?_ | refine wk2 ?_ ?_ | with_reducible refine wkF fun _ _ _ => ?_ | with_reducible intro _ | exact ag | fail))
        refine ARun.drawB mixed [([], [0, 1, 2, 3, 4, 5, 6, 7, 8, 9, 10, 11], some 12), ([0, 1, 2, 3, 5, 6, 7, 8, 10], [13], none)] (by kernel_rfl) (by rfl) ?_
        (repeat' (first | refine wk ?_ | refine wk2 ?_ ?_ | with_reducible refine wkF fun _ _ _ => ?_ | with_reducible intro _ | exact ag | fail))
        exact ARun.weaken hn.go (leK (Sub.refl _))
    · exact leK (Sub.refl _)
end Go.Abs
/- What modules export, by definition: a module is added. -/
namespace Go.Abs
set_option linter.unusedSimpArgs false
set_option linter.unusedVariables false
set_option maxHeartbeats 4000000
open Go.Proofs Go.Nm Go.Wd
set_option linter.unusedVariables false
set_option maxRecDepth 8000
variable {H : Heap}
def dupB (l : List ByteArray) : Bool := !decide l.Nodup
def samB (x : ByteArray) (l : List ByteArray) : Bool := l.any fun y => x.toList == y.toList
theorem dup_snoc {l : List ByteArray} {i : Nat} {x : ByteArray} (h : l[i]? = some x) : dupB (l.take (i + 1)) = (dupB (l.take i) || samB x (l.take i)) := by
  rw [List.take_add_one, h, Option.toList_some]
  unfold dupB samB
  generalize l.take i = m
  have : (m ++ [x]).Nodup ↔ m.Nodup ∧ x ∉ m := by
    rw [List.nodup_append]
    simp only [List.nodup_cons, List.not_mem_nil, not_false_eq_true, List.nodup_nil, and_self, true_and, List.mem_singleton, ne_eq, forall_eq]
    constructor
    · rintro ⟨h1, h2⟩; exact ⟨h1, fun q => h2 x q rfl⟩
    · rintro ⟨h1, h2⟩; exact ⟨h1, fun y hy e => h2 (e ▸ hy)⟩
  have e2 : (m.any fun y => x.toList == y.toList) = true ↔ x ∈ m := by
    rw [List.any_eq_true]
    constructor
    · rintro ⟨y, hy, h⟩; rw [str_eq, decide_eq_true_eq] at h; exact h ▸ hy
    · intro h; exact ⟨x, h, by simp⟩
  rw [Bool.eq_iff_iff, Bool.or_eq_true, e2]
  simp only [Bool.not_eq_true', decide_eq_false_iff_not, this]
  constructor
  · intro h
    by_cases g : x ∈ m
    · exact .inr g
    · exact .inl fun hn => h ⟨hn, g⟩
  · rintro (h | h) ⟨g1, g2⟩
    · exact h g1
    · exact g2 h
theorem hit_snoc {x : ByteArray} {l : List ByteArray} {i : Nat} {y : ByteArray} (h : l[i]? = some y) : samB x (l.take (i + 1)) = (samB x (l.take i) || (x.toList == y.toList)) := by
  rw [List.take_add_one, h, Option.toList_some]; simp [samB]
theorem any_snoc {α : Type} {p : α → Bool} {l : List α} {i : Nat} {x : α} (h : l[i]? = some x) : (l.take (i + 1)).any p = ((l.take i).any p || p x) := by
  rw [List.take_add_one, h, Option.toList_some]; simp
def RSym.has (R : RSym) (md : ByteArray) : Bool := decide (0 ≤ fi (fun s : ByteArray => s.toList == md.toList) R.mods)
def RSym.plc (R : RSym) (k : ByteArray) : Int := fi (fun e => e.nm.toList == k.toList) R.l
def RSym.thr (R : RSym) (k : ByteArray) : Bool := decide (0 ≤ R.plc k)
def RSym.addE (R : RSym) (md : ByteArray) (gt : Int) (ex : List ByteArray) : Int :=
  if badN md || decide (0 ≤ fi badN ex) then 6
  else if decide (gt < 0) || (decide (7 < gt) || (decide ((8 : Int) < ex.length) || dupB ex)) then 2
  else if R.has md || ex.any R.thr then 9 else 0
def putN (md : ByteArray) (gt : Int) (ex : List ByteArray) (l : List Ent) : List Ent := (ex.zipIdx.map fun p => (⟨p.1, md, gt, (p.2 : Nat), 0⟩ : Ent)).foldl (fun l e => putL e l) l
theorem putN_snoc {md : ByteArray} {gt : Int} {ex : List ByteArray} {l : List Ent} {i : Nat} {x : ByteArray} (h : ex[i]? = some x) : putN md gt (ex.take (i + 1)) l = putL ⟨x, md, gt, (i : Nat), 0⟩ (putN md gt (ex.take i) l) := by
  have hi : i < ex.length := (List.getElem?_eq_some_iff.1 h).1
  unfold putN
  rw [List.take_add_one, h, Option.toList_some, List.zipIdx_append, List.map_append, List.foldl_append]
  simp [List.length_take, Nat.min_eq_left (Nat.le_of_lt hi)]
theorem putL_len (e : Ent) : ∀ l : List Ent, (putL e l).length = l.length + 1
  | [] => rfl
  | x :: l => by unfold putL; split <;> simp [putL_len e l]
theorem putN_len {md : ByteArray} {gt : Int} {ex : List ByteArray} {l : List Ent} : ∀ {i : Nat}, i ≤ ex.length → (putN md gt (ex.take i) l).length = l.length + i
  | 0, _ => rfl
  | i + 1, h => by
    rw [putN_snoc (List.getElem?_eq_getElem (by omega)), putL_len, putN_len (by omega)]; omega
theorem putL_mem {e x : Ent} : ∀ {l : List Ent}, x ∈ putL e l ↔ x = e ∨ x ∈ l
  | [] => by simp [putL]
  | y :: l => by
    unfold putL; split
    · rw [List.mem_cons, putL_mem, List.mem_cons]
      constructor
      · rintro (h | h | h); exact .inr (.inl h); exact .inl h; exact .inr (.inr h)
      · rintro (h | h | h); exact .inr (.inl h); exact .inl h; exact .inr (.inr h)
    · rw [List.mem_cons]
theorem putN_few {md : ByteArray} {gt : Int} {ex : List ByteArray} {l : List Ent} (hl : ∀ x ∈ l, few x.nm) (he : ∀ s ∈ ex, few s) : ∀ {i : Nat}, i ≤ ex.length → ∀ x ∈ putN md gt (ex.take i) l, few x.nm
  | 0, _ => hl
  | i + 1, h => by
    rw [putN_snoc (List.getElem?_eq_getElem (by omega))]
    intro x hx
    rcases putL_mem.1 hx with rfl | hx
    · exact he _ (List.getElem_mem (by omega))
    · exact putN_few hl he (by omega) x hx
def RSym.add (R : RSym) (md : ByteArray) (gt : Int) (ex : List ByteArray) : RSym :=
  if R.addE md gt ex = 0 then ⟨R.mods ++ [md], putN md gt ex R.l⟩ else R
theorem RSym.add_no {R : RSym} {md : ByteArray} {gt : Int} {ex : List ByteArray} (h : R.addE md gt ex ≠ 0) : R.add md gt ex = R := if_neg h
structure RSym.fit (R : RSym) : Prop where
  ml : R.mods.length ≤ 10000
  ll : R.l.length ≤ 10000
  nf : ∀ e ∈ R.l, few e.nm
theorem RSym.fit.ok {R : RSym} (h : R.fit) : R.ok := ⟨by have := h.ml; omega, by have := h.ll; omega⟩
set_option maxHeartbeats 2000000 in
theorem radd_c (R : RSym) (hR : R.fit) {md : ByteArray} (hmd : few md) {gt : Int} {ex : List ByteArray} (hex : ∀ s ∈ ex, few s) (hl : ex.length ≤ 1000) (H : Heap) :
    AC Tryd.prog 10 [R.tv, .s (.string md), .s (.int .i64 gt), .vs 1 (ex.map s1)] H (fun r H' => r = .tup [(R.add md gt ex).tv, .s (.int .i64 (R.addE md gt ex))] ∧ H' = H) := by
  refine AC.body Tryd.func10 rfl rfl (n := 116) (res := [.cell 8 29, .tmp 9]) rfl rfl (by simp) ?_
  simp only [ent]
  have B := fun H => rCheck_c (H := H) hmd
  have C := fun x hx H => rCheck_c (H := H) (hex x hx)
  have T := fun H => rhas_c R hR.ok md H
  have F := fun x H => place_c R hR.ok x H
  have q0 : (chk md != 0) = badN md := rfl
  have hA : R.addE md gt ex = if badN md || decide (0 ≤ fi badN ex) then 6
    else if decide (gt < 0) || (decide (7 < gt) || (decide ((8 : Int) < ex.length) || dupB ex)) then 2
    else if R.has md || ex.any R.thr then 9 else 0 := rfl
  replace hA := later hA
  replace hR := later hR
  replace C := later C
  replace T := later T
  replace F := later F
  simp only [RSym.tv_def]
  cases q : badN md with
  | true =>
    rw [q] at q0
    have hA' := hA.go
    rw [q, Bool.true_or, if_pos rfl] at hA'
    rw [RSym.add_no (R := R) (by rw [hA']; decide), hA']
    clear hA' q
    (repeat' (first | refine wk ?_ | refine wk2 ?_ ?_ | with_reducible refine wkF fun _ _ _ => ?_ | with_reducible intro _ | refine Calling.eq (B _) ?_ | exact ag | fail))
    exact fin0
  | false =>
    rw [q] at q0
    (repeat' (first | refine wk ?_ | refine wk2 ?_ ?_ | with_reducible refine wkF fun _ _ _ => ?_ | with_reducible intro _ | refine Calling.eq (B _) ?_ | exact ag | fail))
    clear B q0
    rename_i v hv hvn w hw hwn
    simp only [q, Bool.false_or] at hA
    refine ARun.rounds (fun i : Nat => ⟨[(1, .s (.string md)), (2, .s (.int .i64 gt)), (3, .vs 1 (ex.map s1)), (4, .s (.pointer (some ⟨v, 0, none⟩))), (8, .s (.pointer (some ⟨w, 0, none⟩))), (9, .s (.int .i64 0)), (10, .s (.bool (dupB (ex.take i)))), (11, .s (.int .i64 i))], upd (upd H v (.cells [.vs 1 (R.mods.map s1), .vs 5 (R.l.map Ent.enc)])) w (.cells [.nils, .nils])⟩)
      (fun i => ex.length - i) (fun i => i ≤ ex.length ∧ noneB badN ex i) ?_ 0 ⟨by omega, .zero⟩ ?_
    · rintro i ⟨hi, hno⟩ next
      replace hno := later hno
      by_cases hlt : i < ex.length
      · have e1 : (i : Int) < ex.length := by omega
        have e2 : (0 : Int) ≤ i := by omega
        obtain ⟨x, hx⟩ := at_ hlt
        have hx1 := vget s1 hx
        rw [s1_def] at hx1
        have hw6 := w64s (i := i) (by omega)
        have Q := C.go x (List.mem_of_getElem? hx)
        have qx : (chk x != 0) = badN x := rfl
        cases qb : badN x with
        | true =>
          rw [qb] at qx
          have hA' := hA.go
          rw [fi_some hx qb hno.go, if_pos (by simp)] at hA'
          rw [RSym.add_no (R := R) (by rw [hA']; decide), hA']
          clear hA' qb hx next
          generalize dupB (ex.take i) = cur at *
          (repeat' (first | refine wk ?_ | refine wk2 ?_ ?_ | with_reducible refine wkF fun _ _ _ => ?_ | with_reducible intro _ | refine Calling.eq (Q _) ?_ | exact ag | fail))
          exact fin0
        | false =>
          rw [qb] at qx
          have nx := next.go (i + 1) ⟨by omega, hno.go.succ hx qb⟩ (by omega)
          rw [dup_snoc hx] at nx
          replace nx := later nx
          clear qb next
          generalize dupB (ex.take i) = d0 at *
          (repeat' (first | refine wk ?_ | refine wk2 ?_ ?_ | with_reducible refine wkF fun _ _ _ => ?_ | with_reducible intro _ | refine Calling.eq (Q _) ?_ | exact ag | fail))
          clear Q qx
          refine ARun.rounds (fun k : Nat => ⟨[(1, .s (.string md)), (2, .s (.int .i64 gt)), (3, .vs 1 (ex.map s1)), (4, .s (.pointer (some ⟨v, 0, none⟩))), (8, .s (.pointer (some ⟨w, 0, none⟩))), (9, .s (.int .i64 0)), (10, .s (.bool (d0 || samB x (ex.take k)))), (11, .s (.int .i64 i)), (12, .s (.int .i64 k))], upd (upd H v (.cells [.vs 1 (R.mods.map s1), .vs 5 (R.l.map Ent.enc)])) w (.cells [.nils, .nils])⟩)
            (fun k => i - k) (fun k => k ≤ i) ?_ 0 (by omega) ?_
          · rintro k hk next
            by_cases hlk : k < i
            · have g1 : (k : Int) < i := by omega
              have g2 : (0 : Int) ≤ k := by omega
              have g3 : (k : Int) < ex.length := by omega
              obtain ⟨y, hy⟩ := at_ (l := ex) (i := k) (by omega)
              have hy1 := vget s1 hy
              rw [s1_def] at hy1
              have hk6 := w64s (i := k) (by omega)
              have nk := next.go (k + 1) (by omega) (by omega)
              rw [hit_snoc hy, ← Bool.or_assoc] at nk
              replace nk := later nk
              clear next hy hx nx
              generalize hc : (d0 || samB x (ex.take k)) = cur at *
              clear hc
              cases cur
              · rw [Bool.false_or] at nk
                (repeat' (first | refine wk ?_ | refine wk2 ?_ ?_ | with_reducible refine wkF fun _ _ _ => ?_ | with_reducible intro _ | exact ag | fail))
                refine ARun.drawTI 12 mixed _ [0, 1, 2, 3, 4, 5, 6, 7, 8, 9, 10, 11] .leaf (by kernel_rfl) (by kernel_rfl) (by rfl) (by rfl) (fun _ h => h) ?_; simp only [List.extract_toArray, List.extract_eq_take_drop, List.drop_zero, Nat.sub_zero, List.take_succ_cons, List.take_zero, List.size_toArray, List.length_cons, List.length_nil, List.drop_succ_cons, Nat.reduceAdd]
                (repeat' (first | refine wk ?_ | refine wk2 ?_ ?_ | with_reducible refine wkF fun _ _ _ => ?_ | with_reducible intro _ | exact ag | fail))
                exact ARun.weaken nk.go (leK (Sub.refl _))
              · rw [Bool.true_or] at nk
                (repeat' (first | refine wk ?_ | refine wk2 ?_ ?_ | with_reducible refine wkF fun _ _ _ => ?_ | with_reducible intro _ | exact ag | fail))
                refine ARun.drawTI 12 mixed _ [0, 1, 2, 3, 4, 5, 6, 7, 8, 9, 10, 11] .leaf (by kernel_rfl) (by kernel_rfl) (by rfl) (by rfl) (fun _ h => h) ?_; simp only [List.extract_toArray, List.extract_eq_take_drop, List.drop_zero, Nat.sub_zero, List.take_succ_cons, List.take_zero, List.size_toArray, List.length_cons, List.length_nil, List.drop_succ_cons, Nat.reduceAdd]
                (repeat' (first | refine wk ?_ | refine wk2 ?_ ?_ | with_reducible refine wkF fun _ _ _ => ?_ | with_reducible intro _ | exact ag | fail))
                exact ARun.weaken nk.go (leK (Sub.refl _))
            · have g1 : decide ((k : Int) < i) = false := by simp; omega
              obtain rfl : k = i := by omega
              clear next hx hx1
              generalize (d0 || samB x (ex.take k)) = cur at *
              (repeat' (first | refine wk ?_ | refine wk2 ?_ ?_ | with_reducible refine wkF fun _ _ _ => ?_ | with_reducible intro _ | exact ag | fail))
              exact ARun.weaken nx.go (leK (Sub.refl _))
          · have e0 : (d0 || samB x (ex.take 0)) = d0 := by simp [samB]
            rw [e0]
            exact leK (Sub.refl _)
      · have e1 : decide ((i : Int) < ex.length) = false := by simp; omega
        obtain rfl : i = ex.length := by omega
        have hA' := hA.go
        rw [fi_none fun j y hj => hno.go j y ((List.getElem?_eq_some_iff.1 hj).1) hj, if_neg (by decide)] at hA'
        clear hA hno next
        rw [List.take_length]
        cases qa : decide (gt < 0) || (decide (7 < gt) || (decide ((8 : Int) < ex.length) || dupB ex)) with
        | true =>
          rw [qa, if_pos rfl] at hA'
          rw [RSym.add_no (R := R) (by rw [hA']; decide), hA']
          clear hA'
          generalize dupB ex = d0 at *
          (repeat' (first | refine wk ?_ | refine wk2 ?_ ?_ | with_reducible refine wkF fun _ _ _ => ?_ | with_reducible intro _ | exact ag | fail))
          all_goals first | (exact fin0) | (exfalso; simp_all; done)
        | false =>
          rw [qa, if_neg (by decide)] at hA'
          replace hA' := later hA'
          simp only [Bool.or_eq_false_iff] at qa
          obtain ⟨qa, qb, qc, qd⟩ := qa
          rw [qd]
          clear qd
          have T' := T.go
          rw [RSym.tv_def] at T'
          have eh : R.has md = decide (0 ≤ fi (fun s : ByteArray => s.toList == md.toList) R.mods) := rfl
          rw [← eh] at T'
          clear T eh
          (repeat' (first | refine wk ?_ | refine wk2 ?_ ?_ | with_reducible refine wkF fun _ _ _ => ?_ | with_reducible intro _ | refine Calling.eq (T' _) ?_ | exact ag | fail))
          clear T'
          refine ARun.rounds (fun i : Nat => ⟨[(1, .s (.string md)), (2, .s (.int .i64 gt)), (3, .vs 1 (ex.map s1)), (4, .s (.pointer (some ⟨v, 0, none⟩))), (8, .s (.pointer (some ⟨w, 0, none⟩))), (9, .s (.int .i64 0)), (13, .s (.bool (R.has md || (ex.take i).any R.thr))), (14, .s (.int .i64 i))], upd (upd H v (.cells [.vs 1 (R.mods.map s1), .vs 5 (R.l.map Ent.enc)])) w (.cells [.nils, .nils])⟩)
            (fun i => ex.length - i) (fun i => i ≤ ex.length) ?_ 0 (by omega) ?_
          · rintro i hi next
            by_cases hlt : i < ex.length
            · have e1 : (i : Int) < ex.length := by omega
              have e2 : (0 : Int) ≤ i := by omega
              obtain ⟨x, hx⟩ := at_ hlt
              have hx1 := vget s1 hx
              rw [s1_def] at hx1
              have hw6 := w64s (i := i) (by omega)
              have nx := next.go (i + 1) (by omega) (by omega)
              rw [any_snoc hx, ← Bool.or_assoc] at nx
              replace nx := later nx
              have F' := F.go x
              have et : R.thr x = decide (0 ≤ fi (fun e => e.nm.toList == x.toList) R.l) := rfl
              rw [RSym.tv_def] at F'
              generalize R.thr x = t0 at *
              clear next hx F
              generalize (R.has md || (ex.take i).any R.thr) = cur at *
              generalize fi (fun e : Ent => e.nm.toList == x.toList) R.l = n0 at *
              cases cur
              · rw [Bool.false_or] at nx
                cases t0
                · replace et := et.symm
                  (repeat' (first | refine wk ?_ | refine wk2 ?_ ?_ | with_reducible refine wkF fun _ _ _ => ?_ | with_reducible intro _ | exact ag | fail))
                  refine ARun.drawTI 10 mixed _ [0, 1, 2, 3, 4, 5, 6] (.alt 7 [0, 3, 4, 5] [8, 9] .leaf .nil) (by kernel_rfl) (by kernel_rfl) (by rfl) (by rfl) (fun _ h => h) ?_; simp only [List.extract_toArray, List.extract_eq_take_drop, List.drop_zero, Nat.sub_zero, List.take_succ_cons, List.take_zero, List.size_toArray, List.length_cons, List.length_nil, List.drop_succ_cons, Nat.reduceAdd]
                  (repeat' (first | refine wk ?_ | refine wk2 ?_ ?_ | with_reducible refine wkF fun _ _ _ => ?_ | with_reducible intro _ | refine Calling.eq (F' _) ?_ | exact ag | fail))
                  exact ARun.weaken nx.go (leK (Sub.refl _))
                · replace et := et.symm
                  (repeat' (first | refine wk ?_ | refine wk2 ?_ ?_ | with_reducible refine wkF fun _ _ _ => ?_ | with_reducible intro _ | exact ag | fail))
                  refine ARun.drawTI 10 mixed _ [0, 1, 2, 3, 4, 5, 6] (.alt 7 [0, 3, 4, 5] [8, 9] .leaf .nil) (by kernel_rfl) (by kernel_rfl) (by rfl) (by rfl) (fun _ h => h) ?_; simp only [List.extract_toArray, List.extract_eq_take_drop, List.drop_zero, Nat.sub_zero, List.take_succ_cons, List.take_zero, List.size_toArray, List.length_cons, List.length_nil, List.drop_succ_cons, Nat.reduceAdd]
                  (repeat' (first | refine wk ?_ | refine wk2 ?_ ?_ | with_reducible refine wkF fun _ _ _ => ?_ | with_reducible intro _ | refine Calling.eq (F' _) ?_ | exact ag | fail))
                  exact ARun.weaken nx.go (leK (Sub.refl _))
              · rw [Bool.true_or] at nx
                clear et
                (repeat' (first | refine wk ?_ | refine wk2 ?_ ?_ | with_reducible refine wkF fun _ _ _ => ?_ | with_reducible intro _ | exact ag | fail))
                refine ARun.drawTI 10 mixed _ [0, 1, 2, 3, 4, 5, 6] (.alt 7 [0, 3, 4, 5] [8, 9] .leaf .nil) (by kernel_rfl) (by kernel_rfl) (by rfl) (by rfl) (fun _ h => h) ?_; simp only [List.extract_toArray, List.extract_eq_take_drop, List.drop_zero, Nat.sub_zero, List.take_succ_cons, List.take_zero, List.size_toArray, List.length_cons, List.length_nil, List.drop_succ_cons, Nat.reduceAdd]
                (repeat' (first | refine wk ?_ | refine wk2 ?_ ?_ | with_reducible refine wkF fun _ _ _ => ?_ | with_reducible intro _ | refine Calling.eq (F' _) ?_ | exact ag | fail))
                exact ARun.weaken nx.go (leK (Sub.refl _))
            · have e1 : decide ((i : Int) < ex.length) = false := by simp; omega
              obtain rfl : i = ex.length := by omega
              rw [List.take_length]
              clear next F
              have hA2 := hA'.go
              cases qe : (R.has md || ex.any R.thr) with
              | true =>
                rw [qe, if_pos rfl] at hA2
                rw [RSym.add_no (R := R) (by rw [hA2]; decide), hA2]
                clear hA2 qe
                (repeat' (first | refine wk ?_ | refine wk2 ?_ ?_ | with_reducible refine wkF fun _ _ _ => ?_ | with_reducible intro _ | exact ag | fail))
                exact fin0
              | false =>
                rw [qe, if_neg (by decide)] at hA2
                have hn : R.add md gt ex = ⟨R.mods ++ [md], putN md gt ex R.l⟩ := if_pos hA2
                rw [hA2, hn]
                clear hA2 qe hA' hn
                have hb := hR.go
                have hm1 := later hb.ml
                have hm2 := later hb.ll
                have hm3 := later hb.nf
                clear hb hR
                (repeat' (first | refine wk ?_ | refine wk2 ?_ ?_ | with_reducible refine wkF fun _ _ _ => ?_ | with_reducible intro _ | refine Doing.fresh (oc_append_own0 ap23 us23 (each_s1 _) (one_s1 _) (by have := hm1.go; simp; omega) (by have := hm1.go; simp; omega)) fun _ _ _ => ?_ | refine Doing.fresh (oc_build1 ap23 (fun _ h => by cases h; rfl) rfl rfl (by decide) (by decide)) fun _ _ _ => ?_ | refine Doing.fresh (oc_append1 (e := s1 md) ap23 us23 (each_s1 _) rfl rfl (fun _ => by assumption) (by assumption) (by have := hm1.go; simp; omega) (by have := hm1.go; simp; omega)) fun _ _ _ => ?_ | exact ag | fail))
                rename_i x hx hxn b0 _ _ c _ _ b hb hbn
                have hrow : (R.mods.map s1 ++ [s1 md]) = (R.mods ++ [md]).map s1 := by simp
                rw [hrow, own_swap hb, upd_upd]
                generalize hrs : (R.mods ++ [md]).map s1 = rows at *
                have hE : Each 1 rows := by rw [← hrs]; exact each_s1 _
                have hne : rows ≠ [] := by rw [← hrs]; simp
                clear hrow hrs
                replace hE := later hE
                replace hne := later hne
                refine ARun.rounds (fun i : Nat => ⟨[(1, .s (.string md)), (2, .s (.int .i64 gt)), (3, .vs 1 (ex.map s1)), (8, .s (.pointer (some ⟨w, 0, none⟩))), (9, .s (.int .i64 0)), (15, .s (.pointer (some ⟨x, 0, none⟩))), (17, .s (.int .i64 i))],
                    upd (ownH (upd (upd H v (.cells [.vs 1 (R.mods.map s1), .vs 5 (R.l.map Ent.enc)])) w (.cells [.nils, .nils])) b rows) x (.cells [ownT b 1 rows, .vs 5 ((putN md gt (ex.take i) R.l).map Ent.enc)])⟩)
                  (fun i => ex.length - i) (fun i => i ≤ ex.length) ?_ 0 (by omega) ?_
                · rintro i hi next
                  by_cases hlt : i < ex.length
                  · have e1 : (i : Int) < ex.length := by omega
                    have e2 : (0 : Int) ≤ i := by omega
                    obtain ⟨y, hy⟩ := at_ hlt
                    have hy1 := vget s1 hy
                    rw [s1_def] at hy1
                    have hw6 := w64s (i := i) (by omega)
                    have nx := next.go (i + 1) (by omega) (by omega)
                    rw [putN_snoc hy] at nx
                    have Q := put_c (putN md gt (ex.take i) R.l) ⟨y, md, gt, (i : Nat), 0⟩ (by rw [putN_len hi]; have := hm2.go; omega) (putN_few hm3.go hex hi) (hex y (List.mem_of_getElem? hy))
                    rw [Ent.enc_def] at Q
                    simp only [] at Q
                    generalize putN md gt (ex.take i) R.l = l1 at *
                    replace nx := later nx
                    clear next hy
                    (repeat' (first | refine wk ?_ | refine wk2 ?_ ?_ | with_reducible refine wkF fun _ _ _ => ?_ | with_reducible intro _ | exact ag | fail))
                    refine ARun.drawT mixed [0, 1, 2, 3, 4, 5, 6, 7, 8, 9] (.alt 10 [0, 2, 3, 4, 5, 6, 7, 8] [11] (.alt 12 [] [] .leaf .nil) .nil) (by kernel_rfl) (by rfl) ?_
                    (repeat' (first | refine wk ?_ | refine wk2 ?_ ?_ | with_reducible refine wkF fun _ _ _ => ?_ | with_reducible intro _ | refine Calling.eq (Q _) ?_ | exact ag | fail))
                    exact ARun.weaken nx.go (leK (Sub.refl _))
                  · have e1 : decide ((i : Int) < ex.length) = false := by simp; omega
                    obtain rfl : i = ex.length := by omega
                    rw [List.take_length]
                    clear next
                    generalize putN md gt ex R.l = l1 at *
                    (repeat' (first | refine wk ?_ | refine wk2 ?_ ?_ | with_reducible refine wkF fun _ _ _ => ?_ | with_reducible intro _ | exact ag | fail))
                    have f1 : (w = x) = False ∧ (x = w) = False := hxn w (by simp [upd_eq])
                    have f2 : (b = x) = False := eq_false fun e => by rw [e, upd_self] at hb; cases hb
                    have f3 : (b = w) = False := eq_false (none_at hb (p := w) (r := .cells [.nils, .nils]) (by simp [upd_eq, f1.1])).symm
                    have hn : H b = none := nu3 hb
                    have hs : Sub H (upd (upd (ownH (upd (upd H v (.cells [.vs 1 (R.mods.map s1), .vs 5 (R.l.map Ent.enc)])) w (.cells [.nils, .nils])) b rows) x (.cells [ownT b 1 rows, .vs 5 (l1.map Ent.enc)])) w (.cells [ownT b 1 rows, .vs 5 (l1.map Ent.enc)])) := by
                      rw [ownH_ne' hne.go]
                      intro p r hp
                      have p1 : p ≠ v := by rintro rfl; rw [hv] at hp; cases hp
                      have p2 : p ≠ w := by rintro rfl; rw [nu1 hw] at hp; cases hp
                      have p3 : p ≠ x := by rintro rfl; rw [nu2 hx] at hp; cases hp
                      have p4 : p ≠ b := by rintro rfl; rw [hn] at hp; cases hp
                      simp only [upd_eq, if_neg p1, if_neg p2, if_neg p3, if_neg p4]; exact hp
                    refine Fin.done (vs := [.agg [ownT b 1 rows, .vs 5 (l1.map Ent.enc)], .s (.int .i64 0)]) ag hs (Conv.tup (.cons (Conv.agg (.cons (conv_own hs (.inr ?_) hn hE.go) (.cons (Conv.refl hs _) .nil))) (.cons (Conv.refl hs _) .nil))) ⟨rfl, rfl⟩
                    rw [ownH_ne' hne.go]
                    simp only [upd_eq, f2, f3, if_false, if_true]
                · exact leK (Sub.refl _)
          · have e0 : (R.has md || (ex.take 0).any R.thr) = R.has md := by simp
            rw [e0]
            exact leK (Sub.refl _)
    · have e0 : dupB (ex.take 0) = false := rfl
      rw [e0]
      exact leK (Sub.refl _)
end Go.Abs
/- What modules export: the program's table, and the document's. -/
namespace Go.Abs
set_option linter.unusedSimpArgs false
set_option linter.unusedVariables false
open Go.Proofs Go.Nm Go.Wd
set_option linter.unusedVariables false
theorem dec_iff {p : Prop} {i : Decidable p} : (@decide p i = true) ↔ p := ⟨@of_decide_eq_true p i, @decide_eq_true p i⟩
theorem fi_any {α : Type} (p : α → Bool) (l : List α) : decide (0 ≤ fi p l) = l.any p := by
  rcases fi_find p l with ⟨e1, e2⟩ | ⟨n, x, e1, hx, e2⟩
  · rw [e1]
    have : l.any p = false := by
      rw [List.any_eq_false]; intro x hx; simpa using List.find?_eq_none.1 e2 x hx
    rw [this]; rfl
  · rw [e1]
    have : l.any p = true := List.any_eq_true.2 ⟨x, List.mem_of_find?_eq_some e2, List.find?_some e2⟩
    rw [this]; simp
structure Twin (S : Sym) (R : RSym) : Prop where
  mods : S.mods = R.mods
  perm : R.l.Perm (S.ents.map (·.2))
  keys : ∀ p ∈ S.ents, p.1 = p.2.nm
  nodup : (S.ents.map (·.1)).Nodup
theorem getE_some {k : ByteArray} {e : Ent} : ∀ {l : List (ByteArray × Ent)}, (l.map (·.1)).Nodup → (getE k l = some e ↔ (k, e) ∈ l)
  | [], _ => by simp [getE]
  | (a, u) :: l, h => by
    simp only [List.map_cons, List.nodup_cons] at h
    have ih := getE_some (k := k) (e := e) h.2
    simp only [getE, List.mem_cons, Prod.mk.injEq]
    by_cases q : k = a
    · rw [if_pos q]
      constructor
      · intro g; cases g; exact .inl ⟨q, rfl⟩
      · rintro (⟨_, rfl⟩ | g)
        · rfl
        · exact absurd (List.mem_map.2 ⟨_, g, rfl⟩) (q ▸ h.1)
    · rw [if_neg q, ih]
      constructor
      · exact .inr
      · rintro (⟨g, _⟩ | g)
        · exact absurd g q
        · exact g
section
variable {S : Sym} {R : RSym}
theorem Twin.mem (h : Twin S R) {e : Ent} : e ∈ R.l ↔ (e.nm, e) ∈ S.ents := by
  rw [h.perm.mem_iff, List.mem_map]
  constructor
  · rintro ⟨⟨k, u⟩, hp, rfl⟩
    have := h.keys _ hp
    simp only [] at this
    rw [← this]; exact hp
  · intro hp; exact ⟨_, hp, rfl⟩
theorem Twin.names (h : Twin S R) : (R.l.map (·.nm)).Nodup := by
  have h2 : (S.ents.map (·.1)) = (S.ents.map (·.2)).map (·.nm) := by
    rw [List.map_map]; exact List.map_congr_left fun p hp => h.keys p hp
  have h1 := h.nodup
  rw [h2] at h1
  exact ((h.perm.map _).nodup_iff).2 h1
theorem find_some {l : List Ent} (hn : (l.map (·.nm)).Nodup) {k : ByteArray} {e : Ent} : l.find? (fun e => e.nm.toList == k.toList) = some e ↔ e ∈ l ∧ e.nm = k := by
  induction l with
  | nil => simp
  | cons x l ih =>
    simp only [List.map_cons, List.nodup_cons] at hn
    rw [List.find?_cons]
    by_cases q : x.nm = k
    · rw [str_eq, decide_eq_true q]
      simp only [Option.some.injEq, List.mem_cons]
      constructor
      · rintro rfl; exact ⟨.inl rfl, q⟩
      · rintro ⟨rfl | g, h2⟩
        · rfl
        · exact absurd (List.mem_map.2 ⟨e, g, h2.trans q.symm⟩) hn.1
    · rw [str_eq, decide_eq_false q, ih hn.2]
      simp only [List.mem_cons]
      constructor
      · rintro ⟨g, h2⟩; exact ⟨.inr g, h2⟩
      · rintro ⟨rfl | g, h2⟩
        · exact absurd h2 q
        · exact ⟨g, h2⟩
theorem Twin.get (h : Twin S R) (k : ByteArray) : R.get k = getE k S.ents := by
  apply Option.ext
  intro e
  unfold RSym.get
  rw [find_some h.names, getE_some h.nodup, h.mem]
  constructor
  · rintro ⟨h1, rfl⟩; exact h1
  · intro h1
    have := h.keys _ h1
    exact ⟨this ▸ h1, this.symm⟩
theorem Twin.thr (h : Twin S R) (k : ByteArray) : R.thr k = (getE k S.ents).isSome := by
  rw [← h.get]
  unfold RSym.thr RSym.plc RSym.get
  rcases fi_find (fun e : Ent => e.nm.toList == k.toList) R.l with ⟨e1, e2⟩ | ⟨n, x, e1, hx, e2⟩ <;> rw [e1, e2] <;> simp
theorem Twin.has (h : Twin S R) (md : ByteArray) : R.has md = inB md S.mods := by
  unfold RSym.has inB
  rw [fi_any, h.mods, Bool.eq_iff_iff, List.any_eq_true]
  constructor
  · rintro ⟨y, hy, q⟩; rw [str_eq, decide_eq_true_eq] at q; exact dec_iff.2 (q ▸ hy)
  · intro q; exact ⟨md, dec_iff.1 q, by simp⟩
theorem Twin.addE (h : Twin S R) (md : ByteArray) (gt : Int) (ex : List ByteArray) : S.addE md gt ex = R.addE md gt ex := by
  unfold Sym.addE RSym.addE
  rw [h.has, fi_any, fi_any]
  have e1 : decide (8 ≤ gt) = decide (7 < gt) := decide_eq_decide.2 ⟨fun _ => by omega, fun _ => by omega⟩
  have e2 : decide (((setOf ex).length : Int) < ex.length) = dupB ex := by
    have := setOf_nodup (l := ex)
    unfold dupB
    by_cases q : ex.Nodup
    · rw [this.2 q]; simp [q]
    · rw [decide_eq_false q]
      cases e : decide (((setOf ex).length : Int) < ex.length)
      · exact absurd (this.1 e) q
      · rfl
  have e3 : (ex.any fun s => (getE s S.ents).isSome) = ex.any R.thr := by
    congr 1; funext s; exact (h.thr s).symm
  rw [e1, e2, e3]
theorem putL_perm (e : Ent) : ∀ l : List Ent, (putL e l).Perm (e :: l)
  | [] => .refl _
  | x :: l => by
    unfold putL; split
    · exact ((putL_perm e l).cons x).trans (.swap e x l)
    · exact .refl _
theorem putL_fold (es l : List Ent) : (es.foldl (fun l e => putL e l) l).Perm (l ++ es) := by
  induction es generalizing l with
  | nil => rw [List.append_nil]; exact .refl _
  | cons e es ih =>
    rw [List.foldl_cons]
    refine (ih _).trans ?_
    have h : (putL e l ++ es).Perm ((e :: l) ++ es) := (putL_perm e l).append_right es
    exact h.trans (List.perm_middle (l₁ := l) (a := e) (l₂ := es)).symm
theorem Twin.add (h : Twin S R) (md : ByteArray) (gt : Int) (ex : List ByteArray) : Twin (S.add md gt ex) (R.add md gt ex) := by
  unfold Sym.add RSym.add
  rw [← h.addE]
  by_cases q : S.addE md gt ex = 0
  · rw [if_pos q, if_pos q]
    have hq := q
    unfold Sym.addE at hq
    have q1 : (badN md || decide (0 ≤ fi badN ex)) = false := by
      cases e : (badN md || decide (0 ≤ fi badN ex)) with
      | false => rfl
      | true => rw [e, if_pos rfl] at hq; cases hq
    rw [q1, if_neg (by decide)] at hq
    have q2 : (decide (gt < 0) || (decide (8 ≤ gt) || (decide ((8 : Int) < ex.length) || decide (((setOf ex).length : Int) < ex.length)))) = false := by
      cases e : (decide (gt < 0) || (decide (8 ≤ gt) || (decide ((8 : Int) < ex.length) || decide (((setOf ex).length : Int) < ex.length)))) with
      | false => rfl
      | true => rw [e, if_pos rfl] at hq; cases hq
    rw [q2, if_neg (by decide)] at hq
    have q3 : (inB md S.mods || decide (0 ≤ fi (fun s => (getE s S.ents).isSome) ex)) = false := by
      cases e : (inB md S.mods || decide (0 ≤ fi (fun s => (getE s S.ents).isSome) ex)) with
      | false => rfl
      | true => rw [e, if_pos rfl] at hq; cases hq
    simp only [Bool.or_eq_false_iff] at q2 q3
    have hnd : ex.Nodup := setOf_nodup.1 q2.2.2.2
    have hno := fi_nn q3.2
    refine ⟨by simp [h.mods], ?_, ?_, ?_⟩
    · unfold putN entsOf
      refine (putL_fold _ _).trans ?_
      rw [List.map_append, List.map_map]
      exact h.perm.append (.of_eq rfl)
    · intro p hp
      rcases List.mem_append.1 hp with hp | hp
      · exact h.keys p hp
      · unfold entsOf at hp
        obtain ⟨x, _, rfl⟩ := List.mem_map.1 hp
        rfl
    · rw [List.map_append, entsOf_keys, List.nodup_append]
      refine ⟨h.nodup, hnd, fun a ha b hb e => ?_⟩
      have := hno b hb
      rw [Bool.eq_false_iff] at this
      exact this (getE_mem.2 (e ▸ ha))
  · rw [if_neg q, if_neg q]; exact h
theorem Twin.res (h : Twin S R) (im : List ByteArray) : R.res im = S.res im := by
  unfold RSym.res Sym.res RSym.lost Sym.lost
  have e1 : (fun s => !(R.get s).isSome) = fun s => !(getE s S.ents).isSome := by funext s; rw [h.get]
  have e2 : R.slotOf = S.slotOf := by funext s; unfold RSym.slotOf Sym.slotOf; rw [h.get]
  rw [e1, e2]
theorem Twin.nil : Twin ⟨[], []⟩ ⟨[], []⟩ := ⟨rfl, .nil, fun _ h => (List.not_mem_nil h).elim, .nil⟩
end
/-- All names of a table are short. -/
theorem RSym.add_fit {R : RSym} {n : Nat} (hn : n ≤ 9000) (hm : R.mods.length ≤ n) (hl : R.l.length ≤ n) (hf : ∀ e ∈ R.l, few e.nm) (md : ByteArray) (gt : Int) (ex : List ByteArray) (hex : ∀ s ∈ ex, few s) (hxl : ex.length ≤ 8) :
    (R.add md gt ex).mods.length ≤ n + 1 ∧ (R.add md gt ex).l.length ≤ n + 8 ∧ ∀ e ∈ (R.add md gt ex).l, few e.nm := by
  unfold RSym.add
  split
  · refine ⟨by simp; omega, ?_, ?_⟩
    · have := putN_len (md := md) (gt := gt) (ex := ex) (l := R.l) (i := ex.length) (Nat.le_refl _)
      rw [List.take_length] at this
      show (putN md gt ex R.l).length ≤ _
      omega
    · have := putN_few (md := md) (gt := gt) (ex := ex) (l := R.l) hf hex (i := ex.length) (Nat.le_refl _)
      rw [List.take_length] at this
      exact this
  · exact ⟨by omega, by omega, hf⟩
end Go.Abs
/- The laws of linked modules. -/
namespace Go.Abs
set_option linter.unusedSimpArgs false
set_option linter.unusedVariables false
set_option maxHeartbeats 4000000
open Go.Proofs Go.Nm Go.Wd
set_option linter.unusedVariables false
set_option maxRecDepth 8000
variable {H : Heap}
/-- A call and a return. -/
def tiny : Mod := ⟨⟨#[]⟩, [], [⟨#[102]⟩], [2281701376, 2415919104], [], [⟨0, 0, 0⟩]⟩
theorem tiny_ok : tiny.ok where
  co := fun x h => by simp [tiny] at h; omega
  da := fun s h => (List.not_mem_nil h).elim
  re := fun r h => by simp [tiny] at h; subst h; exact ⟨by decide, by decide, by decide⟩
  lex := (by decide : (0 : Nat) < 4611686018427387904)
  lim := (by decide : (1 : Nat) < 4611686018427387904)
  lco := (by decide : (2 : Nat) < 4611686018427387904)
  lda := (by decide : (0 : Nat) < 4611686018427387904)
  lre := (by decide : (1 : Nat) < 4611686018427387904)
theorem tiny_fit : tiny.fit ⟨0, 0, 0⟩ = true := by kernel_rfl
theorem tiny_lk : tiny.lk 80 96 [17] where
  kind := fun r h => by simp [tiny] at h; subst h; decide
  plac := fun r h => by simp [tiny] at h; subst h; decide
  fits := fun r h => by simp [tiny] at h; subst h; exact tiny_fit
  imp := fun r h _ => by simp [tiny] at h; subst h; decide
  val := fun r h => by simp [tiny] at h; subst h; decide
theorem tiny_img : tiny.img 80 96 [17] = [2281701393, 2415919104, 0, 0, 0, 0, 0, 0, 0, 0, 0, 0, 0, 0, 0, 0] := by kernel_rfl
theorem awakeL_c (H : Heap) : AC Tryd.prog 7 [] H (fun r H' => r = .s (.bool true) ∧ H' = H) := by
  refine AC.body Tryd.func7 rfl rfl (n := 49) (res := [.tmp 0]) rfl rfl (by simp) ?_
  simp only [ent]
  have I := fun H => image_c tiny_ok tiny_lk (by decide) (by decide) (by decide) (by decide) H
  rw [tiny_img, Mod.tv_def] at I
  simp only [List.map_cons, List.map_nil, u1_def, tiny, s1_def, relE_def, Int.cast_ofNat_Int, Int.natCast_zero] at I
  refine ARun.seq (ARun.region rfl ?_)
  refine wa (ARun.seq ?_)
  refine ARun.mid ⟨[(1, .fp [.s (.string ⟨#[]⟩), .vs 1 [], .vs 1 [[.s (.string ⟨#[102]⟩)]], .vs 1 [[.s (.int .u32 2281701376)], [.s (.int .u32 2415919104)]], .vs 1 [], .vs 3 [[.s (.int .u8 0), .s (.int .u16 0), .s (.int .u16 0)]]])], H⟩ ?_ fun k hk => ?_
  · (repeat' (first | refine wk ?_ | refine wk2 ?_ ?_ | with_reducible refine wkF fun _ _ _ => ?_ | with_reducible intro _ | refine Doing.fresh (oc_build1 ap36 (fun _ h => by cases h; rfl) rfl rfl (by decide) (by decide)) fun _ _ _ => ?_ | exact ag | fail))
    rename_i b hb hbn
    have hs : Sub H (upd H b (.cells [.s (.int .u32 17)])) := Sub.upd (Sub.refl _) hb
    refine Calling.eq (AC.drop (I H) hs (.cons (Conv.refl hs _) (.cons (Conv.refl hs _) (.cons (conv_rs (L := [[.s (.int .u32 17)]]) hs (upd_self _ _ _) hb (fun e h => by simp at h; rw [h]; rfl)) .nil)))) ?_
    (repeat' (first | refine wk ?_ | refine wk2 ?_ ?_ | with_reducible refine wkF fun _ _ _ => ?_ | with_reducible intro _ | exact ag | fail))
    refine ARun.drawB mixed [([], [0, 1, 2, 3, 4, 5, 6, 7, 8, 9, 10, 11, 12, 13, 14, 15, 16, 17, 18, 19, 20, 21, 22, 23, 24, 25, 26, 27, 28, 29, 30, 31, 32, 33], none)] (by kernel_rfl) (by rfl) ?_
    (repeat' (first | refine wk ?_ | refine wk2 ?_ ?_ | with_reducible refine wkF fun _ _ _ => ?_ | with_reducible intro _ | exact ag | fail))
    exact fin0
  · (repeat' (first | refine wk ?_ | refine wk2 ?_ ?_ | with_reducible refine wkF fun _ _ _ => ?_ | with_reducible intro _ | refine Doing.fresh (oc_build (n := 2) (es := [[.s (.int .u32 2281701376)], [.s (.int .u32 2415919104)]]) ap36 (fun _ h => by cases h; rfl) rfl rfl rfl (.cons rfl (.cons rfl .nil)) (by decide) (by decide) (by decide)) fun _ _ _ => ?_ | refine Doing.fresh (oc_build1 ap23 (fun _ h => by cases h; rfl) rfl rfl (by decide) (by decide)) fun _ _ _ => ?_ | refine Doing.fresh (oc_build1 ap43 (fun _ h => by cases h; rfl) rfl rfl (by decide) (by decide)) fun _ _ _ => ?_ | exact ag | fail))
    rename_i b1 h1 n1 b2 h2 n2 b3 h3 n3 b4 h4 n4
    have g1 := h1
    have g2 := Sub.gone (H := H) sb h2
    have g3 := Sub.gone (H := H) sb h3
    have g4 := Sub.gone (H := H) sb h4
    have hs : Sub H _ := Sub.upd (r := .cells [.s (.string ByteArray.empty), .nils, .rs b2 0 1 1, .rs b1 0 2 1, .nils, .rs b3 0 1 3]) (Sub.upd (r := .cells [.s (.int .u8 0), .s (.int .u16 0), .s (.int .u16 0)]) (Sub.upd (r := .cells [.s (.string ⟨#[102]⟩)]) (Sub.upd (r := .cells [[TV.s (.int .u32 2281701376)], [TV.s (.int .u32 2415919104)]].flatten) (Sub.refl H) g1) g2) g3) g4
    refine ARun.freeze hk.go hs ?_
    simp only [List.forall_mem_cons, List.not_mem_nil, false_implies, implies_true, and_true]
    refine ⟨_, rfl, conv_fp hs (by first | (refine wa ?_; rfl) | exact ag | fail) g4 (.cons (Conv.refl hs _) (.cons conv_nils (.cons (conv_rs (L := [[TV.s (.string ⟨#[102]⟩)]]) hs (by first | (refine wa ?_; rfl) | exact ag | fail) g2 ?_) (.cons (conv_rs (L := [[TV.s (.int .u32 2281701376)], [TV.s (.int .u32 2415919104)]]) hs (by first | (refine wa ?_; rfl) | exact ag | fail) g1 ?_) (.cons conv_nils (.cons (conv_rs (L := [[TV.s (.int .u8 0), .s (.int .u16 0), .s (.int .u16 0)]]) hs (by first | (refine wa ?_; rfl) | exact ag | fail) g3 ?_) .nil))))))⟩
    all_goals
      intro e he
      simp only [List.mem_cons, List.not_mem_nil, or_false] at he
      first | (rcases he with rfl | rfl <;> rfl) | (subst he; rfl)
end Go.Abs
/- The law LinkResolves. -/
namespace Go.Abs
set_option linter.unusedSimpArgs false
set_option linter.unusedVariables false
set_option maxHeartbeats 4000000
open Go.Proofs Go.Nm Go.Wd
set_option linter.unusedVariables false
set_option maxRecDepth 8000
variable {H : Heap}
theorem resolveN_c (x : TV) (H : Heap) : AC Tryd.prog 11 [.s (.pointer none), x] H (fun r H' => r = .tup [.nils, .s (.int .i64 1)] ∧ H' = H) := by
  refine AC.body Tryd.func11 rfl rfl (n := 34) (res := [.tmp 4, .tmp 5]) rfl rfl (by simp) ?_
  simp only [ent]
  (repeat' (first | refine wk ?_ | refine wk2 ?_ ?_ | with_reducible refine wkF fun _ _ _ => ?_ | with_reducible intro _ | exact ag | fail))
  exact fin0
structure Own where
  nm : ByteArray
  gt : Int
  ex : List ByteArray
def Own.enc (o : Own) : List TV := [.s (.string o.nm), .s (.int .i64 o.gt), .vs 1 (o.ex.map s1)]
theorem Own.enc_def (o : Own) : o.enc = [.s (.string o.nm), .s (.int .i64 o.gt), .vs 1 (o.ex.map s1)] := rfl
structure Both where
  S : Sym
  R : RSym
def Both.step (B : Both) (o : Own) : Both := if decide ((o.ex.length : Int) ≤ 8) then ⟨B.S.add o.nm o.gt o.ex, B.R.add o.nm o.gt o.ex⟩ else B
def Both.steps (l : List Own) : Both := l.foldl Both.step ⟨⟨[], []⟩, ⟨[], []⟩⟩
theorem steps_snoc {l : List Own} {i : Nat} {x : Own} (h : l[i]? = some x) : Both.steps (l.take (i + 1)) = (Both.steps (l.take i)).step x := by
  unfold Both.steps
  rw [List.take_add_one, h, Option.toList_some, List.foldl_append]; rfl
theorem steps_twin (l : List Own) : Twin (Both.steps l).S (Both.steps l).R := by
  have : ∀ (l : List Own) (B : Both), Twin B.S B.R → Twin (l.foldl Both.step B).S (l.foldl Both.step B).R := by
    intro l
    induction l with
    | nil => exact fun B h => h
    | cons o l ih =>
      intro B h
      refine ih _ ?_
      unfold Both.step
      split
      · exact h.add _ _ _
      · exact h
  exact this l _ .nil
theorem steps_fit {l : List Own} (hf : ∀ o ∈ l, few o.nm ∧ ∀ s ∈ o.ex, few s) : ∀ {i : Nat}, i ≤ l.length → i ≤ 20 → (Both.steps (l.take i)).R.mods.length ≤ i * 8 ∧ (Both.steps (l.take i)).R.l.length ≤ i * 8 ∧ ∀ e ∈ (Both.steps (l.take i)).R.l, few e.nm
  | 0, _, _ => ⟨Nat.le_refl _, Nat.le_refl _, fun _ h => (List.not_mem_nil h).elim⟩
  | i + 1, h, h2 => by
    obtain ⟨a, b, c⟩ := steps_fit hf (i := i) (by omega) (by omega)
    have hx : l[i]? = some l[i] := List.getElem?_eq_getElem (by omega)
    rw [steps_snoc hx]
    unfold Both.step
    split
    · rename_i hq
      obtain ⟨g1, g2⟩ := hf _ (List.getElem_mem (by omega : i < l.length))
      obtain ⟨p, q, r⟩ := RSym.add_fit (n := i * 8) (by omega) a b c l[i].nm l[i].gt l[i].ex g2 (by have := of_decide_eq_true hq; omega)
      exact ⟨Nat.le_trans p (by omega), Nat.le_trans q (by omega), r⟩
    · exact ⟨by omega, by omega, c⟩
/-- The memory of two tables: the program's in t, mb, eb, the document's in r. -/
structure Tabs (H : Heap) (t mb eb r : Nat) (HS : Sym → List TV → Heap) : Prop where
  sub : ∀ S c, Sub H (HS S c)
  tab : ∀ S c, SymAt (HS S c) t mb eb S
  cell : ∀ S c, HS S c r = some (.cells c)
  put : ∀ S c c', upd (HS S c) r (.cells c') = HS S c'
  set : ∀ S c S', upd (upd (HS S c) mb (setR strV S'.mods)) eb (entR S'.ents) = HS S' c
theorem tabs {H : Heap} {t mb eb r : Nat} (h1 : H t = none) (h2 : H mb = none) (h3 : H eb = none) (n1 : t ≠ mb) (n2 : t ≠ eb) (n3 : mb ≠ eb) {c : List TV}
    (hr : upd (upd (upd H mb (setR strV [])) eb (entR [])) t (.cells [.s (.map (some mb)), .s (.map (some eb))]) r = none) :
    ∃ HS, Tabs H t mb eb r HS ∧ upd (upd (upd (upd H mb (setR strV [])) eb (entR [])) t (.cells [.s (.map (some mb)), .s (.map (some eb))])) r (.cells c) = HS ⟨[], []⟩ c := by
  have r1 : r ≠ t := by rintro rfl; rw [upd_self] at hr; cases hr
  have r2 : r ≠ eb := by rintro rfl; rw [upd_eq, if_neg n2.symm, upd_self] at hr; cases hr
  have r3 : r ≠ mb := by rintro rfl; rw [upd_eq, if_neg n1.symm, upd_eq, if_neg n3, upd_self] at hr; cases hr
  have hr0 := nu3 hr
  refine ⟨fun S c => upd (upd (upd (upd H mb (setR strV S.mods)) eb (entR S.ents)) t (.cells [.s (.map (some mb)), .s (.map (some eb))])) r (.cells c), ⟨fun S c => ?_, fun S c => ⟨?_, ?_, ?_⟩, fun S c => ?_, fun S c c' => ?_, fun S c S' => ?_⟩, rfl⟩
  · intro p q hp
    have p1 : p ≠ t := by rintro rfl; rw [h1] at hp; cases hp
    have p2 : p ≠ mb := by rintro rfl; rw [h2] at hp; cases hp
    have p3 : p ≠ eb := by rintro rfl; rw [h3] at hp; cases hp
    have p4 : p ≠ r := by rintro rfl; rw [hr0] at hp; cases hp
    simp only [upd_eq, if_neg p1, if_neg p2, if_neg p3, if_neg p4]; exact hp
  · simp only [upd_eq, if_neg r1.symm, if_true]
  · simp only [upd_eq, if_neg r3.symm, if_neg n1.symm, if_neg n3, if_true]
  · simp only [upd_eq, if_neg r2.symm, if_neg n2.symm, if_true]
  · simp only [upd_eq, if_true]
  · simp only [upd_upd]
  · funext x
    simp only [upd_eq]
    by_cases x1 : x = eb
    · subst x1; simp only [if_true, if_neg r2.symm, if_neg n2.symm]
    · by_cases x2 : x = mb
      · subst x2; simp only [if_true, if_neg x1, if_neg r3.symm, if_neg n1.symm]
      · simp only [if_neg x1, if_neg x2]
theorem Tabs.add {H G : Heap} {t mb eb r : Nat} {HS : Sym → List TV → Heap} (T : Tabs H t mb eb r HS) (g : GH G) (hs : Sub G H) (n1 : t ≠ mb) (n2 : t ≠ eb) (n3 : mb ≠ eb) (S : Sym) (c : List TV) {md : ByteArray} (hmd : fits md) {gt : Int} {ex : List ByteArray} (hex : ∀ s ∈ ex, fits s) (hl : ex.length < 4611686018427387904) :
    AC Tryd.prog 9 [.s (.pointer (some ⟨t, 0, none⟩)), .s (.string md), .s (.int .i64 gt), .vs 1 (ex.map s1)] (HS S c) (fun r H' => r = .s (.int .i64 (S.addE md gt ex)) ∧ H' = HS (S.add md gt ex) c) := by
  have h := addS_c g (hs.trans (T.sub S c)) (T.tab S c) n1 n2 n3 hmd (gt := gt) hex hl
  rw [T.set] at h
  exact h
set_option maxHeartbeats 2000000 in
theorem lres_c {G : Heap} (g : GH G) (hs : Sub G H) (l : List Own) (hf : ∀ o ∈ l, few o.nm ∧ ∀ s ∈ o.ex, few s) (im : List ByteArray) :
    AC Tryd.prog 3 [.vs 3 (l.map Own.enc), .vs 1 (im.map s1)] H (fun r H' => r = .s (.bool true) ∧ H' = H) := by
  refine AC.body Tryd.func3 rfl rfl (n := 107) (res := [.tmp 4]) rfl rfl (by simp) ?_
  simp only [ent]
  have W := fun H => awakeL_c H
  cases q1 : decide ((20 : Int) < l.length) with
  | true =>
    clear hf g hs
    (repeat' (first | refine wk ?_ | refine wk2 ?_ ?_ | with_reducible refine wkF fun _ _ _ => ?_ | with_reducible intro _ | refine Calling.eq (W _) ?_ | exact ag | fail))
    exact fin0
  | false =>
    cases q2 : decide ((100 : Int) < im.length) with
    | true =>
      clear hf g hs
      (repeat' (first | refine wk ?_ | refine wk2 ?_ ?_ | with_reducible refine wkF fun _ _ _ => ?_ | with_reducible intro _ | refine Calling.eq (W _) ?_ | exact ag | fail))
      exact fin0
    | false =>
      have hl : l.length ≤ 20 := by simp at q1; omega
      have him : im.length ≤ 1000 := by simp at q2; omega
      replace hl := later hl
      replace him := later him
      replace hf := later hf
      replace g := later g
      (repeat' (first | refine wk ?_ | refine wk2 ?_ ?_ | with_reducible refine wkF fun _ _ _ => ?_ | with_reducible intro _ | exact ag | fail))
      refine Calling.by (newS_c H) ?_
      rintro _ _ ⟨t, mb, eb, rfl, ht, hmb, heb, n1, n2, n3, rfl⟩
      have hsg := later hs
      clear hs
      (repeat' (first | refine wk ?_ | refine wk2 ?_ ?_ | with_reducible refine wkF fun _ _ _ => ?_ | with_reducible intro _ | exact ag | fail))
      rename_i r hr hrn
      obtain ⟨HS, T, e0⟩ := tabs (c := [.nils, .nils]) ht hmb heb n1 n2 n3 hr
      rw [e0]
      have hcell := T.cell
      have hput := T.put
      have A := fun S c md hmd gt ex hex hl => T.add g.go hsg.go n1 n2 n3 S c (md := md) hmd (gt := gt) (ex := ex) hex hl
      replace A := later A
      replace T := later T
      clear e0 hr hrn ht hmb heb n1 n2 n3
      refine ARun.recell r [.vs 1 [], .vs 5 []] (hcell _ _) rfl (.cons conv_nils (.cons conv_nils .nil)) ?_
      rw [hput]
      refine ARun.rounds (fun i : Nat => ⟨[(0, .vs 3 (l.map Own.enc)), (1, .vs 1 (im.map s1)), (5, .s (.pointer (some ⟨t, 0, none⟩))), (6, .s (.pointer (some ⟨r, 0, none⟩))), (7, .s (.int .i64 i))], HS (Both.steps (l.take i)).S [.vs 1 ((Both.steps (l.take i)).R.mods.map s1), .vs 5 ((Both.steps (l.take i)).R.l.map Ent.enc)]⟩)
        (fun i => l.length - i) (fun i => i ≤ l.length) ?_ 0 (by omega) ?_
      · rintro i hi next
        by_cases hlt : i < l.length
        · have e1 : (i : Int) < l.length := by omega
          have e2 : (0 : Int) ≤ i := by omega
          obtain ⟨x, hx⟩ := at_ hlt
          have hx1 := vget Own.enc hx
          rw [Own.enc_def] at hx1
          have hw := w64s (i := i) (by have := hl.go; omega)
          have nx := next.go (i + 1) (by omega) (by omega)
          rw [steps_snoc hx] at nx
          obtain ⟨f1, f2, f3⟩ := steps_fit (i := i) hf.go hi (by have := hl.go; omega)
          obtain ⟨p1, p2⟩ := hf.go x (List.mem_of_getElem? hx)
          unfold Both.step at nx
          replace nx := later nx
          clear next hx
          cases q3 : decide ((x.ex.length : Int) ≤ 8) with
          | false =>
            rw [q3, if_neg (by decide)] at nx
            clear f1 f2 f3 p1 p2
            (repeat' (first | refine wk ?_ | refine wk2 ?_ ?_ | with_reducible refine wkF fun _ _ _ => ?_ | with_reducible intro _ | exact ag | fail))
            exact ARun.weaken nx.go (leK (Sub.refl _))
          | true =>
            rw [q3, if_pos rfl] at nx
            have hx8 : x.ex.length ≤ 8 := by simp at q3; omega
            generalize (Both.steps (l.take i)) = B at *
            have A' := fun c => A.go B.S c x.nm p1.fits x.gt x.ex (fun s hs => (p2 s hs).fits) (by omega)
            have R' := fun H => radd_c B.R ⟨by have := hl.go; omega, by have := hl.go; omega, f3⟩ p1 (gt := x.gt) (ex := x.ex) p2 (by omega) H
            simp only [RSym.tv_def] at R'
            simp only [] at nx
            clear f1 f2 f3 p1 p2 hx8
            generalize B.S.addE x.nm x.gt x.ex = a1 at *
            generalize B.R.addE x.nm x.gt x.ex = a2 at *
            generalize B.S.add x.nm x.gt x.ex = S' at *
            generalize B.R.add x.nm x.gt x.ex = R2 at *
            (repeat' (first | refine wk ?_ | refine wk2 ?_ ?_ | with_reducible refine wkF fun _ _ _ => ?_ | with_reducible intro _ | exact ag | fail))
            refine ARun.drawT mixed [0, 1, 2, 3, 4, 5, 6, 7, 8, 9, 10, 11, 12, 13, 14, 15] (.alt 16 [1, 2, 3, 4, 6, 7, 8, 9, 11, 12, 13, 14] [] .leaf .nil) (by kernel_rfl) (by rfl) ?_
            (repeat' (first | refine wk ?_ | refine wk2 ?_ ?_ | with_reducible refine wkF fun _ _ _ => ?_ | with_reducible intro _ | refine Calling.eq (A' _) ?_ | exact ag | fail))
            refine ARun.drawT mixed [0, 1, 2, 3, 4, 5, 6, 7, 8, 9, 10, 11, 12, 13, 14, 15] (.alt 16 [1, 2, 3, 4, 6, 7, 8, 9, 11, 12, 13, 14] [17, 18, 19] (.alt 20 [19] [] .leaf .nil) .nil) (by kernel_rfl) (by rfl) ?_
            (repeat' (first | refine wk ?_ | refine wk2 ?_ ?_ | with_reducible refine wkF fun _ _ _ => ?_ | with_reducible intro _ | refine Calling.eq (R' _) ?_ | exact ag | fail))
            exact ARun.weaken nx.go (leK (Sub.refl _))
        · have e1 : decide ((i : Int) < l.length) = false := by simp; omega
          obtain rfl : i = l.length := by omega
          rw [List.take_length]
          clear next
          obtain ⟨f1, f2, f3⟩ := steps_fit (i := l.length) hf.go (Nat.le_refl _) hl.go
          rw [List.take_length] at f1 f2 f3
          have tw := steps_twin l
          generalize Both.steps l = B at *
          have Q := fun c => resolve_c (T.go.tab B.S c) him.go
          have Q2 := fun H => rresolve_c B.R ⟨by have := hl.go; omega, by have := hl.go; omega⟩ him.go H
          rw [tw.res im] at Q2
          have N := fun H => resolveN_c (.vs 1 (im.map s1)) H
          have S1 := fun H => sameW_c (B.S.res im).1 (B.S.res im).1 (by unfold Sym.res; split <;> simp <;> (have := him.go; omega)) H
          rw [decide_eq_true rfl] at S1
          simp only [RSym.tv_def] at Q2
          clear f1 f2 f3 tw
          generalize (B.S.res im).1 = L at *
          generalize (B.S.res im).2 = e at *
          have hsub := T.go.sub B.S [.vs 1 (B.R.mods.map s1), .vs 5 (B.R.l.map Ent.enc)]
          (repeat' (first | refine wk ?_ | refine wk2 ?_ ?_ | with_reducible refine wkF fun _ _ _ => ?_ | with_reducible intro _ | refine Calling.eq (Q _) ?_ | refine Calling.eq (Q2 _) ?_ | refine Calling.eq (N _) ?_ | refine Calling.eq (S1 _) ?_ | refine Calling.eq (W _) ?_ | exact ag | fail))
          exact fin0
      · exact leK (Sub.refl _)
end Go.Abs
