import Derived.Test.YtephimncnnogfaaDoorMg3
import Derived.Test.YtephimncnnogfaaDoorAb27
/- What modules export, by definition: an entry is put in its place. -/
namespace Go.Abs
set_option linter.unusedSimpArgs false
set_option linter.unusedVariables false
set_option maxHeartbeats 4000000
open Go.Proofs Go.Nm Go.Wd
set_option linter.unusedVariables false
set_option maxRecDepth 8000
variable {H : Heap}
def putL (e : Ent) : List Ent → List Ent
  | [] => [e]
  | x :: l => if lessS x.nm e.nm then x :: putL e l else e :: x :: l
theorem putL_at (e : Ent) : ∀ (l : List Ent) (i : Nat), (∀ j x, j < i → l[j]? = some x → lessS x.nm e.nm = true) → (∀ x, l[i]? = some x → lessS x.nm e.nm = false) → i ≤ l.length → putL e l = l.take i ++ [e] ++ l.drop i
  | [], i, _, _, h => by simp at h; subst h; rfl
  | x :: l, 0, _, h, _ => by simp [putL, h x rfl]
  | x :: l, i + 1, h, g, hi => by
    unfold putL
    rw [if_pos (h 0 x (by omega) rfl), putL_at e l i (fun j y hj hy => h (j + 1) y (by omega) (by simpa using hy)) (fun y hy => g y (by simpa using hy)) (by simpa using hi)]
    simp
theorem each_ent (l : List Ent) : Each 5 (l.map Ent.enc) := fun e he => by obtain ⟨x, _, rfl⟩ := List.mem_map.1 he; rfl
theorem one_ent (l : List Ent) : ((l.map Ent.enc).flatten).all oneT = true := by
  rw [List.all_eq_true]
  intro t ht
  obtain ⟨r, hr, htr⟩ := List.mem_flatten.1 ht
  obtain ⟨x, _, rfl⟩ := List.mem_map.1 hr
  exact List.all_eq_true.1 (ent_one x) t htr
theorem own_swap {K : Heap} {b c : Nat} {L : List (List TV)} {E : Root} (hb : upd K c E b = none) : ownH (upd K c E) b L = upd (ownH K b L) c E := by
  by_cases h : L = []
  · rw [h, ownH_nil, ownH_nil]
  · have n : b ≠ c := by rintro rfl; rw [upd_self] at hb; cases hb
    rw [ownH_ne' h, ownH_ne' h]
    funext x
    simp only [upd_eq]
    by_cases q : x = c
    · rw [if_neg (by rw [q]; exact n.symm), if_pos q, if_pos q]
    · rw [if_neg q, if_neg q]
theorem own_free {K : Heap} {b c : Nat} {L : List (List TV)} {E : Root} (hc : K c = none) (hb : upd K c E b = none) : ownH K b L c = none := by
  have n : b ≠ c := by rintro rfl; rw [upd_self] at hb; cases hb
  rw [ownH_ne (eq_false n.symm)]; exact hc
theorem put_c (l : List Ent) (e : Ent) (hl : l.length ≤ 100000) (hf : ∀ x ∈ l, few x.nm) (he : few e.nm) (H : Heap) : AC Tryd.prog 49 [.vs 5 (l.map Ent.enc), .agg e.enc] H (fun r H' => r = .vs 5 ((putL e l).map Ent.enc) ∧ H' = H) := by
  refine AC.body Tryd.func49 rfl rfl (n := 36) (res := [.tmp 4]) rfl rfl (by simp) ?_
  simp only [ent]
  have ed : e.enc = [.s (.string e.nm), .s (.string e.md), .s (.int .i64 e.gt), .s (.int .i64 e.ix), .s (.int .i64 e.rf)] := rfl
  have L := fun x hx H => rless_c (H := H) (hf x hx) he
  replace L := later L
  replace ed := later ed
  clear hf he
  (repeat' (first | refine wk ?_ | refine wk2 ?_ ?_ | with_reducible refine wkF fun _ _ _ => ?_ | with_reducible intro _ | exact ag | fail))
  rename_i v hv hvn
  have hsub : Sub H (upd H v (.cells e.enc)) := sb
  generalize hK : upd H v (.cells e.enc) = K at *
  have k1 : K v = some (.cells e.enc) := by rw [← hK]; exact upd_self _ _ _
  clear hK
  obtain ⟨i0, hi0, hp0, hput⟩ : ∃ i0 : Nat, i0 ≤ l.length ∧ (∀ i, i ≤ l.length → noneB (fun x : Ent => !lessS x.nm e.nm) l i → (∀ x, l[i]? = some x → lessS x.nm e.nm = false) → i = i0) ∧ putL e l = l.take i0 ++ [e] ++ l.drop i0 := by
    obtain ⟨i0, h1, h2, h3⟩ : ∃ i0 : Nat, i0 ≤ l.length ∧ noneB (fun x : Ent => !lessS x.nm e.nm) l i0 ∧ (∀ x, l[i0]? = some x → lessS x.nm e.nm = false) := by
      clear L k1 hl
      induction l with
      | nil => exact ⟨0, by simp, .zero, fun x hx => by simp at hx⟩
      | cons y l ih =>
        cases q : lessS y.nm e.nm with
        | false => exact ⟨0, by simp, .zero, fun x hx => by simp at hx; subst hx; exact q⟩
        | true =>
          obtain ⟨i0, h1, h2, h3⟩ := ih
          refine ⟨i0 + 1, by simpa using h1, fun j x hj hx => ?_, fun x hx => h3 x (by simpa using hx)⟩
          cases j with
          | zero => simp at hx; subst hx; simp [q]
          | succ j => exact h2 j x (by omega) (by simpa using hx)
    refine ⟨i0, h1, fun i g1 g2 g3 => ?_, putL_at e l i0 (fun j x hj hx => by simpa using h2 j x hj hx) h3 h1⟩
    rcases Nat.lt_trichotomy i i0 with h | h | h
    · have hx : l[i]? = some l[i] := List.getElem?_eq_getElem (by omega)
      have a := h2 i _ h hx
      have b := g3 _ hx
      simp only [b] at a; cases a
    · exact h
    · have hx : l[i0]? = some l[i0] := List.getElem?_eq_getElem (by omega)
      have a := g2 i0 _ h hx
      have b := h3 _ hx
      simp only [b] at a; cases a
  replace hp0 := later hp0
  replace hput := later hput
  refine ARun.midB ⟨[(0, .vs 5 (l.map Ent.enc)), (3, .s (.pointer (some ⟨v, 0, none⟩))), (4, .nils), (5, .s (.int .i64 i0))], K⟩ ?_ fun k' nx => ?_
  · clear hp0 L
    have hl' := later hl
    clear hl
    have a1 : (0 : Int) ≤ i0 := by omega
    have a2 : (i0 : Int) ≤ l.length := by omega
    (repeat' (first | refine wk ?_ | refine wk2 ?_ ?_ | with_reducible refine wkF fun _ _ _ => ?_ | with_reducible intro _ | exact ag | fail))
    refine ARun.drawTI 8 mixed _ [0, 1, 2, 3, 5] (.alt 4 [1, 2, 5] [] (.alt 6 [0, 1, 2, 3] [] (.alt 7 [0, 1, 2, 3, 5] [] .leaf .nil) .nil) (.alt 6 [0, 1, 2, 3] [] (.alt 4 [1, 2, 5] [] (.alt 7 [0, 1, 2, 3, 5] [] .leaf .nil) .nil) .nil)) (by kernel_rfl) (by kernel_rfl) (by rfl) (by rfl) (fun _ h => h) ?_; simp only [List.extract_toArray, List.extract_eq_take_drop, List.drop_zero, Nat.sub_zero, List.take_succ_cons, List.take_zero, List.size_toArray, List.length_cons, List.length_nil, List.drop_succ_cons, Nat.reduceAdd]
    (repeat' (first | refine wk ?_ | refine wk2 ?_ ?_ | with_reducible refine wkF fun _ _ _ => ?_ | with_reducible intro _ | exact ag | fail))
    all_goals simp only [Nat.sub_zero, ← List.map_take]
    · (repeat' (first | refine wk ?_ | refine wk2 ?_ ?_ | with_reducible refine wkF fun _ _ _ => ?_ | with_reducible intro _ | refine Doing.fresh (oc_append_own0 ap38 us38 (each_ent _) (one_ent _) (by have := hl'.go; simp; omega) (by have := hl'.go; simp; omega)) fun _ _ _ => ?_ | refine Doing.fresh (oc_build1 ap38 (fun _ h => by cases h; rfl) rfl rfl (by decide) (by decide)) fun _ _ _ => ?_ | refine Doing.fresh (oc_append1 ap38 us38 (each_ent _) rfl rfl (fun _ => by assumption) (by assumption) (by have := hl'.go; simp; omega) (by have := hl'.go; simp; omega)) fun _ _ _ => ?_ | exact ag | fail))
      replace ed := ed.go
      have eB : List.take (l.length - i0) (List.drop i0 (List.map Ent.enc l)) = (l.drop i0).map Ent.enc := by rw [← List.map_drop, List.take_of_length_le (by simp)]
      have h4 : (List.map Ent.enc (List.take i0 l) ++ [e.enc]).length = i0 + 1 := by simp; omega
      have h5 : ((l.drop i0).map Ent.enc).length = l.length - i0 := by simp
      have e4 : Each 5 (List.map Ent.enc (List.take i0 l) ++ [e.enc]) := (each_ent _).app (by intro x hx; simp at hx; rw [hx]; rfl)
      simp only [eB]
      rename_i b hb hbn
      clear ed eB
      (repeat' (first | refine wk ?_ | refine wk2 ?_ ?_ | with_reducible refine wkF fun _ _ _ => ?_ | with_reducible intro _ | refine Doing.fresh (oc_append_own ap38 us38 e4 (each_ent _) (fun _ => hb) (srcT_vs _ _ _) (one_ent _) (by have := hl'.go; rw [h4, h5]; omega) (by have := hl'.go; rw [h4, h5]; omega)) fun _ _ _ => ?_ | exact ag | fail))
      rename_i b' hb' hbn'
      have e5 : (List.map Ent.enc (List.take i0 l) ++ [e.enc]) ++ (l.drop i0).map Ent.enc = (putL e l).map Ent.enc := by rw [hput.go]; simp
      rw [e5]
      exact Fin.done (vs := [ownT b' 5 ((putL e l).map Ent.enc)]) ag (sub_ownK hsub (fun _ => hb')) (conv_ownK hsub (fun _ => hb') (each_ent _)) ⟨rfl, rfl⟩
    · (repeat' (first | refine wk ?_ | refine wk2 ?_ ?_ | with_reducible refine wkF fun _ _ _ => ?_ | with_reducible intro _ | refine Doing.fresh (oc_append_own0 ap38 us38 (each_ent _) (one_ent _) (by have := hl'.go; simp; omega) (by have := hl'.go; simp; omega)) fun _ _ _ => ?_ | refine Doing.fresh (oc_build1 ap38 (fun _ h => by cases h; rfl) rfl rfl (by decide) (by decide)) fun _ _ _ => ?_ | exact ag | fail))
      rename_i c hc _ b hb _
      rw [own_swap hb]
      have hf := own_free (L := (l.take i0).map Ent.enc) hc hb
      have hb := nu1 hb
      clear hc
      (repeat' (first | refine wk ?_ | refine wk2 ?_ ?_ | with_reducible refine wkF fun _ _ _ => ?_ | with_reducible intro _ | refine Doing.fresh (oc_append1 ap38 us38 (each_ent _) rfl rfl (fun _ => hb) hf (by have := hl'.go; simp; omega) (by have := hl'.go; simp; omega)) fun _ _ _ => ?_ | exact ag | fail))
      replace ed := ed.go
      have eB : List.take (l.length - i0) (List.drop i0 (List.map Ent.enc l)) = (l.drop i0).map Ent.enc := by rw [← List.map_drop, List.take_of_length_le (by simp)]
      have h4 : (List.map Ent.enc (List.take i0 l) ++ [e.enc]).length = i0 + 1 := by simp; omega
      have h5 : ((l.drop i0).map Ent.enc).length = l.length - i0 := by simp
      have e4 : Each 5 (List.map Ent.enc (List.take i0 l) ++ [e.enc]) := (each_ent _).app (by intro x hx; simp at hx; rw [hx]; rfl)
      simp only [eB]
      rename_i b hb hbn
      clear ed eB
      (repeat' (first | refine wk ?_ | refine wk2 ?_ ?_ | with_reducible refine wkF fun _ _ _ => ?_ | with_reducible intro _ | refine Doing.fresh (oc_append_own ap38 us38 e4 (each_ent _) (fun _ => hb) (srcT_vs _ _ _) (one_ent _) (by have := hl'.go; rw [h4, h5]; omega) (by have := hl'.go; rw [h4, h5]; omega)) fun _ _ _ => ?_ | exact ag | fail))
      rename_i b' hb' hbn'
      have e5 : (List.map Ent.enc (List.take i0 l) ++ [e.enc]) ++ (l.drop i0).map Ent.enc = (putL e l).map Ent.enc := by rw [hput.go]; simp
      rw [e5]
      exact Fin.done (vs := [ownT b' 5 ((putL e l).map Ent.enc)]) ag (sub_ownK hsub (fun _ => hb')) (conv_ownK hsub (fun _ => hb') (each_ent _)) ⟨rfl, rfl⟩
  · refine ARun.rounds (fun i : Nat => ⟨[(0, .vs 5 (l.map Ent.enc)), (3, .s (.pointer (some ⟨v, 0, none⟩))), (4, .nils), (5, .s (.int .i64 i))], K⟩) (fun i => l.length - i) (fun i => i ≤ l.length ∧ noneB (fun x : Ent => !lessS x.nm e.nm) l i) ?_ 0 ⟨by omega, .zero⟩ ?_
    · rintro i ⟨hi, hno⟩ next
      replace hno := later hno
      by_cases hlt : i < l.length
      · have h1 : (i : Int) < l.length := by omega
        have h2 : (0 : Int) ≤ i := by omega
        obtain ⟨x, hx⟩ := at_ hlt
        have hx1 := vget Ent.enc hx
        rw [Ent.enc_def] at hx1
        have hw := w64s (i := i) (by omega)
        have Q := L.go x (List.mem_of_getElem? hx)
        have ed' := ed.go
        cases hb : lessS x.nm e.nm with
        | false =>
          obtain rfl := hp0.go i hi hno.go (fun y hy => by rw [hx] at hy; cases hy; exact hb)
          have hn := nx.go
          rw [hb] at Q
          replace hn := later hn
          rw [ed'] at k1
          clear hx next nx hp0 ed'
          (repeat' (first | refine wk ?_ | refine wk2 ?_ ?_ | with_reducible refine wkF fun _ _ _ => ?_ | with_reducible intro _ | exact ag | fail))
          refine ARun.drawB mixed [([], [0, 1, 2, 3, 4, 5, 6, 7, 8, 9, 10, 11], some 12), ([0, 1, 2, 3, 5, 6, 7, 8, 10], [13], none)] (by kernel_rfl) (by rfl) ?_
          (repeat' (first | refine wk ?_ | refine wk2 ?_ ?_ | with_reducible refine wkF fun _ _ _ => ?_ | with_reducible intro _ | refine Calling.eq (Q _) ?_ | exact ag | fail))
          exact ARun.weaken hn.go (leK (Sub.refl _))
        | true =>
          have nx := next.go (i + 1) ⟨by omega, hno.go.succ hx (by simp [hb])⟩ (by omega)
          rw [hb] at Q
          rw [ed'] at k1
          clear hx next hp0 ed'
          (repeat' (first | refine wk ?_ | refine wk2 ?_ ?_ | with_reducible refine wkF fun _ _ _ => ?_ | with_reducible intro _ | exact ag | fail))
          refine ARun.drawB mixed [([], [0, 1, 2, 3, 4, 5, 6, 7, 8, 9, 10, 11], some 12), ([0, 1, 2, 3, 5, 6, 7, 8, 10], [13], none)] (by kernel_rfl) (by rfl) ?_
          (repeat' (first | refine wk ?_ | refine wk2 ?_ ?_ | with_reducible refine wkF fun _ _ _ => ?_ | with_reducible intro _ | refine Calling.eq (Q _) ?_ | exact ag | fail))
          exact ARun.weaken nx (leK (Sub.refl _))
      · have h1 : decide ((i : Int) < l.length) = false := by simp; omega
        obtain rfl := hp0.go i hi hno.go (fun y hy => by rw [List.getElem?_eq_none (by omega)] at hy; cases hy)
        have hn := nx.go
        replace hn := later hn
        clear next nx hp0
        (repeat' (first | refine wk ?_ | refine wk2 ?_ ?_ | with_reducible refine wkF fun _ _ _ => ?_ | with_reducible intro _ | exact ag | fail))
        refine ARun.drawB mixed [([], [0, 1, 2, 3, 4, 5, 6, 7, 8, 9, 10, 11], some 12), ([0, 1, 2, 3, 5, 6, 7, 8, 10], [13], none)] (by kernel_rfl) (by rfl) ?_
        (repeat' (first | refine wk ?_ | refine wk2 ?_ ?_ | with_reducible refine wkF fun _ _ _ => ?_ | with_reducible intro _ | exact ag | fail))
        exact ARun.weaken hn.go (leK (Sub.refl _))
    · exact leK (Sub.refl _)
end Go.Abs
/- What modules export, by definition: a module is added. -/
namespace Go.Abs
set_option linter.unusedSimpArgs false
set_option linter.unusedVariables false
set_option maxHeartbeats 4000000
open Go.Proofs Go.Nm Go.Wd
set_option linter.unusedVariables false
set_option maxRecDepth 8000
variable {H : Heap}
def dupB (l : List ByteArray) : Bool := !decide l.Nodup
def samB (x : ByteArray) (l : List ByteArray) : Bool := l.any fun y => x.toList == y.toList
theorem dup_snoc {l : List ByteArray} {i : Nat} {x : ByteArray} (h : l[i]? = some x) : dupB (l.take (i + 1)) = (dupB (l.take i) || samB x (l.take i)) := by
  rw [List.take_add_one, h, Option.toList_some]
  unfold dupB samB
  generalize l.take i = m
  have : (m ++ [x]).Nodup ↔ m.Nodup ∧ x ∉ m := by
    rw [List.nodup_append]
    simp only [List.nodup_cons, List.not_mem_nil, not_false_eq_true, List.nodup_nil, and_self, true_and, List.mem_singleton, ne_eq, forall_eq]
    constructor
    · rintro ⟨h1, h2⟩; exact ⟨h1, fun q => h2 x q rfl⟩
    · rintro ⟨h1, h2⟩; exact ⟨h1, fun y hy e => h2 (e ▸ hy)⟩
  have e2 : (m.any fun y => x.toList == y.toList) = true ↔ x ∈ m := by
    rw [List.any_eq_true]
    constructor
    · rintro ⟨y, hy, h⟩; rw [str_eq, decide_eq_true_eq] at h; exact h ▸ hy
    · intro h; exact ⟨x, h, by simp⟩
  rw [Bool.eq_iff_iff, Bool.or_eq_true, e2]
  simp only [Bool.not_eq_true', decide_eq_false_iff_not, this]
  constructor
  · intro h
    by_cases g : x ∈ m
    · exact .inr g
    · exact .inl fun hn => h ⟨hn, g⟩
  · rintro (h | h) ⟨g1, g2⟩
    · exact h g1
    · exact g2 h
theorem hit_snoc {x : ByteArray} {l : List ByteArray} {i : Nat} {y : ByteArray} (h : l[i]? = some y) : samB x (l.take (i + 1)) = (samB x (l.take i) || (x.toList == y.toList)) := by
  rw [List.take_add_one, h, Option.toList_some]; simp [samB]
theorem any_snoc {α : Type} {p : α → Bool} {l : List α} {i : Nat} {x : α} (h : l[i]? = some x) : (l.take (i + 1)).any p = ((l.take i).any p || p x) := by
  rw [List.take_add_one, h, Option.toList_some]; simp
def RSym.has (R : RSym) (md : ByteArray) : Bool := decide (0 ≤ fi (fun s : ByteArray => s.toList == md.toList) R.mods)
def RSym.plc (R : RSym) (k : ByteArray) : Int := fi (fun e => e.nm.toList == k.toList) R.l
def RSym.thr (R : RSym) (k : ByteArray) : Bool := decide (0 ≤ R.plc k)
def RSym.addE (R : RSym) (md : ByteArray) (gt : Int) (ex : List ByteArray) : Int :=
  if badN md || decide (0 ≤ fi badN ex) then 6
  else if decide (gt < 0) || (decide (7 < gt) || (decide ((8 : Int) < ex.length) || dupB ex)) then 2
  else if R.has md || ex.any R.thr then 9 else 0
def putN (md : ByteArray) (gt : Int) (ex : List ByteArray) (l : List Ent) : List Ent := (ex.zipIdx.map fun p => (⟨p.1, md, gt, (p.2 : Nat), 0⟩ : Ent)).foldl (fun l e => putL e l) l
theorem putN_snoc {md : ByteArray} {gt : Int} {ex : List ByteArray} {l : List Ent} {i : Nat} {x : ByteArray} (h : ex[i]? = some x) : putN md gt (ex.take (i + 1)) l = putL ⟨x, md, gt, (i : Nat), 0⟩ (putN md gt (ex.take i) l) := by
  have hi : i < ex.length := (List.getElem?_eq_some_iff.1 h).1
  unfold putN
  rw [List.take_add_one, h, Option.toList_some, List.zipIdx_append, List.map_append, List.foldl_append]
  simp [List.length_take, Nat.min_eq_left (Nat.le_of_lt hi)]
theorem putL_len (e : Ent) : ∀ l : List Ent, (putL e l).length = l.length + 1
  | [] => rfl
  | x :: l => by unfold putL; split <;> simp [putL_len e l]
theorem putN_len {md : ByteArray} {gt : Int} {ex : List ByteArray} {l : List Ent} : ∀ {i : Nat}, i ≤ ex.length → (putN md gt (ex.take i) l).length = l.length + i
  | 0, _ => rfl
  | i + 1, h => by
    rw [putN_snoc (List.getElem?_eq_getElem (by omega)), putL_len, putN_len (by omega)]; omega
theorem putL_mem {e x : Ent} : ∀ {l : List Ent}, x ∈ putL e l ↔ x = e ∨ x ∈ l
  | [] => by simp [putL]
  | y :: l => by
    unfold putL; split
    · rw [List.mem_cons, putL_mem, List.mem_cons]
      constructor
      · rintro (h | h | h); exact .inr (.inl h); exact .inl h; exact .inr (.inr h)
      · rintro (h | h | h); exact .inr (.inl h); exact .inl h; exact .inr (.inr h)
    · rw [List.mem_cons]
theorem putN_few {md : ByteArray} {gt : Int} {ex : List ByteArray} {l : List Ent} (hl : ∀ x ∈ l, few x.nm) (he : ∀ s ∈ ex, few s) : ∀ {i : Nat}, i ≤ ex.length → ∀ x ∈ putN md gt (ex.take i) l, few x.nm
  | 0, _ => hl
  | i + 1, h => by
    rw [putN_snoc (List.getElem?_eq_getElem (by omega))]
    intro x hx
    rcases putL_mem.1 hx with rfl | hx
    · exact he _ (List.getElem_mem (by omega))
    · exact putN_few hl he (by omega) x hx
def RSym.add (R : RSym) (md : ByteArray) (gt : Int) (ex : List ByteArray) : RSym :=
  if R.addE md gt ex = 0 then ⟨R.mods ++ [md], putN md gt ex R.l⟩ else R
theorem RSym.add_no {R : RSym} {md : ByteArray} {gt : Int} {ex : List ByteArray} (h : R.addE md gt ex ≠ 0) : R.add md gt ex = R := if_neg h
structure RSym.fit (R : RSym) : Prop where
  ml : R.mods.length ≤ 10000
  ll : R.l.length ≤ 10000
  nf : ∀ e ∈ R.l, few e.nm
theorem RSym.fit.ok {R : RSym} (h : R.fit) : R.ok := ⟨by have := h.ml; omega, by have := h.ll; omega⟩
set_option maxHeartbeats 2000000 in
theorem radd_c (R : RSym) (hR : R.fit) {md : ByteArray} (hmd : few md) {gt : Int} {ex : List ByteArray} (hex : ∀ s ∈ ex, few s) (hl : ex.length ≤ 1000) (H : Heap) :
    AC Tryd.prog 33 [R.tv, .s (.string md), .s (.int .i64 gt), .vs 1 (ex.map s1)] H (fun r H' => r = .tup [(R.add md gt ex).tv, .s (.int .i64 (R.addE md gt ex))] ∧ H' = H) := by
  refine AC.body Tryd.func33 rfl rfl (n := 116) (res := [.cell 8 40, .tmp 9]) rfl rfl (by simp) ?_
  simp only [ent]
  have B := fun H => rCheck_c (H := H) hmd
  have C := fun x hx H => rCheck_c (H := H) (hex x hx)
  have T := fun H => rhas_c R hR.ok md H
  have F := fun x H => place_c R hR.ok x H
  have q0 : (chk md != 0) = badN md := rfl
  have hA : R.addE md gt ex = if badN md || decide (0 ≤ fi badN ex) then 6
    else if decide (gt < 0) || (decide (7 < gt) || (decide ((8 : Int) < ex.length) || dupB ex)) then 2
    else if R.has md || ex.any R.thr then 9 else 0 := rfl
  replace hA := later hA
  replace hR := later hR
  replace C := later C
  replace T := later T
  replace F := later F
  simp only [RSym.tv_def]
  cases q : badN md with
  | true =>
    rw [q] at q0
    have hA' := hA.go
    rw [q, Bool.true_or, if_pos rfl] at hA'
    rw [RSym.add_no (R := R) (by rw [hA']; decide), hA']
    clear hA' q
    (repeat' (first | refine wk ?_ | refine wk2 ?_ ?_ | with_reducible refine wkF fun _ _ _ => ?_ | with_reducible intro _ | refine Calling.eq (B _) ?_ | exact ag | fail))
    exact fin0
  | false =>
    rw [q] at q0
    (repeat' (first | refine wk ?_ | refine wk2 ?_ ?_ | with_reducible refine wkF fun _ _ _ => ?_ | with_reducible intro _ | refine Calling.eq (B _) ?_ | exact ag | fail))
    clear B q0
    rename_i v hv hvn w hw hwn
    simp only [q, Bool.false_or] at hA
    refine ARun.rounds (fun i : Nat => ⟨[(1, .s (.string md)), (2, .s (.int .i64 gt)), (3, .vs 1 (ex.map s1)), (4, .s (.pointer (some ⟨v, 0, none⟩))), (8, .s (.pointer (some ⟨w, 0, none⟩))), (9, .s (.int .i64 0)), (10, .s (.bool (dupB (ex.take i)))), (11, .s (.int .i64 i))], upd (upd H v (.cells [.vs 1 (R.mods.map s1), .vs 5 (R.l.map Ent.enc)])) w (.cells [.nils, .nils])⟩)
      (fun i => ex.length - i) (fun i => i ≤ ex.length ∧ noneB badN ex i) ?_ 0 ⟨by omega, .zero⟩ ?_
    · rintro i ⟨hi, hno⟩ next
      replace hno := later hno
      by_cases hlt : i < ex.length
      · have e1 : (i : Int) < ex.length := by omega
        have e2 : (0 : Int) ≤ i := by omega
        obtain ⟨x, hx⟩ := at_ hlt
        have hx1 := vget s1 hx
        rw [s1_def] at hx1
        have hw6 := w64s (i := i) (by omega)
        have Q := C.go x (List.mem_of_getElem? hx)
        have qx : (chk x != 0) = badN x := rfl
        cases qb : badN x with
        | true =>
          rw [qb] at qx
          have hA' := hA.go
          rw [fi_some hx qb hno.go, if_pos (by simp)] at hA'
          rw [RSym.add_no (R := R) (by rw [hA']; decide), hA']
          clear hA' qb hx next
          generalize dupB (ex.take i) = cur at *
          (repeat' (first | refine wk ?_ | refine wk2 ?_ ?_ | with_reducible refine wkF fun _ _ _ => ?_ | with_reducible intro _ | refine Calling.eq (Q _) ?_ | exact ag | fail))
          exact fin0
        | false =>
          rw [qb] at qx
          have nx := next.go (i + 1) ⟨by omega, hno.go.succ hx qb⟩ (by omega)
          rw [dup_snoc hx] at nx
          replace nx := later nx
          clear qb next
          generalize dupB (ex.take i) = d0 at *
          (repeat' (first | refine wk ?_ | refine wk2 ?_ ?_ | with_reducible refine wkF fun _ _ _ => ?_ | with_reducible intro _ | refine Calling.eq (Q _) ?_ | exact ag | fail))
          clear Q qx
          refine ARun.rounds (fun k : Nat => ⟨[(1, .s (.string md)), (2, .s (.int .i64 gt)), (3, .vs 1 (ex.map s1)), (4, .s (.pointer (some ⟨v, 0, none⟩))), (8, .s (.pointer (some ⟨w, 0, none⟩))), (9, .s (.int .i64 0)), (10, .s (.bool (d0 || samB x (ex.take k)))), (11, .s (.int .i64 i)), (12, .s (.int .i64 k))], upd (upd H v (.cells [.vs 1 (R.mods.map s1), .vs 5 (R.l.map Ent.enc)])) w (.cells [.nils, .nils])⟩)
            (fun k => i - k) (fun k => k ≤ i) ?_ 0 (by omega) ?_
          · rintro k hk next
            by_cases hlk : k < i
            · have g1 : (k : Int) < i := by omega
              have g2 : (0 : Int) ≤ k := by omega
              have g3 : (k : Int) < ex.length := by omega
              obtain ⟨y, hy⟩ := at_ (l := ex) (i := k) (by omega)
              have hy1 := vget s1 hy
              rw [s1_def] at hy1
              have hk6 := w64s (i := k) (by omega)
              have nk := next.go (k + 1) (by omega) (by omega)
              rw [hit_snoc hy, ← Bool.or_assoc] at nk
              replace nk := later nk
              clear next hy hx nx
              generalize hc : (d0 || samB x (ex.take k)) = cur at *
              clear hc
              cases cur
              · rw [Bool.false_or] at nk
                (repeat' (first | refine wk ?_ | refine wk2 ?_ ?_ | with_reducible refine wkF fun _ _ _ => ?_ | with_reducible intro _ | exact ag | fail))
                refine ARun.drawTI 12 mixed _ [0, 1, 2, 3, 4, 5, 6, 7, 8, 9, 10, 11] .leaf (by kernel_rfl) (by kernel_rfl) (by rfl) (by rfl) (fun _ h => h) ?_; simp only [List.extract_toArray, List.extract_eq_take_drop, List.drop_zero, Nat.sub_zero, List.take_succ_cons, List.take_zero, List.size_toArray, List.length_cons, List.length_nil, List.drop_succ_cons, Nat.reduceAdd]
                (repeat' (first | refine wk ?_ | refine wk2 ?_ ?_ | with_reducible refine wkF fun _ _ _ => ?_ | with_reducible intro _ | exact ag | fail))
                exact ARun.weaken nk.go (leK (Sub.refl _))
              · rw [Bool.true_or] at nk
                (repeat' (first | refine wk ?_ | refine wk2 ?_ ?_ | with_reducible refine wkF fun _ _ _ => ?_ | with_reducible intro _ | exact ag | fail))
                refine ARun.drawTI 12 mixed _ [0, 1, 2, 3, 4, 5, 6, 7, 8, 9, 10, 11] .leaf (by kernel_rfl) (by kernel_rfl) (by rfl) (by rfl) (fun _ h => h) ?_; simp only [List.extract_toArray, List.extract_eq_take_drop, List.drop_zero, Nat.sub_zero, List.take_succ_cons, List.take_zero, List.size_toArray, List.length_cons, List.length_nil, List.drop_succ_cons, Nat.reduceAdd]
                (repeat' (first | refine wk ?_ | refine wk2 ?_ ?_ | with_reducible refine wkF fun _ _ _ => ?_ | with_reducible intro _ | exact ag | fail))
                exact ARun.weaken nk.go (leK (Sub.refl _))
            · have g1 : decide ((k : Int) < i) = false := by simp; omega
              obtain rfl : k = i := by omega
              clear next hx hx1
              generalize (d0 || samB x (ex.take k)) = cur at *
              (repeat' (first | refine wk ?_ | refine wk2 ?_ ?_ | with_reducible refine wkF fun _ _ _ => ?_ | with_reducible intro _ | exact ag | fail))
              exact ARun.weaken nx.go (leK (Sub.refl _))
          · have e0 : (d0 || samB x (ex.take 0)) = d0 := by simp [samB]
            rw [e0]
            exact leK (Sub.refl _)
      · have e1 : decide ((i : Int) < ex.length) = false := by simp; omega
        obtain rfl : i = ex.length := by omega
        have hA' := hA.go
        rw [fi_none fun j y hj => hno.go j y ((List.getElem?_eq_some_iff.1 hj).1) hj, if_neg (by decide)] at hA'
        clear hA hno next
        rw [List.take_length]
        cases qa : decide (gt < 0) || (decide (7 < gt) || (decide ((8 : Int) < ex.length) || dupB ex)) with
        | true =>
          rw [qa, if_pos rfl] at hA'
          rw [RSym.add_no (R := R) (by rw [hA']; decide), hA']
          clear hA'
          generalize dupB ex = d0 at *
          (repeat' (first | refine wk ?_ | refine wk2 ?_ ?_ | with_reducible refine wkF fun _ _ _ => ?_ | with_reducible intro _ | exact ag | fail))
          all_goals first | (exact fin0) | (exfalso; simp_all; done)
        | false =>
          rw [qa, if_neg (by decide)] at hA'
          replace hA' := later hA'
          simp only [Bool.or_eq_false_iff] at qa
          obtain ⟨qa, qb, qc, qd⟩ := qa
          rw [qd]
          clear qd
          have T' := T.go
          rw [RSym.tv_def] at T'
          have eh : R.has md = decide (0 ≤ fi (fun s : ByteArray => s.toList == md.toList) R.mods) := rfl
          rw [← eh] at T'
          clear T eh
          (repeat' (first | refine wk ?_ | refine wk2 ?_ ?_ | with_reducible refine wkF fun _ _ _ => ?_ | with_reducible intro _ | refine Calling.eq (T' _) ?_ | exact ag | fail))
          clear T'
          refine ARun.rounds (fun i : Nat => ⟨[(1, .s (.string md)), (2, .s (.int .i64 gt)), (3, .vs 1 (ex.map s1)), (4, .s (.pointer (some ⟨v, 0, none⟩))), (8, .s (.pointer (some ⟨w, 0, none⟩))), (9, .s (.int .i64 0)), (13, .s (.bool (R.has md || (ex.take i).any R.thr))), (14, .s (.int .i64 i))], upd (upd H v (.cells [.vs 1 (R.mods.map s1), .vs 5 (R.l.map Ent.enc)])) w (.cells [.nils, .nils])⟩)
            (fun i => ex.length - i) (fun i => i ≤ ex.length) ?_ 0 (by omega) ?_
          · rintro i hi next
            by_cases hlt : i < ex.length
            · have e1 : (i : Int) < ex.length := by omega
              have e2 : (0 : Int) ≤ i := by omega
              obtain ⟨x, hx⟩ := at_ hlt
              have hx1 := vget s1 hx
              rw [s1_def] at hx1
              have hw6 := w64s (i := i) (by omega)
              have nx := next.go (i + 1) (by omega) (by omega)
              rw [any_snoc hx, ← Bool.or_assoc] at nx
              replace nx := later nx
              have F' := F.go x
              have et : R.thr x = decide (0 ≤ fi (fun e => e.nm.toList == x.toList) R.l) := rfl
              rw [RSym.tv_def] at F'
              generalize R.thr x = t0 at *
              clear next hx F
              generalize (R.has md || (ex.take i).any R.thr) = cur at *
              generalize fi (fun e : Ent => e.nm.toList == x.toList) R.l = n0 at *
              cases cur
              · rw [Bool.false_or] at nx
                cases t0
                · replace et := et.symm
                  (repeat' (first | refine wk ?_ | refine wk2 ?_ ?_ | with_reducible refine wkF fun _ _ _ => ?_ | with_reducible intro _ | exact ag | fail))
                  refine ARun.drawTI 10 mixed _ [0, 1, 2, 3, 4, 5, 6] (.alt 7 [0, 3, 4, 5] [8, 9] .leaf .nil) (by kernel_rfl) (by kernel_rfl) (by rfl) (by rfl) (fun _ h => h) ?_; simp only [List.extract_toArray, List.extract_eq_take_drop, List.drop_zero, Nat.sub_zero, List.take_succ_cons, List.take_zero, List.size_toArray, List.length_cons, List.length_nil, List.drop_succ_cons, Nat.reduceAdd]
                  (repeat' (first | refine wk ?_ | refine wk2 ?_ ?_ | with_reducible refine wkF fun _ _ _ => ?_ | with_reducible intro _ | refine Calling.eq (F' _) ?_ | exact ag | fail))
                  exact ARun.weaken nx.go (leK (Sub.refl _))
                · replace et := et.symm
                  (repeat' (first | refine wk ?_ | refine wk2 ?_ ?_ | with_reducible refine wkF fun _ _ _ => ?_ | with_reducible intro _ | exact ag | fail))
                  refine ARun.drawTI 10 mixed _ [0, 1, 2, 3, 4, 5, 6] (.alt 7 [0, 3, 4, 5] [8, 9] .leaf .nil) (by kernel_rfl) (by kernel_rfl) (by rfl) (by rfl) (fun _ h => h) ?_; simp only [List.extract_toArray, List.extract_eq_take_drop, List.drop_zero, Nat.sub_zero, List.take_succ_cons, List.take_zero, List.size_toArray, List.length_cons, List.length_nil, List.drop_succ_cons, Nat.reduceAdd]
                  (repeat' (first | refine wk ?_ | refine wk2 ?_ ?_ | with_reducible refine wkF fun _ _ _ => ?_ | with_reducible intro _ | refine Calling.eq (F' _) ?_ | exact ag | fail))
                  exact ARun.weaken nx.go (leK (Sub.refl _))
              · rw [Bool.true_or] at nx
                clear et
                (repeat' (first | refine wk ?_ | refine wk2 ?_ ?_ | with_reducible refine wkF fun _ _ _ => ?_ | with_reducible intro _ | exact ag | fail))
                refine ARun.drawTI 10 mixed _ [0, 1, 2, 3, 4, 5, 6] (.alt 7 [0, 3, 4, 5] [8, 9] .leaf .nil) (by kernel_rfl) (by kernel_rfl) (by rfl) (by rfl) (fun _ h => h) ?_; simp only [List.extract_toArray, List.extract_eq_take_drop, List.drop_zero, Nat.sub_zero, List.take_succ_cons, List.take_zero, List.size_toArray, List.length_cons, List.length_nil, List.drop_succ_cons, Nat.reduceAdd]
                (repeat' (first | refine wk ?_ | refine wk2 ?_ ?_ | with_reducible refine wkF fun _ _ _ => ?_ | with_reducible intro _ | refine Calling.eq (F' _) ?_ | exact ag | fail))
                exact ARun.weaken nx.go (leK (Sub.refl _))
            · have e1 : decide ((i : Int) < ex.length) = false := by simp; omega
              obtain rfl : i = ex.length := by omega
              rw [List.take_length]
              clear next F
              have hA2 := hA'.go
              cases qe : (R.has md || ex.any R.thr) with
              | true =>
                rw [qe, if_pos rfl] at hA2
                rw [RSym.add_no (R := R) (by rw [hA2]; decide), hA2]
                clear hA2 qe
                (repeat' (first | refine wk ?_ | refine wk2 ?_ ?_ | with_reducible refine wkF fun _ _ _ => ?_ | with_reducible intro _ | exact ag | fail))
                exact fin0
              | false =>
                rw [qe, if_neg (by decide)] at hA2
                have hn : R.add md gt ex = ⟨R.mods ++ [md], putN md gt ex R.l⟩ := if_pos hA2
                rw [hA2, hn]
                clear hA2 qe hA' hn
                have hb := hR.go
                have hm1 := later hb.ml
                have hm2 := later hb.ll
                have hm3 := later hb.nf
                clear hb hR
                (repeat' (first | refine wk ?_ | refine wk2 ?_ ?_ | with_reducible refine wkF fun _ _ _ => ?_ | with_reducible intro _ | refine Doing.fresh (oc_append_own0 ap22 us22 (each_s1 _) (one_s1 _) (by have := hm1.go; simp; omega) (by have := hm1.go; simp; omega)) fun _ _ _ => ?_ | refine Doing.fresh (oc_build1 ap22 (fun _ h => by cases h; rfl) rfl rfl (by decide) (by decide)) fun _ _ _ => ?_ | refine Doing.fresh (oc_append1 (e := s1 md) ap22 us22 (each_s1 _) rfl rfl (fun _ => by assumption) (by assumption) (by have := hm1.go; simp; omega) (by have := hm1.go; simp; omega)) fun _ _ _ => ?_ | exact ag | fail))
                rename_i x hx hxn b0 _ _ c _ _ b hb hbn
                have hrow : (R.mods.map s1 ++ [s1 md]) = (R.mods ++ [md]).map s1 := by simp
                rw [hrow, own_swap hb, upd_upd]
                generalize hrs : (R.mods ++ [md]).map s1 = rows at *
                have hE : Each 1 rows := by rw [← hrs]; exact each_s1 _
                have hne : rows ≠ [] := by rw [← hrs]; simp
                clear hrow hrs
                replace hE := later hE
                replace hne := later hne
                refine ARun.rounds (fun i : Nat => ⟨[(1, .s (.string md)), (2, .s (.int .i64 gt)), (3, .vs 1 (ex.map s1)), (8, .s (.pointer (some ⟨w, 0, none⟩))), (9, .s (.int .i64 0)), (15, .s (.pointer (some ⟨x, 0, none⟩))), (17, .s (.int .i64 i))],
                    upd (ownH (upd (upd H v (.cells [.vs 1 (R.mods.map s1), .vs 5 (R.l.map Ent.enc)])) w (.cells [.nils, .nils])) b rows) x (.cells [ownT b 1 rows, .vs 5 ((putN md gt (ex.take i) R.l).map Ent.enc)])⟩)
                  (fun i => ex.length - i) (fun i => i ≤ ex.length) ?_ 0 (by omega) ?_
                · rintro i hi next
                  by_cases hlt : i < ex.length
                  · have e1 : (i : Int) < ex.length := by omega
                    have e2 : (0 : Int) ≤ i := by omega
                    obtain ⟨y, hy⟩ := at_ hlt
                    have hy1 := vget s1 hy
                    rw [s1_def] at hy1
                    have hw6 := w64s (i := i) (by omega)
                    have nx := next.go (i + 1) (by omega) (by omega)
                    rw [putN_snoc hy] at nx
                    have Q := put_c (putN md gt (ex.take i) R.l) ⟨y, md, gt, (i : Nat), 0⟩ (by rw [putN_len hi]; have := hm2.go; omega) (putN_few hm3.go hex hi) (hex y (List.mem_of_getElem? hy))
                    rw [Ent.enc_def] at Q
                    simp only [] at Q
                    generalize putN md gt (ex.take i) R.l = l1 at *
                    replace nx := later nx
                    clear next hy
                    (repeat' (first | refine wk ?_ | refine wk2 ?_ ?_ | with_reducible refine wkF fun _ _ _ => ?_ | with_reducible intro _ | exact ag | fail))
                    refine ARun.drawT mixed [0, 1, 2, 3, 4, 5, 6, 7, 8, 9] (.alt 10 [0, 2, 3, 4, 5, 6, 7, 8] [11] (.alt 12 [] [] .leaf .nil) .nil) (by kernel_rfl) (by rfl) ?_
                    (repeat' (first | refine wk ?_ | refine wk2 ?_ ?_ | with_reducible refine wkF fun _ _ _ => ?_ | with_reducible intro _ | refine Calling.eq (Q _) ?_ | exact ag | fail))
                    exact ARun.weaken nx.go (leK (Sub.refl _))
                  · have e1 : decide ((i : Int) < ex.length) = false := by simp; omega
                    obtain rfl : i = ex.length := by omega
                    rw [List.take_length]
                    clear next
                    generalize putN md gt ex R.l = l1 at *
                    (repeat' (first | refine wk ?_ | refine wk2 ?_ ?_ | with_reducible refine wkF fun _ _ _ => ?_ | with_reducible intro _ | exact ag | fail))
                    have f1 : (w = x) = False ∧ (x = w) = False := hxn w (by simp [upd_eq])
                    have f2 : (b = x) = False := eq_false fun e => by rw [e, upd_self] at hb; cases hb
                    have f3 : (b = w) = False := eq_false (none_at hb (p := w) (r := .cells [.nils, .nils]) (by simp [upd_eq, f1.1])).symm
                    have hn : H b = none := nu3 hb
                    have hs : Sub H (upd (upd (ownH (upd (upd H v (.cells [.vs 1 (R.mods.map s1), .vs 5 (R.l.map Ent.enc)])) w (.cells [.nils, .nils])) b rows) x (.cells [ownT b 1 rows, .vs 5 (l1.map Ent.enc)])) w (.cells [ownT b 1 rows, .vs 5 (l1.map Ent.enc)])) := by
                      rw [ownH_ne' hne.go]
                      intro p r hp
                      have p1 : p ≠ v := by rintro rfl; rw [hv] at hp; cases hp
                      have p2 : p ≠ w := by rintro rfl; rw [nu1 hw] at hp; cases hp
                      have p3 : p ≠ x := by rintro rfl; rw [nu2 hx] at hp; cases hp
                      have p4 : p ≠ b := by rintro rfl; rw [hn] at hp; cases hp
                      simp only [upd_eq, if_neg p1, if_neg p2, if_neg p3, if_neg p4]; exact hp
                    refine Fin.done (vs := [.agg [ownT b 1 rows, .vs 5 (l1.map Ent.enc)], .s (.int .i64 0)]) ag hs (Conv.tup (.cons (Conv.agg (.cons (conv_own hs (.inr ?_) hn hE.go) (.cons (Conv.refl hs _) .nil))) (.cons (Conv.refl hs _) .nil))) ⟨rfl, rfl⟩
                    rw [ownH_ne' hne.go]
                    simp only [upd_eq, f2, f3, if_false, if_true]
                · exact leK (Sub.refl _)
          · have e0 : (R.has md || (ex.take 0).any R.thr) = R.has md := by simp
            rw [e0]
            exact leK (Sub.refl _)
    · have e0 : dupB (ex.take 0) = false := rfl
      rw [e0]
      exact leK (Sub.refl _)
end Go.Abs
/- What modules export: the program's table, and the document's. -/
namespace Go.Abs
set_option linter.unusedSimpArgs false
set_option linter.unusedVariables false
open Go.Proofs Go.Nm Go.Wd
set_option linter.unusedVariables false
theorem dec_iff {p : Prop} {i : Decidable p} : (@decide p i = true) ↔ p := ⟨@of_decide_eq_true p i, @decide_eq_true p i⟩
theorem fi_any {α : Type} (p : α → Bool) (l : List α) : decide (0 ≤ fi p l) = l.any p := by
  rcases fi_find p l with ⟨e1, e2⟩ | ⟨n, x, e1, hx, e2⟩
  · rw [e1]
    have : l.any p = false := by
      rw [List.any_eq_false]; intro x hx; simpa using List.find?_eq_none.1 e2 x hx
    rw [this]; rfl
  · rw [e1]
    have : l.any p = true := List.any_eq_true.2 ⟨x, List.mem_of_find?_eq_some e2, List.find?_some e2⟩
    rw [this]; simp
structure Twin (S : Sym) (R : RSym) : Prop where
  mods : S.mods = R.mods
  perm : R.l.Perm (S.ents.map (·.2))
  keys : ∀ p ∈ S.ents, p.1 = p.2.nm
  nodup : (S.ents.map (·.1)).Nodup
theorem getE_some {k : ByteArray} {e : Ent} : ∀ {l : List (ByteArray × Ent)}, (l.map (·.1)).Nodup → (getE k l = some e ↔ (k, e) ∈ l)
  | [], _ => by simp [getE]
  | (a, u) :: l, h => by
    simp only [List.map_cons, List.nodup_cons] at h
    have ih := getE_some (k := k) (e := e) h.2
    simp only [getE, List.mem_cons, Prod.mk.injEq]
    by_cases q : k = a
    · rw [if_pos q]
      constructor
      · intro g; cases g; exact .inl ⟨q, rfl⟩
      · rintro (⟨_, rfl⟩ | g)
        · rfl
        · exact absurd (List.mem_map.2 ⟨_, g, rfl⟩) (q ▸ h.1)
    · rw [if_neg q, ih]
      constructor
      · exact .inr
      · rintro (⟨g, _⟩ | g)
        · exact absurd g q
        · exact g
section
variable {S : Sym} {R : RSym}
theorem Twin.mem (h : Twin S R) {e : Ent} : e ∈ R.l ↔ (e.nm, e) ∈ S.ents := by
  rw [h.perm.mem_iff, List.mem_map]
  constructor
  · rintro ⟨⟨k, u⟩, hp, rfl⟩
    have := h.keys _ hp
    simp only [] at this
    rw [← this]; exact hp
  · intro hp; exact ⟨_, hp, rfl⟩
theorem Twin.names (h : Twin S R) : (R.l.map (·.nm)).Nodup := by
  have h2 : (S.ents.map (·.1)) = (S.ents.map (·.2)).map (·.nm) := by
    rw [List.map_map]; exact List.map_congr_left fun p hp => h.keys p hp
  have h1 := h.nodup
  rw [h2] at h1
  exact ((h.perm.map _).nodup_iff).2 h1
theorem find_some {l : List Ent} (hn : (l.map (·.nm)).Nodup) {k : ByteArray} {e : Ent} : l.find? (fun e => e.nm.toList == k.toList) = some e ↔ e ∈ l ∧ e.nm = k := by
  induction l with
  | nil => simp
  | cons x l ih =>
    simp only [List.map_cons, List.nodup_cons] at hn
    rw [List.find?_cons]
    by_cases q : x.nm = k
    · rw [str_eq, decide_eq_true q]
      simp only [Option.some.injEq, List.mem_cons]
      constructor
      · rintro rfl; exact ⟨.inl rfl, q⟩
      · rintro ⟨rfl | g, h2⟩
        · rfl
        · exact absurd (List.mem_map.2 ⟨e, g, h2.trans q.symm⟩) hn.1
    · rw [str_eq, decide_eq_false q, ih hn.2]
      simp only [List.mem_cons]
      constructor
      · rintro ⟨g, h2⟩; exact ⟨.inr g, h2⟩
      · rintro ⟨rfl | g, h2⟩
        · exact absurd h2 q
        · exact ⟨g, h2⟩
theorem Twin.get (h : Twin S R) (k : ByteArray) : R.get k = getE k S.ents := by
  apply Option.ext
  intro e
  unfold RSym.get
  rw [find_some h.names, getE_some h.nodup, h.mem]
  constructor
  · rintro ⟨h1, rfl⟩; exact h1
  · intro h1
    have := h.keys _ h1
    exact ⟨this ▸ h1, this.symm⟩
theorem Twin.thr (h : Twin S R) (k : ByteArray) : R.thr k = (getE k S.ents).isSome := by
  rw [← h.get]
  unfold RSym.thr RSym.plc RSym.get
  rcases fi_find (fun e : Ent => e.nm.toList == k.toList) R.l with ⟨e1, e2⟩ | ⟨n, x, e1, hx, e2⟩ <;> rw [e1, e2] <;> simp
theorem Twin.has (h : Twin S R) (md : ByteArray) : R.has md = inB md S.mods := by
  unfold RSym.has inB
  rw [fi_any, h.mods, Bool.eq_iff_iff, List.any_eq_true]
  constructor
  · rintro ⟨y, hy, q⟩; rw [str_eq, decide_eq_true_eq] at q; exact dec_iff.2 (q ▸ hy)
  · intro q; exact ⟨md, dec_iff.1 q, by simp⟩
theorem Twin.addE (h : Twin S R) (md : ByteArray) (gt : Int) (ex : List ByteArray) : S.addE md gt ex = R.addE md gt ex := by
  unfold Sym.addE RSym.addE
  rw [h.has, fi_any, fi_any]
  have e1 : decide (8 ≤ gt) = decide (7 < gt) := decide_eq_decide.2 ⟨fun _ => by omega, fun _ => by omega⟩
  have e2 : decide (((setOf ex).length : Int) < ex.length) = dupB ex := by
    have := setOf_nodup (l := ex)
    unfold dupB
    by_cases q : ex.Nodup
    · rw [this.2 q]; simp [q]
    · rw [decide_eq_false q]
      cases e : decide (((setOf ex).length : Int) < ex.length)
      · exact absurd (this.1 e) q
      · rfl
  have e3 : (ex.any fun s => (getE s S.ents).isSome) = ex.any R.thr := by
    congr 1; funext s; exact (h.thr s).symm
  rw [e1, e2, e3]
theorem putL_perm (e : Ent) : ∀ l : List Ent, (putL e l).Perm (e :: l)
  | [] => .refl _
  | x :: l => by
    unfold putL; split
    · exact ((putL_perm e l).cons x).trans (.swap e x l)
    · exact .refl _
theorem putL_fold (es l : List Ent) : (es.foldl (fun l e => putL e l) l).Perm (l ++ es) := by
  induction es generalizing l with
  | nil => rw [List.append_nil]; exact .refl _
  | cons e es ih =>
    rw [List.foldl_cons]
    refine (ih _).trans ?_
    have h : (putL e l ++ es).Perm ((e :: l) ++ es) := (putL_perm e l).append_right es
    exact h.trans (List.perm_middle (l₁ := l) (a := e) (l₂ := es)).symm
theorem Twin.add (h : Twin S R) (md : ByteArray) (gt : Int) (ex : List ByteArray) : Twin (S.add md gt ex) (R.add md gt ex) := by
  unfold Sym.add RSym.add
  rw [← h.addE]
  by_cases q : S.addE md gt ex = 0
  · rw [if_pos q, if_pos q]
    have hq := q
    unfold Sym.addE at hq
    have q1 : (badN md || decide (0 ≤ fi badN ex)) = false := by
      cases e : (badN md || decide (0 ≤ fi badN ex)) with
      | false => rfl
      | true => rw [e, if_pos rfl] at hq; cases hq
    rw [q1, if_neg (by decide)] at hq
    have q2 : (decide (gt < 0) || (decide (8 ≤ gt) || (decide ((8 : Int) < ex.length) || decide (((setOf ex).length : Int) < ex.length)))) = false := by
      cases e : (decide (gt < 0) || (decide (8 ≤ gt) || (decide ((8 : Int) < ex.length) || decide (((setOf ex).length : Int) < ex.length)))) with
      | false => rfl
      | true => rw [e, if_pos rfl] at hq; cases hq
    rw [q2, if_neg (by decide)] at hq
    have q3 : (inB md S.mods || decide (0 ≤ fi (fun s => (getE s S.ents).isSome) ex)) = false := by
      cases e : (inB md S.mods || decide (0 ≤ fi (fun s => (getE s S.ents).isSome) ex)) with
      | false => rfl
      | true => rw [e, if_pos rfl] at hq; cases hq
    simp only [Bool.or_eq_false_iff] at q2 q3
    have hnd : ex.Nodup := setOf_nodup.1 q2.2.2.2
    have hno := fi_nn q3.2
    refine ⟨by simp [h.mods], ?_, ?_, ?_⟩
    · unfold putN entsOf
      refine (putL_fold _ _).trans ?_
      rw [List.map_append, List.map_map]
      exact h.perm.append (.of_eq rfl)
    · intro p hp
      rcases List.mem_append.1 hp with hp | hp
      · exact h.keys p hp
      · unfold entsOf at hp
        obtain ⟨x, _, rfl⟩ := List.mem_map.1 hp
        rfl
    · rw [List.map_append, entsOf_keys, List.nodup_append]
      refine ⟨h.nodup, hnd, fun a ha b hb e => ?_⟩
      have := hno b hb
      rw [Bool.eq_false_iff] at this
      exact this (getE_mem.2 (e ▸ ha))
  · rw [if_neg q, if_neg q]; exact h
theorem Twin.res (h : Twin S R) (im : List ByteArray) : R.res im = S.res im := by
  unfold RSym.res Sym.res RSym.lost Sym.lost
  have e1 : (fun s => !(R.get s).isSome) = fun s => !(getE s S.ents).isSome := by funext s; rw [h.get]
  have e2 : R.slotOf = S.slotOf := by funext s; unfold RSym.slotOf Sym.slotOf; rw [h.get]
  rw [e1, e2]
theorem Twin.nil : Twin ⟨[], []⟩ ⟨[], []⟩ := ⟨rfl, .nil, fun _ h => (List.not_mem_nil h).elim, .nil⟩
end
/-- All names of a table are short. -/
theorem RSym.add_fit {R : RSym} {n : Nat} (hn : n ≤ 9000) (hm : R.mods.length ≤ n) (hl : R.l.length ≤ n) (hf : ∀ e ∈ R.l, few e.nm) (md : ByteArray) (gt : Int) (ex : List ByteArray) (hex : ∀ s ∈ ex, few s) (hxl : ex.length ≤ 8) :
    (R.add md gt ex).mods.length ≤ n + 1 ∧ (R.add md gt ex).l.length ≤ n + 8 ∧ ∀ e ∈ (R.add md gt ex).l, few e.nm := by
  unfold RSym.add
  split
  · refine ⟨by simp; omega, ?_, ?_⟩
    · have := putN_len (md := md) (gt := gt) (ex := ex) (l := R.l) (i := ex.length) (Nat.le_refl _)
      rw [List.take_length] at this
      show (putN md gt ex R.l).length ≤ _
      omega
    · have := putN_few (md := md) (gt := gt) (ex := ex) (l := R.l) hf hex (i := ex.length) (Nat.le_refl _)
      rw [List.take_length] at this
      exact this
  · exact ⟨by omega, by omega, hf⟩
end Go.Abs
/- What modules export: how often a module is held. -/
namespace Go.Abs
set_option linter.unusedSimpArgs false
set_option linter.unusedVariables false
set_option maxHeartbeats 4000000
open Go.Proofs Go.Nm Go.Wd
set_option linter.unusedVariables false
set_option linter.unusedSectionVars false
set_option maxRecDepth 8000
variable {H : Heap}
theorem entR_F (l : List (ByteArray × Ent)) : entR l = mapF strV (fun e : Ent => .agg e.enc) l := rfl
def refE (md : ByteArray) (e : Ent) : Int := if e.md = md then e.rf else 0
def sumR (md : ByteArray) (l : List Ent) : Int := (l.map (refE md)).sum
theorem sum_perm : ∀ {l m : List Int}, l.Perm m → l.sum = m.sum := fun h => by
  induction h with
  | nil => rfl
  | cons x _ ih => simp [ih]
  | swap x y l => simp; omega
  | trans _ _ h1 h2 => exact h1.trans h2
theorem sumR_perm {md : ByteArray} {l m : List Ent} (h : l.Perm m) : sumR md l = sumR md m := sum_perm (h.map _)
theorem sumR_app (md : ByteArray) (l m : List Ent) : sumR md (l ++ m) = sumR md l + sumR md m := by unfold sumR; rw [List.map_append, List.sum_append]
/-- Few entries, each held a few times. -/
structure LFit (l : List Ent) : Prop where
  ll : l.length ≤ 10000
  rf : ∀ e ∈ l, 0 ≤ e.rf ∧ e.rf ≤ 8
theorem sumR_le {md : ByteArray} : ∀ {l : List Ent}, (∀ e ∈ l, 0 ≤ e.rf ∧ e.rf ≤ 8) → 0 ≤ sumR md l ∧ sumR md l ≤ 8 * l.length
  | [], _ => by simp [sumR]
  | e :: l, h => by
    have h1 := h e (by simp)
    have h2 := sumR_le (md := md) (l := l) fun x hx => h x (List.mem_cons_of_mem _ hx)
    unfold sumR at h2 ⊢
    simp only [List.map_cons, List.sum_cons, List.length_cons]
    unfold refE at h2 ⊢
    split <;> omega
theorem refsS_c {t mb eb : Nat} {S : Sym} (hS : SymAt H t mb eb S) (hf : LFit (S.ents.map (·.2))) (md : ByteArray) : AC Tryd.prog 22 [.s (.pointer (some ⟨t, 0, none⟩)), .s (.string md)] H (fun r H' => r = .s (.int .i64 (sumR md (S.ents.map (·.2)))) ∧ H' = H) := by
  refine AC.body Tryd.func22 rfl rfl (n := 28) (res := [.tmp 4]) rfl rfl (by simp) ?_
  simp only [ent]
  obtain ⟨h1, h2, h3⟩ := hS
  refine ARun.openF (enc := strV) (f := fun e : Ent => .agg e.enc) (l := S.ents) eb h3 fun l clock e1 e2 e3 => ?_
  have hte : (t = eb) = False := eq_false (by rintro rfl; rw [h1] at h3; cases h3)
  replace e1 := later e1
  replace e2 := later e2
  replace e3 := later e3
  replace hf := later hf
  (repeat' (first | refine wk ?_ | refine wk2 ?_ ?_ | with_reducible refine wkF fun _ _ _ => ?_ | with_reducible intro _ | refine Doing.fresh (oc_rangeF um56 (upd_self _ _ _)) fun _ _ _ => ?_ | exact ag | fail))
  rename_i b hb hbn
  have hbe : (b = eb) = False ∧ (eb = b) = False := by
    have := hbn eb (by rw [upd_self]; rfl)
    exact ⟨this.2, this.1⟩
  have hME : ∀ r, upd (upd H eb (mapBF strV (fun e : Ent => .agg e.enc) l clock)) b r eb = some (mapBF strV (fun e : Ent => .agg e.enc) l clock) := fun r => by rw [upd_eq, if_neg (by rw [hbe.2]; exact id)]; exact upd_self _ _ _
  replace hME := later hME
  refine ARun.midB ⟨[(5, .s (.int .i64 (sumR md (S.ents.map (·.2)))))], H⟩ ?_ fun k' nk => ?_
  · (repeat' (first | refine wk ?_ | refine wk2 ?_ ?_ | with_reducible refine wkF fun _ _ _ => ?_ | with_reducible intro _ | exact ag | fail))
    exact fin0
  refine ARun.rounds (fun st : List (Nat × ByteArray × Ent) × List (Nat × ByteArray × Ent) => ⟨[(1, .s (.string md)), (5, .s (.int .i64 (sumR md (st.1.map (·.2.2))))), (14, .s (.pointer (some ⟨b, 0, none⟩)))], upd (upd H eb (mapBF strV (fun e : Ent => .agg e.enc) l clock)) b (itR eb clock (st.1.map (·.1)) clock)⟩)
    (fun st => st.2.length) (fun st => (st.1 ++ st.2).Perm l) ?_ ([], l) (.refl _) ?_
  · rintro ⟨done, rest⟩ hperm next
    simp only [] at hperm ⊢
    replace hperm := later hperm
    have hfit : 0 ≤ sumR md (done.map (·.2.2)) ∧ sumR md (done.map (·.2.2)) ≤ 80000 ∧ ∀ e ∈ l, 0 ≤ e.2.2.rf ∧ e.2.2.rf ≤ 8 := by
      have hm : ∀ e ∈ l, 0 ≤ e.2.2.rf ∧ e.2.2.rf ≤ 8 := fun e he => hf.go.rf _ (by rw [← e1.go, List.map_map]; exact List.mem_map.2 ⟨e, he, rfl⟩)
      have hll : l.length ≤ 10000 := by have := hf.go.ll; rw [← e1.go] at this; simpa using this
      have hd : done.length ≤ l.length := by rw [← hperm.go.length_eq]; simp
      have := sumR_le (md := md) (l := done.map (·.2.2)) fun x hx => by
        obtain ⟨e, he, rfl⟩ := List.mem_map.1 hx
        exact hm e (hperm.go.mem_iff.1 (by simp [he]))
      simp only [List.length_map] at this
      exact ⟨this.1, by omega, hm⟩
    replace hfit := later hfit
    generalize hs : sumR md (done.map (·.2.2)) = acc at *
    (repeat' (first | refine wk ?_ | refine wk2 ?_ ?_ | with_reducible refine wkF fun _ _ _ => ?_ | with_reducible intro _ | exact ag | fail))
    refine Doing.by (oc_nextF (l := l) (clock := clock) (enc := strV) (f := fun e : Ent => .agg e.enc) (upd_self _ _ _) (hME.go _) e2.go e2.go) ?_
    rintro _ _ (⟨e, he, hn, rfl, rfl⟩ | ⟨hall, rfl, rfl⟩)
    · obtain ⟨rest', hr1, hr2, hr3⟩ := pick_one e3.go hperm.go he hn
      have nx := next.go (done ++ [e], rest') hr2 hr3
      simp only [List.map_append, List.map_cons, List.map_nil, sumR_app] at nx
      rw [hs] at nx
      have hrf := hfit.go.2.2 e he
      have hacc := hfit.go
      have hw := w64 (x := acc + e.2.2.rf) (by omega) (by omega)
      clear next hr1 hr2 hr3 hn hfit hacc hrf
      replace he := later he
      replace nx := later nx
      have ed : e.2.2.enc = [.s (.string e.2.2.nm), .s (.string e.2.2.md), .s (.int .i64 e.2.2.gt), .s (.int .i64 e.2.2.ix), .s (.int .i64 e.2.2.rf)] := rfl
      have hq : sumR md [e.2.2] = if e.2.2.md = md then e.2.2.rf else 0 := by simp [sumR, refE]
      rw [hq] at nx
      simp only [strV]
      clear hq
      cases hb2 : (e.2.2.md.toList == md.toList) with
      | true =>
        have hmd : e.2.2.md = md := by rw [str_eq] at hb2; simpa using hb2
        rw [if_pos hmd] at nx
        clear hmd
        (repeat' (first | refine wk ?_ | refine wk2 ?_ ?_ | with_reducible refine wkF fun _ _ _ => ?_ | with_reducible intro _ | refine Doing.eq (oc_entryF (l := l) (clock := clock) (enc := strV) (f := fun e : Ent => .agg e.enc) (p := e) (upd_self _ _ _) (hME.go _) he.go e3.go) ?_ | exact ag | fail))
        exact ARun.weaken nx.go (leK (by exact sb))
      | false =>
        have hmd : ¬ e.2.2.md = md := by rw [str_eq] at hb2; simpa using hb2
        rw [if_neg hmd, Int.add_zero] at nx
        clear hmd hw
        (repeat' (first | refine wk ?_ | refine wk2 ?_ ?_ | with_reducible refine wkF fun _ _ _ => ?_ | with_reducible intro _ | refine Doing.eq (oc_entryF (l := l) (clock := clock) (enc := strV) (f := fun e : Ent => .agg e.enc) (p := e) (upd_self _ _ _) (hME.go _) he.go e3.go) ?_ | exact ag | fail))
        exact ARun.weaken nx.go (leK (by exact sb))
    · obtain rfl := all_done e3.go hperm.go hall
      have hp : (done.map (·.2.2)).Perm (S.ents.map (·.2)) := by
        have := (hperm.go).map (·.2.2)
        rw [List.append_nil] at this
        rw [← e1.go, List.map_map]; exact this
      rw [sumR_perm hp] at hs
      subst hs
      have hback : upd (upd (upd H eb (mapBF strV (fun e : Ent => .agg e.enc) l clock)) b (itR eb clock (done.map (·.1)) clock)) eb (mapF strV (fun e : Ent => .agg e.enc) (l.map (·.2))) = upd H b (itR eb clock (done.map (·.1)) clock) := by
        rw [e1.go]
        funext x
        simp only [upd_eq]
        by_cases x1 : x = eb
        · subst x1; rw [if_pos rfl, if_neg (by rw [hbe.2]; exact id), h3]; rfl
        · rw [if_neg x1, if_neg x1]
      clear next hperm hall hfit hp
      (repeat' (first | refine wk ?_ | refine wk2 ?_ ?_ | with_reducible refine wkF fun _ _ _ => ?_ | with_reducible intro _ | exact ag | fail))
      refine ARun.shutF (z := l) eb (hME.go _) ?_
      rw [hback]
      exact ARun.weaken nk.go (leK (Sub.upd (Sub.refl H) (nu1 hb)))
  · have e0 : sumR md (([] : List (Nat × ByteArray × Ent)).map (·.2.2)) = 0 := rfl
    rw [e0]
    exact leK (Sub.refl _)
end Go.Abs
/- What modules export: a module is taken away. -/
namespace Go.Abs
set_option linter.unusedSimpArgs false
set_option linter.unusedVariables false
set_option maxHeartbeats 4000000
open Go.Proofs Go.Nm Go.Wd
set_option linter.unusedVariables false
set_option linter.unusedSectionVars false
set_option maxRecDepth 8000
variable {H : Heap}
/-- What is left of a map, of which so many were visited. -/
def leftM (p : Ent → Bool) (l : List (Nat × ByteArray × Ent)) (done : List Nat) : List (Nat × ByteArray × Ent) := l.filter fun x => !(decide (x.1 ∈ done) && p x.2.2)
theorem stamp_inj {l : List (Nat × ByteArray × Ent)} (hn : (l.map (·.1)).Nodup) {x y : Nat × ByteArray × Ent} (hx : x ∈ l) (hy : y ∈ l) (h : x.1 = y.1) : x = y := by
  obtain ⟨i, hi⟩ := List.mem_iff_getElem?.1 hx
  obtain ⟨j, hj⟩ := List.mem_iff_getElem?.1 hy
  have a : (l.map (·.1))[i]? = some x.1 := by rw [List.getElem?_map, hi]; rfl
  have c : (l.map (·.1))[j]? = some x.1 := by rw [List.getElem?_map, hj, h]; rfl
  have := (List.getElem?_inj (List.getElem?_eq_some_iff.1 a).1 hn).1 (a.trans c.symm)
  subst this
  rw [hi] at hj; exact Option.some.inj hj
theorem key_inj {l : List (Nat × ByteArray × Ent)} (hn : (l.map (·.2.1)).Nodup) {x y : Nat × ByteArray × Ent} (hx : x ∈ l) (hy : y ∈ l) (h : x.2.1 = y.2.1) : x = y := by
  obtain ⟨i, hi⟩ := List.mem_iff_getElem?.1 hx
  obtain ⟨j, hj⟩ := List.mem_iff_getElem?.1 hy
  have a : (l.map (·.2.1))[i]? = some x.2.1 := by rw [List.getElem?_map, hi]; rfl
  have c : (l.map (·.2.1))[j]? = some x.2.1 := by rw [List.getElem?_map, hj, h]; rfl
  have := (List.getElem?_inj (List.getElem?_eq_some_iff.1 a).1 hn).1 (a.trans c.symm)
  subst this
  rw [hi] at hj; exact Option.some.inj hj
theorem left_next {p : Ent → Bool} {l : List (Nat × ByteArray × Ent)} {done : List Nat} (h1 : (l.map (·.1)).Nodup) (h2 : (l.map (·.2.1)).Nodup) {e : Nat × ByteArray × Ent} (he : e ∈ l) :
    leftM p l (done ++ [e.1]) = if p e.2.2 then delF (·.2.1) e.2.1 (leftM p l done) else leftM p l done := by
  by_cases hp : p e.2.2 = true
  · unfold leftM
    rw [if_pos hp, delF_filter (h2.sublist (List.Sublist.map _ (List.filter_sublist)))]
    rw [List.filter_filter]
    refine List.filter_congr fun x hx => ?_
    by_cases q : x.1 = e.1
    · have := stamp_inj h1 hx he q
      subst this
      simp [hp]
    · have : ¬ e.2.1 = x.2.1 := fun h => q (by rw [key_inj h2 hx he h.symm])
      simp [q, this]
  · rw [if_neg hp]
    unfold leftM
    refine List.filter_congr fun x hx => ?_
    by_cases q : x.1 = e.1
    · have := stamp_inj h1 hx he q
      subst this
      simp [hp]
    · simp [q]
theorem left_in {p : Ent → Bool} {l : List (Nat × ByteArray × Ent)} {done : List Nat} {e : Nat × ByteArray × Ent} (h : e ∈ leftM p l done) : e ∈ l := (List.mem_filter.1 h).1
theorem left_of {p : Ent → Bool} {l : List (Nat × ByteArray × Ent)} {done : List Nat} {e : Nat × ByteArray × Ent} (h : e ∈ l) (hn : e.1 ∉ done) : e ∈ leftM p l done := List.mem_filter.2 ⟨h, by simp [hn]⟩
theorem rem1_c {b : Nat} {md : ByteArray} (hb : H b = some (.cells [.s (.string md)])) (k : TV) (e : Ent) : AC Tryd.prog 40 [k, .agg e.enc, .s (.pointer (some ⟨b, 0, none⟩))] H (fun r H' => r = .s (.bool (e.md.toList == md.toList)) ∧ H' = H) := by
  refine AC.body Tryd.func40 rfl rfl (n := 10) (res := [.tmp 5]) rfl rfl (by simp) ?_
  simp only [ent]
  simp only [Ent.enc_def]
  (repeat' (first | refine wk ?_ | refine wk2 ?_ ?_ | with_reducible refine wkF fun _ _ _ => ?_ | with_reducible intro _ | exact ag | fail))
  exact fin0
theorem keep3 {eb b x : Nat} {M I C : Root} (hb : H b = none) (hx : H x = none) : ∀ c r, c ≠ eb → H c = some r → upd (upd (upd H eb M) b I) x C c = some r := fun c r hc hr => by
  have h1 : c ≠ b := by rintro rfl; rw [hb] at hr; cases hr
  have h2 : c ≠ x := by rintro rfl; rw [hx] at hr; cases hr
  simp only [upd_eq, if_neg hc, if_neg h1, if_neg h2]; exact hr
theorem swap_sub {eb b x : Nat} {M M' I C : Root} (hb : H b = none) (hx : H x = none) (h1 : b ≠ eb) (h2 : x ≠ eb) (h3 : x ≠ b) : Sub (upd (upd H eb M') b I) (upd (upd (upd (upd H eb M) b I) x C) eb M') := by
  intro p r hp
  simp only [upd_eq] at hp ⊢
  by_cases q1 : p = eb
  · subst q1; simp only [if_neg h1.symm, if_true] at hp ⊢; exact hp
  · by_cases q2 : p = b
    · subst q2; simp only [if_neg q1, if_neg h3.symm, if_true] at hp ⊢; exact hp
    · by_cases q3 : p = x
      · subst q3; simp only [if_neg q1, if_neg q2] at hp; rw [hx] at hp; cases hp
      · simp only [if_neg q1, if_neg q2, if_neg q3] at hp ⊢; exact hp
theorem delFunc_c {eb : Nat} {ents : List (ByteArray × Ent)} (h3 : H eb = some (entR ents)) (hk : (ents.map (·.1)).Nodup) {fn : FuncId} {cap : List TV} {p : Ent → Bool} (hp : ∀ K, (∀ b r, b ≠ eb → H b = some r → K b = some r) → ∀ (k : ByteArray) (e : Ent), AC Tryd.prog fn ([] ++ [.s (.string k), .agg e.enc] ++ cap) K (fun r H' => r = .s (.bool (p e)) ∧ H' = K)) :
    AC Tryd.prog 39 [.s (.map (some eb)), .clo (.func fn) [] cap] H (fun r H' => r = .tup [] ∧ H' = upd H eb (entR (ents.filter fun x => !p x.2))) := by
  refine AC.body Tryd.func39 rfl rfl (n := 19) (res := []) rfl rfl (by simp) ?_
  simp only [ent]
  refine ARun.openF (enc := strV) (f := fun e : Ent => .agg e.enc) (l := ents) eb h3 fun l clock e1 e2 e3 => ?_
  have e4 : (l.map (·.2.1)).Nodup := by rw [← e1, List.map_map] at hk; exact hk
  replace e1 := later e1
  replace e2 := later e2
  replace e3 := later e3
  replace e4 := later e4
  replace hp := later hp
  (repeat' (first | refine wk ?_ | refine wk2 ?_ ?_ | with_reducible refine wkF fun _ _ _ => ?_ | with_reducible intro _ | refine Doing.fresh (oc_rangeF um56 (upd_self _ _ _)) fun _ _ _ => ?_ | exact ag | fail))
  rename_i b hb hbn
  have hbe : (b = eb) = False ∧ (eb = b) = False := by
    have := hbn eb (by rw [upd_self]; rfl)
    exact ⟨this.2, this.1⟩
  have hb0 := nu1 hb
  clear hb hbn
  refine ARun.midB ⟨[], upd H eb (entR (ents.filter fun x => !p x.2))⟩ ?_ fun k' nk => ?_
  · refine ARun.done ?_
    exact fin0
  have hME : ∀ M r, upd (upd H eb M) b r eb = some M := fun M r => by rw [upd_eq, if_neg (by rw [hbe.2]; exact id)]; exact upd_self _ _ _
  replace hME := later hME
  refine ARun.rounds (fun st : List (Nat × ByteArray × Ent) × List (Nat × ByteArray × Ent) => ⟨[(0, .s (.map (some eb))), (1, .clo (.func fn) [] cap), (7, .s (.pointer (some ⟨b, 0, none⟩)))], upd (upd H eb (mapBF strV (fun e : Ent => .agg e.enc) (leftM p l (st.1.map (·.1))) clock)) b (itR eb clock (st.1.map (·.1)) clock)⟩)
    (fun st => st.2.length) (fun st => (st.1 ++ st.2).Perm l) ?_ ([], l) (.refl _) ?_
  · rintro ⟨done, rest⟩ hperm next
    simp only [] at hperm ⊢
    replace hperm := later hperm
    generalize hdn : done.map (·.1) = dn at *
    (repeat' (first | refine wk ?_ | refine wk2 ?_ ?_ | with_reducible refine wkF fun _ _ _ => ?_ | with_reducible intro _ | exact ag | fail))
    refine Doing.by (oc_nextF (clock := clock) (enc := strV) (f := fun e : Ent => .agg e.enc) (upd_self _ _ _) (hME.go _ _) (fun e he => e2.go e (left_in he)) (fun e he => e2.go e (left_in he))) ?_
    rintro _ _ (⟨e, hel, hn, rfl, rfl⟩ | ⟨hall, rfl, rfl⟩)
    · have he := left_in hel
      obtain ⟨rest', hr1, hr2, hr3⟩ := pick_one e3.go hperm.go he (by rw [hdn]; exact hn)
      have nx := next.go (done ++ [e], rest') hr2 hr3
      simp only [List.map_append, List.map_cons, List.map_nil, hdn] at nx
      rw [left_next e3.go e4.go he] at nx
      have nd : ((leftM p l dn).map (·.1)).Nodup := e3.go.sublist (List.Sublist.map _ (List.filter_sublist))
      replace nd := later nd
      replace hel := later hel
      replace nx := later nx
      clear next hr1 hr2 hr3 hn he hperm hdn
      simp only [strV]
      cases hpe : p e.2.2 with
      | true =>
        rw [hpe, if_pos rfl] at nx
        (repeat' (first | refine wk ?_ | refine wk2 ?_ ?_ | with_reducible refine wkF fun _ _ _ => ?_ | with_reducible intro _ | refine Doing.eq (oc_entryF (clock := clock) (enc := strV) (f := fun e : Ent => .agg e.enc) (p := e) (upd_self _ _ _) (hME.go _ _) hel.go nd.go) ?_ | exact ag | fail))
        rename_i x hx hxn
        have hx0 := nu2 hx
        simp only [strV]
        refine Calling.eq (hp.go _ (keep3 hb0 hx0) e.2.1 e.2.2) ?_
        rw [hpe]
        (repeat' (first | refine wk ?_ | refine wk2 ?_ ?_ | with_reducible refine wkF fun _ _ _ => ?_ | with_reducible intro _ | exact ag | fail))
        have hxe := (hxn eb (by rw [hME.go]; rfl)).1
        refine Doing.eq (oc_deleteF (enc := strV) (f := fun e : Ent => .agg e.enc) (clock := clock) (l := leftM p l dn) (k := e.2.1) strK um56 ?_ rep_s) ?_
        · rw [upd_eq, if_neg (by rw [hxe]; exact id)]; exact hME.go _ _
        · (repeat' (first | refine wk ?_ | refine wk2 ?_ ?_ | with_reducible refine wkF fun _ _ _ => ?_ | with_reducible intro _ | exact ag | fail))
          exact ARun.weaken nx.go (leK (swap_sub hb0 hx0 (fun q => by rw [q] at hbe; simp at hbe) (fun q => by rw [q] at hxe; simp at hxe) (fun q => by rw [q, upd_self] at hx; cases hx)))
      | false =>
        rw [hpe, if_neg (by decide)] at nx
        (repeat' (first | refine wk ?_ | refine wk2 ?_ ?_ | with_reducible refine wkF fun _ _ _ => ?_ | with_reducible intro _ | refine Doing.eq (oc_entryF (clock := clock) (enc := strV) (f := fun e : Ent => .agg e.enc) (p := e) (upd_self _ _ _) (hME.go _ _) hel.go nd.go) ?_ | exact ag | fail))
        rename_i x hx hxn
        have hx0 := nu2 hx
        simp only [strV]
        refine Calling.eq (hp.go _ (keep3 hb0 hx0) e.2.1 e.2.2) ?_
        rw [hpe]
        (repeat' (first | refine wk ?_ | refine wk2 ?_ ?_ | with_reducible refine wkF fun _ _ _ => ?_ | with_reducible intro _ | exact ag | fail))
        exact ARun.weaken nx.go (leK (by exact sb))
    · obtain rfl := all_done e3.go hperm.go (fun e he => by
        rw [hdn]
        by_cases q : e.1 ∈ dn
        · exact q
        · exact hall e (left_of he q))
      have hcur : (leftM p l dn).map (·.2) = ents.filter fun x => !p x.2 := by
        rw [← e1.go, List.filter_map]
        congr 1
        unfold leftM
        refine List.filter_congr fun x hx => ?_
        have : x.1 ∈ dn := by
          rw [← hdn]
          have h := hperm.go.mem_iff.2 hx
          rw [List.append_nil] at h
          exact List.mem_map.2 ⟨x, h, rfl⟩
        simp [this]
      have hback : upd (upd (upd H eb (mapBF strV (fun e : Ent => .agg e.enc) (leftM p l dn) clock)) b (itR eb clock dn clock)) eb (mapF strV (fun e : Ent => .agg e.enc) ((leftM p l dn).map (·.2))) = upd (upd H eb (entR (ents.filter fun x => !p x.2))) b (itR eb clock dn clock) := by
        rw [hcur]
        funext x
        simp only [upd_eq]
        by_cases x1 : x = eb
        · subst x1; rw [if_pos rfl, if_neg (by rw [hbe.2]; exact id), if_pos rfl]; rfl
        · simp only [if_neg x1]
      clear next hperm hall hdn
      (repeat' (first | refine wk ?_ | refine wk2 ?_ ?_ | with_reducible refine wkF fun _ _ _ => ?_ | with_reducible intro _ | exact ag | fail))
      refine ARun.shutF (z := leftM p l dn) eb (hME.go _ _) ?_
      rw [hback]
      exact ARun.weaken nk.go (leK (Sub.upd (Sub.refl _) (none_put h3 hb0)))
  · have e0 : leftM p l (([] : List (Nat × ByteArray × Ent)).map (·.1)) = l := by unfold leftM; simp
    rw [e0]
    exact leK (Sub.refl _)
end Go.Abs
/- What modules export: Remove, Has. -/
namespace Go.Abs
set_option linter.unusedSimpArgs false
set_option linter.unusedVariables false
set_option maxHeartbeats 4000000
open Go.Proofs Go.Nm Go.Wd
set_option linter.unusedVariables false
set_option linter.unusedSectionVars false
set_option maxRecDepth 8000
variable {H : Heap}
theorem oc_delS {d : Option Tmp} {ty : TypeId} {pos : String} {aft : Array Edge} {g : Option (Nat × Bool)} {x y : Operand} {m : Nat} {ks : List ByteArray} (hm : H m = some (setR strV ks)) {k : ByteArray} :
    OC Tryd.prog ⟨d, .call { callee := .builtin .delete, args := #[x, y], argTypes := #[55, 9] }, ty, pos, aft, g⟩ [.s (.map (some m)), .s (.string k)] H (fun r H' => r = .any ∧ H' = upd H m (setR strV (delF id k ks))) := by
  have h := oc_delete (d := d) (ty := ty) (pos := pos) (aft := aft) (g := g) (x := x) (y := y) (t2 := 9) strK um55 hm (k := k) (kT := .s (.string k)) rep_s
  rw [delF_map] at h
  exact h
def mdB (md : ByteArray) (e : Ent) : Bool := e.md.toList == md.toList
def Sym.remE (S : Sym) (md : ByteArray) : Int := if inB md S.mods then if decide (0 < sumR md (S.ents.map (·.2))) then 26 else 0 else 8
def Sym.rem (S : Sym) (md : ByteArray) : Sym := if S.remE md = 0 then ⟨delF id md S.mods, S.ents.filter fun p => !mdB md p.2⟩ else S
theorem Sym.rem_no {S : Sym} {md : ByteArray} (h : S.remE md ≠ 0) : S.rem md = S := if_neg h
theorem hasT_c {t mb eb : Nat} {S : Sym} (hS : SymAt H t mb eb S) (md : ByteArray) : AC Tryd.prog 21 [.s (.pointer (some ⟨t, 0, none⟩)), .s (.string md)] H (fun r H' => r = .s (.bool (inB md S.mods)) ∧ H' = H) := by
  refine AC.body Tryd.func21 rfl rfl (n := 15) (res := [.tmp 4]) rfl rfl (by simp) ?_
  simp only [ent]
  obtain ⟨h1, h2, h3⟩ := hS
  (repeat' (first | refine wk ?_ | refine wk2 ?_ ?_ | with_reducible refine wkF fun _ _ _ => ?_ | with_reducible intro _ | refine Doing.eq (oc_hasS (ks := S.mods) (ag) rfl) ?_ | exact ag | fail))
  exact fin0
theorem rem_sub {b m e : Nat} {B M E : Root} (hb : H b = none) (hm : b ≠ m) (he : b ≠ e) : Sub (upd (upd H m M) e E) (upd (upd (upd H b B) m M) e E) := by
  intro p r hp
  have q : p ≠ b := by
    rintro rfl
    simp only [upd_eq, if_neg hm, if_neg he] at hp; rw [hb] at hp; cases hp
  simp only [upd_eq, if_neg q] at hp ⊢; exact hp
set_option maxHeartbeats 2000000 in
theorem removeS_c {t mb eb : Nat} {S : Sym} (hS : SymAt H t mb eb S) (n1 : t ≠ mb) (n2 : t ≠ eb) (n3 : mb ≠ eb) (hf : LFit (S.ents.map (·.2))) (hk : (S.ents.map (·.1)).Nodup) (md : ByteArray) :
    AC Tryd.prog 19 [.s (.pointer (some ⟨t, 0, none⟩)), .s (.string md)] H (fun r H' => r = .s (.int .i64 (S.remE md)) ∧ H' = upd (upd H mb (setR strV (S.rem md).mods)) eb (entR (S.rem md).ents)) := by
  refine AC.body Tryd.func19 rfl rfl (n := 32) (res := [.tmp 4]) rfl rfl (by simp) ?_
  simp only [ent]
  have hsame := later hS.same
  have F := fun K (k : SymAt K t mb eb S) => refsS_c (H := K) k hf md
  obtain ⟨h1, h2, h3⟩ := hS
  have hE : S.remE md = if inB md S.mods then if decide (0 < sumR md (S.ents.map (·.2))) then 26 else 0 else 8 := rfl
  replace hE := later hE
  replace F := later F
  clear hf
  (repeat' (first | refine wk ?_ | refine wk2 ?_ ?_ | with_reducible refine wkF fun _ _ _ => ?_ | with_reducible intro _ | exact ag | fail))
  rename_i b hb hbn
  have hat : SymAt (upd H b (.cells [.s (.string md)])) t mb eb S := ⟨by rw [upd_eq, if_neg (none_at hb h1)]; exact h1, by rw [upd_eq, if_neg (none_at hb h2)]; exact h2, by rw [upd_eq, if_neg (none_at hb h3)]; exact h3⟩
  have F' := F.go _ hat
  clear F
  replace hat := later hat
  generalize sumR md (S.ents.map (·.2)) = n0 at *
  cases q1 : inB md S.mods with
  | false =>
    have hE := hE.go
    rw [q1, if_neg (by decide)] at hE
    have hr := Sym.rem_no (S := S) (md := md) (by rw [hE]; decide)
    rw [hE, hr, hsame.go]
    clear hr F' hE
    skip
    refine ARun.drawT mixed [0, 1, 2, 3, 4] (.alt 5 [0, 1, 2] [6, 7] .leaf .nil) (by kernel_rfl) (by rfl) ?_
    (repeat' (first | refine wk ?_ | refine wk2 ?_ ?_ | with_reducible refine wkF fun _ _ _ => ?_ | with_reducible intro _ | refine Doing.eq (oc_hasS (ag) q1) ?_ | exact ag | fail))
    exact fin0
  | true =>
    have hE := hE.go
    rw [q1, if_pos rfl] at hE
    cases q2 : decide (0 < n0) with
    | true =>
      rw [q2, if_pos rfl] at hE
      have hr := Sym.rem_no (S := S) (md := md) (by rw [hE]; decide)
      rw [hE, hr, hsame.go]
      clear hr
      refine ARun.drawT mixed [0, 1, 2, 3, 4] (.alt 5 [0, 1, 2] [6, 7] .leaf .nil) (by kernel_rfl) (by rfl) ?_
      (repeat' (first | refine wk ?_ | refine wk2 ?_ ?_ | with_reducible refine wkF fun _ _ _ => ?_ | with_reducible intro _ | refine Doing.eq (oc_hasS (ag) q1) ?_ | refine Calling.eq (F') ?_ | exact ag | fail))
      exact fin0
    | false =>
      rw [q2, if_neg (by decide)] at hE
      have hr : S.rem md = ⟨delF id md S.mods, S.ents.filter fun p => !mdB md p.2⟩ := if_pos hE
      rw [hE, hr]
      clear hr hsame
      refine ARun.drawT mixed [0, 1, 2, 3, 4] (.alt 5 [0, 1, 2] [6, 7] .leaf .nil) (by kernel_rfl) (by rfl) ?_
      (repeat' (first | refine wk ?_ | refine wk2 ?_ ?_ | with_reducible refine wkF fun _ _ _ => ?_ | with_reducible intro _ | refine Doing.eq (oc_hasS (ag) q1) ?_ | refine Calling.eq (F') ?_ | exact ag | fail))
      refine ARun.drawT mixed [0, 1, 2, 3, 4] (.alt 5 [0, 1, 2] [] .leaf .nil) (by kernel_rfl) (by rfl) ?_
      (repeat' (first | refine wk ?_ | refine wk2 ?_ ?_ | with_reducible refine wkF fun _ _ _ => ?_ | with_reducible intro _ | refine Doing.eq (oc_delS (ks := S.mods) (ag)) ?_ | exact ag | fail))
      have hm : b ≠ mb := fun q => by rw [q, h2] at hb; cases hb
      have he : b ≠ eb := fun q => by rw [q, h3] at hb; cases hb
      refine Calling.eq (delFunc_c (ents := S.ents) (p := mdB md) (fn := 40) (cap := [.s (.pointer (some ⟨b, 0, none⟩))]) (by rw [upd_eq, if_neg n3.symm, upd_eq, if_neg he.symm]; exact h3) hk fun K hK k e => rem1_c (hK b _ he (by rw [upd_eq, if_neg hm, upd_self])) (.s (.string k)) e) ?_
      (repeat' (first | refine wk ?_ | refine wk2 ?_ ?_ | with_reducible refine wkF fun _ _ _ => ?_ | with_reducible intro _ | exact ag | fail))
      exact Fin.plain agr (rem_sub hb hm he) ⟨rfl, rfl⟩
end Go.Abs
/- What modules export: entries that are counted, pure. -/
namespace Go.Abs
set_option linter.unusedSimpArgs false
set_option linter.unusedVariables false
open Go.Proofs Go.Nm Go.Wd
set_option linter.unusedVariables false
set_option linter.unusedSectionVars false
set_option maxRecDepth 8000
abbrev Ents := List (ByteArray × Ent)
def updE (D ents : Ents) : Ents := ents.map fun p => (p.1, (getE p.1 D).getD p.2)
theorem getE_put {k s : ByteArray} {e : Ent} : ∀ {D : Ents}, getE k (putE s e D) = if k = s then some e else getE k D
  | [] => by unfold putE; simp only [getE]
  | (a, u) :: D => by
    unfold putE
    by_cases q : s = a
    · rw [if_pos q]
      simp only [getE]
      by_cases h : k = s
      · rw [if_pos h, if_pos h]
      · rw [if_neg h, if_neg h, if_neg (by rw [← q]; exact h)]
    · rw [if_neg q]
      simp only [getE]
      by_cases h : k = a
      · rw [if_pos h, if_pos h, if_neg (by rw [h]; exact fun e => q e.symm)]
      · rw [if_neg h, if_neg h]; exact getE_put
theorem putE_keys {s : ByteArray} {e : Ent} : ∀ {D : Ents}, (s ∈ D.map (·.1) ∧ (putE s e D).map (·.1) = D.map (·.1)) ∨ (s ∉ D.map (·.1) ∧ (putE s e D).map (·.1) = D.map (·.1) ++ [s])
  | [] => .inr ⟨by simp, rfl⟩
  | (a, u) :: D => by
    unfold putE
    by_cases q : s = a
    · rw [if_pos q]; exact .inl ⟨by simp [q], by simp [q]⟩
    · rw [if_neg q]
      simp only [List.map_cons, List.mem_cons]
      rcases putE_keys (s := s) (e := e) (D := D) with ⟨h1, h2⟩ | ⟨h1, h2⟩
      · exact .inl ⟨.inr h1, by rw [h2]⟩
      · exact .inr ⟨by rintro (h | h); exact q h; exact h1 h, by rw [h2]; rfl⟩
theorem putE_nodup {s : ByteArray} {e : Ent} {D : Ents} (h : (D.map (·.1)).Nodup) : ((putE s e D).map (·.1)).Nodup := by
  rcases putE_keys (s := s) (e := e) (D := D) with ⟨_, h2⟩ | ⟨q, h2⟩
  · rw [h2]; exact h
  · rw [h2, List.nodup_append]
    exact ⟨h, by simp, fun a ha b hb => by simp at hb; subst hb; exact fun e => q (e ▸ ha)⟩
theorem putE_sub {s : ByteArray} {e : Ent} {D : Ents} {K : List ByteArray} (h : ∀ k ∈ D.map (·.1), k ∈ K) (hs : s ∈ K) : ∀ k ∈ (putE s e D).map (·.1), k ∈ K := by
  rcases putE_keys (s := s) (e := e) (D := D) with ⟨_, h2⟩ | ⟨q, h2⟩ <;> rw [h2]
  · exact h
  · intro k hk
    rcases List.mem_append.1 hk with hk | hk
    · exact h k hk
    · simp at hk; subst hk; exact hs
theorem getE_of_mem {k : ByteArray} {e : Ent} {D : Ents} (hn : (D.map (·.1)).Nodup) (h : (k, e) ∈ D) : getE k D = some e := (getE_some hn).2 h
theorem updE_keys (D ents : Ents) : (updE D ents).map (·.1) = ents.map (·.1) := by unfold updE; rw [List.map_map]; rfl
theorem updE_nil (ents : Ents) : updE [] ents = ents := by
  unfold updE
  conv => rhs; rw [← List.map_id ents]
  exact List.map_congr_left fun p _ => rfl
theorem putE_in {k : ByteArray} {e : Ent} : ∀ {l : Ents}, (l.map (·.1)).Nodup → k ∈ l.map (·.1) → putE k e l = l.map fun p => if p.1 = k then (k, e) else p
  | [], _, h => by cases h
  | (a, u) :: l, hn, h => by
    simp only [List.map_cons, List.nodup_cons] at hn
    unfold putE
    by_cases q : k = a
    · rw [if_pos q]
      simp only [List.map_cons]
      rw [if_pos q.symm]
      congr 1
      conv => lhs; rw [← List.map_id l]
      refine List.map_congr_left fun p hp => ?_
      rw [if_neg (fun e2 => hn.1 (by rw [← q, ← e2]; exact List.mem_map.2 ⟨p, hp, rfl⟩))]; rfl
    · rw [if_neg q]
      simp only [List.map_cons]
      rw [if_neg (fun e2 => q e2.symm)]
      rw [putE_in hn.2 (by
        rcases List.mem_cons.1 h with h | h
        · exact absurd h q
        · exact h)]
theorem putE_upd {k : ByteArray} {e : Ent} {D ents : Ents} (hn : (ents.map (·.1)).Nodup) (hk : k ∈ ents.map (·.1)) (hD : k ∉ D.map (·.1)) : putE k e (updE D ents) = updE (D ++ [(k, e)]) ents := by
  rw [putE_in (by rw [updE_keys]; exact hn) (by rw [updE_keys]; exact hk)]
  unfold updE
  rw [List.map_map]
  refine List.map_congr_left fun p hp => ?_
  simp only [Function.comp_def]
  have app : ∀ {D : Ents}, k ∉ D.map (·.1) → getE p.1 (D ++ [(k, e)]) = if p.1 = k then some e else getE p.1 D := by
    intro D
    induction D with
    | nil => intro _; rfl
    | cons x D ih =>
      intro h
      simp only [List.map_cons, List.mem_cons, not_or] at h
      obtain ⟨a, u⟩ := x
      simp only [List.cons_append, getE]
      by_cases q : p.1 = a
      · rw [if_pos q, if_pos q, if_neg (fun e2 => h.1 (e2.symm.trans q))]
      · rw [if_neg q, if_neg q]; exact ih h.2
  rw [app hD]
  by_cases q : p.1 = k
  · rw [if_pos q, if_pos q, q]; rfl
  · rw [if_neg q, if_neg q]
theorem updE_perm {D D' ents : Ents} (hn : (D.map (·.1)).Nodup) (h : D.Perm D') : updE D ents = updE D' ents := by
  unfold updE
  refine List.map_congr_left fun p _ => ?_
  have hn' : (D'.map (·.1)).Nodup := ((h.map _).nodup_iff).1 hn
  have : getE p.1 D = getE p.1 D' := by
    apply Option.ext; intro e
    rw [getE_some hn, getE_some hn', h.mem_iff]
  rw [this]
def Ent.add (e : Ent) (by_ : Int) : Ent := ⟨e.nm, e.md, e.gt, e.ix, e.rf + by_⟩
def bumpP (by_ : Int) (s : ByteArray) (ents : Ents) : Ents := ents.map fun p => if p.1 = s then (p.1, p.2.add by_) else p
def refP (s : ByteArray) (ents : Ents) : Int := ((getE s ents).getD Ent.zero).rf
def cntP (by_ : Int) : List ByteArray → Ents → Int × Ents
  | [], ents => (0, ents)
  | s :: ns, ents => if decide (8 < refP s (bumpP by_ s ents)) then (25, ents) else if decide (refP s (bumpP by_ s ents) < 0) then (2, ents) else cntP by_ ns (bumpP by_ s ents)
theorem cntP_cons (by_ : Int) (s : ByteArray) (ns : List ByteArray) (ents : Ents) : cntP by_ (s :: ns) ents = if decide (8 < refP s (bumpP by_ s ents)) then (25, ents) else if decide (refP s (bumpP by_ s ents) < 0) then (2, ents) else cntP by_ ns (bumpP by_ s ents) := rfl
theorem bumpP_keys (by_ : Int) (s : ByteArray) (ents : Ents) : (bumpP by_ s ents).map (·.1) = ents.map (·.1) := by
  unfold bumpP
  rw [List.map_map]
  refine List.map_congr_left fun p _ => ?_
  simp only [Function.comp_def]
  split <;> rfl
theorem getE_bump {by_ : Int} {s k : ByteArray} : ∀ {ents : Ents}, getE k (bumpP by_ s ents) = if k = s then (getE k ents).map (·.add by_) else getE k ents
  | [] => by simp [bumpP, getE]
  | (a, u) :: l => by
    have ih := getE_bump (by_ := by_) (s := s) (k := k) (ents := l)
    unfold bumpP at ih ⊢
    simp only [List.map_cons]
    by_cases q : a = s
    · rw [if_pos q]
      simp only [getE]
      by_cases h : k = a
      · rw [if_pos h, if_pos h, if_pos (h.trans q)]; rfl
      · rw [if_neg h, if_neg h]; exact ih
    · rw [if_neg q]
      simp only [getE]
      by_cases h : k = a
      · rw [if_pos h, if_pos h, if_neg (by rw [h]; exact q)]
      · rw [if_neg h, if_neg h]; exact ih
/-- One name counted, in the program's way. -/
theorem upd_bump {by_ : Int} {s : ByteArray} {D ents : Ents} (hn : (ents.map (·.1)).Nodup) {e : Ent} (he : getE s (updE D ents) = some e) : updE (putE s (e.add by_) D) ents = bumpP by_ s (updE D ents) := by
  have hn2 : ((updE D ents).map (·.1)).Nodup := by rw [updE_keys]; exact hn
  unfold bumpP
  conv => rhs; unfold updE
  rw [List.map_map]
  unfold updE
  refine List.map_congr_left fun p hp => ?_
  simp only [Function.comp_def]
  rw [getE_put]
  by_cases q : p.1 = s
  · rw [if_pos q, if_pos q]
    have h1 : (p.1, (getE p.1 D).getD p.2) ∈ updE D ents := List.mem_map.2 ⟨p, hp, rfl⟩
    have h2 := getE_of_mem hn2 h1
    rw [q, he] at h2
    have h3 := Option.some.inj h2
    simp only [Option.getD_some]
    rw [h3, q]
  · rw [if_neg q, if_neg q]
theorem getE_upd {k : ByteArray} {D : Ents} : ∀ {ents : Ents}, getE k (updE D ents) = (getE k ents).map fun u => (getE k D).getD u
  | [] => rfl
  | (a, u) :: l => by
    have ih := getE_upd (k := k) (D := D) (ents := l)
    unfold updE at ih ⊢
    simp only [List.map_cons, getE]
    by_cases h : k = a
    · rw [if_pos h, if_pos h]; subst h; rfl
    · rw [if_neg h, if_neg h]; exact ih
theorem refP_bump {by_ : Int} {s : ByteArray} {ents : Ents} {e : Ent} (h : getE s ents = some e) : refP s (bumpP by_ s ents) = e.rf + by_ := by
  unfold refP; rw [getE_bump, if_pos rfl, h]; rfl
theorem bump_fit {by_ : Int} {s : ByteArray} {ents : Ents} (hn : (ents.map (·.1)).Nodup) (hf : LFit (ents.map (·.2))) {e : Ent} (he : getE s ents = some e) (h1 : 0 ≤ e.rf + by_) (h2 : e.rf + by_ ≤ 8) : LFit ((bumpP by_ s ents).map (·.2)) := by
  refine ⟨by unfold bumpP; simpa using hf.ll, fun x hx => ?_⟩
  obtain ⟨p, hp, rfl⟩ := List.mem_map.1 hx
  unfold bumpP at hp
  obtain ⟨q, hq, rfl⟩ := List.mem_map.1 hp
  by_cases c : q.1 = s
  · rw [if_pos c]
    have : getE q.1 ents = some q.2 := getE_of_mem hn hq
    rw [c, he] at this
    have h3 := Option.some.inj this
    show 0 ≤ (q.2.add by_).rf ∧ (q.2.add by_).rf ≤ 8
    rw [← h3]; exact ⟨h1, h2⟩
  · rw [if_neg c]
    exact hf.rf _ (List.mem_map.2 ⟨q, hq, rfl⟩)
end Go.Abs
/- What modules export: entries that are counted. -/
namespace Go.Abs
set_option linter.unusedSimpArgs false
set_option linter.unusedVariables false
set_option maxHeartbeats 4000000
open Go.Proofs Go.Nm Go.Wd
set_option linter.unusedVariables false
set_option linter.unusedSectionVars false
set_option maxRecDepth 8000
variable {H : Heap}
theorem copy_sub {eb nb b : Nat} {M I E E0 : Root} (hb : H b = none) (hn : H nb = some E0) (h1 : eb ≠ nb) (h2 : b ≠ eb) : Sub (upd H eb E) (upd (upd (upd (upd H nb M) eb E) b I) nb E0) := by
  intro p r hp
  have q : p ≠ b := by
    rintro rfl
    simp only [upd_eq, if_neg h2] at hp; rw [hb] at hp; cases hp
  simp only [upd_eq] at hp ⊢
  by_cases g : p = eb
  · subst g; rw [if_pos rfl] at hp; rw [if_neg h1, if_neg q, if_pos rfl]; exact hp
  · rw [if_neg g] at hp
    by_cases g2 : p = nb
    · subst g2; rw [if_pos rfl]; rw [hn] at hp; exact hp
    · rw [if_neg g2, if_neg q, if_neg g, if_neg g2]; exact hp
theorem copyE_c {eb nb : Nat} {ents D : Ents} (h3 : H eb = some (entR ents)) (hn : H nb = some (entR D)) (hk : (ents.map (·.1)).Nodup) (hd : (D.map (·.1)).Nodup) (hsub : ∀ k ∈ D.map (·.1), k ∈ ents.map (·.1)) (hne : eb ≠ nb) :
    AC Tryd.prog 51 [.s (.map (some eb)), .s (.map (some nb))] H (fun r H' => r = .tup [] ∧ H' = upd H eb (entR (updE D ents))) := by
  refine AC.body Tryd.func51 rfl rfl (n := 16) (res := []) rfl rfl (by simp) ?_
  simp only [ent]
  refine ARun.openF (enc := strV) (f := fun e : Ent => .agg e.enc) (l := D) nb hn fun l clock e1 e2 e3 => ?_
  replace e1 := later e1
  replace e2 := later e2
  replace e3 := later e3
  (repeat' (first | refine wk ?_ | refine wk2 ?_ ?_ | with_reducible refine wkF fun _ _ _ => ?_ | with_reducible intro _ | refine Doing.fresh (oc_rangeF um56 (upd_self _ _ _)) fun _ _ _ => ?_ | exact ag | fail))
  rename_i b hb hbn
  have hbn' : (b = nb) = False ∧ (nb = b) = False := by
    have := hbn nb (by rw [upd_self]; rfl)
    exact ⟨this.2, this.1⟩
  have hbe : (b = eb) = False ∧ (eb = b) = False := by
    have := hbn eb (by rw [upd_eq, if_neg hne, h3]; rfl)
    exact ⟨this.2, this.1⟩
  have hb0 := nu1 hb
  clear hb hbn
  refine ARun.midB ⟨[], upd H eb (entR (updE D ents))⟩ ?_ fun k' nk => ?_
  · refine ARun.done ?_
    exact fin0
  have hMN : ∀ E r, upd (upd (upd H nb (mapBF strV (fun e : Ent => .agg e.enc) l clock)) eb E) b r nb = some (mapBF strV (fun e : Ent => .agg e.enc) l clock) := fun E r => by rw [upd_eq, if_neg (by rw [hbn'.2]; exact id), upd_eq, if_neg hne.symm]; exact upd_self _ _ _
  replace hMN := later hMN
  refine ARun.rounds (fun st : List (Nat × ByteArray × Ent) × List (Nat × ByteArray × Ent) => ⟨[(0, .s (.map (some eb))), (7, .s (.pointer (some ⟨b, 0, none⟩)))], upd (upd (upd H nb (mapBF strV (fun e : Ent => .agg e.enc) l clock)) eb (entR (updE (st.1.map (·.2)) ents))) b (itR nb clock (st.1.map (·.1)) clock)⟩)
    (fun st => st.2.length) (fun st => (st.1 ++ st.2).Perm l) ?_ ([], l) (.refl _) ?_
  · rintro ⟨done, rest⟩ hperm next
    simp only [] at hperm ⊢
    replace hperm := later hperm
    generalize hdn : done.map (·.1) = dn at *
    generalize hdd : done.map (·.2) = dd at *
    (repeat' (first | refine wk ?_ | refine wk2 ?_ ?_ | with_reducible refine wkF fun _ _ _ => ?_ | with_reducible intro _ | exact ag | fail))
    refine Doing.by (oc_nextF (clock := clock) (enc := strV) (f := fun e : Ent => .agg e.enc) (upd_self _ _ _) (hMN.go _ _) e2.go e2.go) ?_
    rintro _ _ (⟨e, he, hnm, rfl, rfl⟩ | ⟨hall, rfl, rfl⟩)
    · obtain ⟨rest', hr1, hr2, hr3⟩ := pick_one e3.go hperm.go he (by rw [hdn]; exact hnm)
      have nx := next.go (done ++ [e], rest') hr2 hr3
      simp only [List.map_append, List.map_cons, List.map_nil, hdn, hdd] at nx
      have hmemD : (e.2.1, e.2.2) ∈ D := by rw [← e1.go]; exact List.mem_map.2 ⟨e, he, rfl⟩
      have hnd : e.2.1 ∉ dd.map (·.1) := by
        intro hx
        rw [← hdd] at hx
        obtain ⟨y, hy, hye⟩ := List.mem_map.1 hx
        obtain ⟨z, hz, rfl⟩ := List.mem_map.1 hy
        have hzl : z ∈ l := hperm.go.mem_iff.1 (by simp [hz])
        have hkl : (l.map (·.2.1)).Nodup := by rw [← e1.go, List.map_map] at hd; exact hd
        have := key_inj hkl hzl he hye
        subst this
        exact hnm (by rw [← hdn]; exact List.mem_map.2 ⟨z, hz, rfl⟩)
      have hput := putE_upd (e := e.2.2) hk (hsub _ (List.mem_map.2 ⟨_, hmemD, rfl⟩)) hnd
      rw [show (dd ++ [e.2] : Ents) = dd ++ [(e.2.1, e.2.2)] from rfl, ← hput] at nx
      replace he := later he
      replace nx := later nx
      clear next hr1 hr2 hr3 hnm hperm hdn hmemD hnd hput hdd
      generalize updE dd ents = cur at *
      simp only [strV]
      (repeat' (first | refine wk ?_ | refine wk2 ?_ ?_ | with_reducible refine wkF fun _ _ _ => ?_ | with_reducible intro _ | refine Doing.eq (oc_entryF (clock := clock) (enc := strV) (f := fun e : Ent => .agg e.enc) (p := e) (upd_self _ _ _) (hMN.go _ _) he.go e3.go) ?_ | exact ag | fail))
      rename_i x hx hxn
      have hxe := (hxn eb (by rw [upd_eq, if_neg (by rw [hbe.2]; exact id), upd_self]; rfl)).1
      have hx0 := nu2 hx
      simp only [strV]
      refine Doing.eq (oc_putEnt (l := cur) (k := e.2.1) (e := e.2.2) (by rw [upd_eq, if_neg (by rw [hxe]; exact id), upd_eq, if_neg (by rw [hbe.2]; exact id), upd_self])) ?_
      (repeat' (first | refine wk ?_ | refine wk2 ?_ ?_ | with_reducible refine wkF fun _ _ _ => ?_ | with_reducible intro _ | exact ag | fail))
      have hb1 : upd H nb (mapBF strV (fun e : Ent => .agg e.enc) l clock) b = none := by rw [upd_eq, if_neg (by rw [hbn'.1]; exact id)]; exact hb0
      exact ARun.weaken nx.go (leK (swap_sub hb1 hx0 (fun q => by rw [q] at hbe; simp at hbe) (fun q => by rw [q] at hxe; simp at hxe) (fun q => by rw [q, upd_self] at hx; cases hx)))
    · obtain rfl := all_done e3.go hperm.go (fun e he => by rw [hdn]; exact hall e he)
      have hp : dd.Perm D := by
        have := hperm.go.map (·.2)
        rw [List.append_nil, hdd, e1.go] at this; exact this
      have hu : updE dd ents = updE D ents := updE_perm (((hp.map _).nodup_iff).2 hd) hp
      rw [hu]
      clear next hperm hall hdn hp hu
      (repeat' (first | refine wk ?_ | refine wk2 ?_ ?_ | with_reducible refine wkF fun _ _ _ => ?_ | with_reducible intro _ | exact ag | fail))
      refine ARun.shutF (z := l) nb (hMN.go _ _) ?_
      rw [e1.go]
      exact ARun.weaken nk.go (leK (copy_sub hb0 hn hne (fun q => by rw [q] at hbe; simp at hbe)))
  · have e0 : updE (([] : List (Nat × ByteArray × Ent)).map (·.2)) ents = ents := updE_nil ents
    rw [e0]
    have hs : Sub (upd (upd (upd H nb (mapBF strV (fun e : Ent => .agg e.enc) l clock)) eb (entR ents)) b (itR nb clock [] clock)) (upd (upd H nb (mapBF strV (fun e : Ent => .agg e.enc) l clock)) b (itR nb clock [] clock)) := by
      rw [upd_same (H := upd H nb (mapBF strV (fun e : Ent => .agg e.enc) l clock)) (b := eb) (by rw [upd_eq, if_neg hne]; exact h3)]
      exact Sub.refl _
    exact leK hs
theorem cnt1_c {t mb eb b : Nat} {S : Sym} (hS : SymAt H t mb eb S) (hb : H b = some (.cells [.s (.pointer (some ⟨t, 0, none⟩))])) (s : ByteArray) : AC Tryd.prog 50 [.s (.string s), .s (.pointer (some ⟨b, 0, none⟩))] H (fun r H' => r = .s (.bool (S.lost s)) ∧ H' = H) := by
  refine AC.body Tryd.func50 rfl rfl (n := 8) (res := [.tmp 3]) rfl rfl (by simp) ?_
  simp only [ent]
  have T := there_s hS s
  have q : S.lost s = !(getE s S.ents).isSome := rfl
  rw [q]
  clear q
  (repeat' (first | refine wk ?_ | refine wk2 ?_ ?_ | with_reducible refine wkF fun _ _ _ => ?_ | with_reducible intro _ | refine Calling.eq (T) ?_ | exact ag | fail))
  exact fin0
end Go.Abs
