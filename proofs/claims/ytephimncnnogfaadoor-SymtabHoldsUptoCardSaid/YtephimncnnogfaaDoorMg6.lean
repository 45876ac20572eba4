import Derived.Test.YtephimncnnogfaaDoorMg5
/- Names' order, and what is sorted by it. -/
namespace Go.Abs
set_option linter.unusedSimpArgs false
set_option linter.unusedVariables false
open Go.Proofs Go.Nm Go.Wd
set_option linter.unusedVariables false
set_option linter.unusedSectionVars false
set_option maxRecDepth 8000
theorem lessS_names {a b : ByteArray} (ha : chk a = 0) (hb : chk b = 0) : (lessS a b = true) ↔ (Nm.cutA a).toList < (Nm.cutA b).toList ∨ ((Nm.cutA a).toList = (Nm.cutA b).toList ∧ ver (cutB a) < ver (cutB b)) := by
  have ea : splitR a = (Nm.cutA a, ver (cutB a), 0) := by unfold splitR; rw [if_pos ha]
  have eb : splitR b = (Nm.cutA b, ver (cutB b), 0) := by unfold splitR; rw [if_pos hb]
  unfold lessS
  rw [ha, hb, ea, eb]
  simp only [bne_self_eq_false, Bool.or_self, Bool.false_eq_true, if_false, Go.Proofs.bytesLess_eq, Bool.or_eq_true, decide_eq_true_eq, Bool.and_eq_true, beq_iff_eq]
theorem lt_tr {a b c : List UInt8} (h : a < b) (g : b < c) : a < c := List.lt_trans h g
theorem lt_tri (a b : List UInt8) : a < b ∨ a = b ∨ b < a := by
  by_cases h : a < b
  · exact .inl h
  · by_cases g : b < a
    · exact .inr (.inr g)
    · exact .inr (.inl (List.le_antisymm (List.not_lt.1 g) (List.not_lt.1 h)))
theorem lessS_irr {a : ByteArray} (ha : chk a = 0) : lessS a a = false := by
  rw [Bool.eq_false_iff, ne_eq, lessS_names ha ha]
  rintro (h | ⟨_, h⟩)
  · exact List.lt_irrefl _ h
  · omega
theorem lessS_tr {a b c : ByteArray} (ha : chk a = 0) (hb : chk b = 0) (hc : chk c = 0) (h : lessS a b = true) (g : lessS b c = true) : lessS a c = true := by
  rw [lessS_names ha hb] at h
  rw [lessS_names hb hc] at g
  rw [lessS_names ha hc]
  rcases h with h | ⟨h1, h2⟩ <;> rcases g with g | ⟨g1, g2⟩
  · exact .inl (lt_tr h g)
  · exact .inl (g1 ▸ h)
  · exact .inl (h1 ▸ g)
  · exact .inr ⟨h1.trans g1, by omega⟩
theorem lessS_tri {a b : ByteArray} (ha : chk a = 0) (hb : chk b = 0) : lessS a b = true ∨ a = b ∨ lessS b a = true := by
  rw [lessS_names ha hb, lessS_names hb ha]
  rcases lt_tri (Nm.cutA a).toList (Nm.cutA b).toList with h | h | h
  · exact .inl (.inl h)
  · rcases Int.lt_trichotomy (ver (cutB a)) (ver (cutB b)) with g | g | g
    · exact .inl (.inr ⟨h, g⟩)
    · exact .inr (.inl (names_eq a b ha hb h g))
    · exact .inr (.inr (.inr ⟨h.symm, g⟩))
  · exact .inr (.inr (.inl h))
/-- Entries with names that may be, short ones. -/
abbrev VEnt := { e : Ent // chk e.nm = 0 ∧ few e.nm }
instance : Inhabited VEnt := ⟨⟨⟨⟨#[97]⟩, ⟨#[]⟩, 0, 0, 0⟩, by kernel_rfl, by unfold few; decide⟩⟩
theorem vcmp_lt (x y : VEnt) : Go.Proofs.ltOf (fun x y : VEnt => cmpE x.1 y.1) x y = lessS x.1.nm y.1.nm := by
  have key : ∀ a b : Bool, decide ((if a = true then (-1 : Int) else if b = true then 1 else 0) < 0) = a := by decide
  exact key _ _
theorem vswo : Go.Sort.SWO (Go.Proofs.ltOf fun x y : VEnt => cmpE x.1 y.1) where
  irrefl := fun x => by rw [vcmp_lt]; exact lessS_irr x.2.1
  trans := fun x y z h g => by rw [vcmp_lt] at *; exact lessS_tr x.2.1 y.2.1 z.2.1 h g
  ntrans := fun x y z h g => by
    rw [vcmp_lt] at *
    rw [Bool.eq_false_iff] at *
    intro k
    rcases lessS_tri x.2.1 y.2.1 with a | a | a
    · exact h a
    · rw [a] at k; exact g k
    · exact g (lessS_tr y.2.1 x.2.1 z.2.1 a k)
/-- Sorted, each once. -/
def Ordered : List Ent → Prop
  | [] => True
  | x :: l => (∀ y ∈ l, lessS x.nm y.nm = true) ∧ Ordered l
theorem ordered_unique : ∀ {l m : List Ent}, (∀ e ∈ l, chk e.nm = 0) → Ordered l → Ordered m → l.Perm m → l = m
  | [], m, _, _, _, h => (List.nil_perm.1 h).symm
  | x :: l, [], _, _, _, h => by have := h.length_eq; simp at this
  | x :: l, y :: m, hc, hl, hm, h => by
    have hcm : ∀ e ∈ y :: m, chk e.nm = 0 := fun e he => hc e (h.mem_iff.2 he)
    have hxy : x = y := by
      have h1 : x ∈ y :: m := h.mem_iff.1 (by simp)
      have h2 : y ∈ x :: l := h.mem_iff.2 (by simp)
      rcases List.mem_cons.1 h1 with e | h1
      · exact e
      · rcases List.mem_cons.1 h2 with e | h2
        · exact e.symm
        · exfalso
          have a := hm.1 x h1
          have b := hl.1 y h2
          have cx := hc x (by simp)
          have cy := hcm y (by simp)
          have := lessS_tr cx cy cx b a
          rw [lessS_irr cx] at this; cases this
    subst hxy
    rw [ordered_unique (fun e he => hc e (by simp [he])) hl.2 hm.2 (List.perm_cons x |>.1 h)]
theorem ordered_of {l : List Ent} (hc : ∀ e ∈ l, chk e.nm = 0) (hn : (l.map (·.nm)).Nodup) (hs : ∀ (i j : Nat) (x y : Ent), i < j → l[i]? = some x → l[j]? = some y → lessS y.nm x.nm = false) : Ordered l := by
  induction l with
  | nil => trivial
  | cons x l ih =>
    simp only [List.map_cons, List.nodup_cons] at hn
    refine ⟨fun y hy => ?_, ih (fun e he => hc e (by simp [he])) hn.2 fun i j a b hij ha hb => hs (i + 1) (j + 1) a b (by omega) (by simpa using ha) (by simpa using hb)⟩
    obtain ⟨j, hj⟩ := List.mem_iff_getElem?.1 hy
    have h1 := hs 0 (j + 1) x y (by omega) rfl (by simpa using hj)
    rcases lessS_tri (hc x (by simp)) (hc y (by simp [hy])) with h | h | h
    · exact h
    · exact absurd (List.mem_map.2 ⟨y, hy, h.symm⟩) hn.1
    · rw [h1] at h; cases h
theorem putL_ordered {e : Ent} (he : chk e.nm = 0) : ∀ {l : List Ent}, (∀ x ∈ l, chk x.nm = 0) → (∀ x ∈ l, x.nm ≠ e.nm) → Ordered l → Ordered (putL e l)
  | [], _, _, _ => ⟨fun y hy => (List.not_mem_nil hy).elim, trivial⟩
  | x :: l, hc, hne, ho => by
    unfold putL
    cases q : lessS x.nm e.nm with
    | true =>
      rw [if_pos rfl]
      refine ⟨fun y hy => ?_, putL_ordered he (fun y hy => hc y (by simp [hy])) (fun y hy => hne y (by simp [hy])) ho.2⟩
      rcases putL_mem.1 hy with rfl | hy
      · exact q
      · exact ho.1 y hy
    | false =>
      rw [if_neg (by decide)]
      have hx : lessS e.nm x.nm = true := by
        rcases lessS_tri (hc x (by simp)) he with h | h | h
        · rw [q] at h; cases h
        · exact absurd h (hne x (by simp))
        · exact h
      refine ⟨fun y hy => ?_, ho⟩
      rcases List.mem_cons.1 hy with rfl | hy
      · exact hx
      · exact lessS_tr he (hc x (by simp)) (hc y (by simp [hy])) hx (ho.1 y hy)
theorem ordered_filter {p : Ent → Bool} : ∀ {l : List Ent}, Ordered l → Ordered (l.filter p)
  | [], _ => trivial
  | x :: l, h => by
    by_cases q : p x = true
    · rw [List.filter_cons_of_pos q]; exact ⟨fun y hy => h.1 y (List.mem_filter.1 hy).1, ordered_filter h.2⟩
    · rw [List.filter_cons_of_neg q]; exact ordered_filter h.2
theorem ordered_map {f : Ent → Ent} (hf : ∀ e, (f e).nm = e.nm) : ∀ {l : List Ent}, Ordered l → Ordered (l.map f)
  | [], _ => trivial
  | x :: l, h => ⟨fun y hy => by obtain ⟨z, hz, rfl⟩ := List.mem_map.1 hy; rw [hf, hf]; exact h.1 z hz, ordered_map hf h.2⟩
end Go.Abs
/- What modules export: all entries, in their order. -/
namespace Go.Abs
set_option linter.unusedSimpArgs false
set_option linter.unusedVariables false
open Go.Proofs Go.Nm Go.Wd
set_option linter.unusedVariables false
set_option linter.unusedSectionVars false
set_option maxRecDepth 8000
variable {H : Heap}
def Ent.vals (e : Ent) : List Value := [.string e.nm, .string e.md, .int .i64 e.gt, .int .i64 e.ix, .int .i64 e.rf]
theorem enc_vals (e : Ent) : e.enc = e.vals.map .s := rfl
theorem flat_vals : ∀ l : List VEnt, ((flatV (fun x : VEnt => x.1.vals) l).map TV.s) = ((l.map (·.1)).map Ent.enc).flatten
  | [] => rfl
  | x :: l => by
    have := flat_vals l
    unfold flatV at this ⊢
    rw [List.flatMap_cons, List.map_append, this]; rfl
theorem vents {l : List Ent} (h : ∀ e ∈ l, chk e.nm = 0 ∧ few e.nm) : ∃ v : List VEnt, v.map (·.1) = l := by
  induction l with
  | nil => exact ⟨[], rfl⟩
  | cons x l ih =>
    obtain ⟨v, hv⟩ := ih fun e he => h e (by simp [he])
    exact ⟨⟨x, h x (by simp)⟩ :: v, by simp [hv]⟩
theorem sortE_c {G : Heap} (g : GH G) (hs : Sub G H) {b : Nat} {l : List Ent} (hne : l ≠ []) (hv : ∀ e ∈ l, chk e.nm = 0 ∧ few e.nm) (hn : (l.map (·.nm)).Nodup) (hb : H b = some (.cells (l.map Ent.enc).flatten)) (hsz : l.length < 4611686018427387904) :
    AC Tryd.prog 28 [.rs b 0 l.length 5, .s (.func (.func 29) #[] #[])] H (fun r H' => ∃ l' : List Ent, l'.Perm l ∧ Ordered l' ∧ r = .any ∧ H' = upd H b (.cells (l'.map Ent.enc).flatten)) := by
  obtain ⟨v, rfl⟩ := vents hv
  have hne' : v ≠ [] := fun e => hne (by rw [e]; rfl)
  rw [← flat_vals] at hb
  have h := sort_c (P := Tryd.prog) Tryd.sortEnt (k := 5) (by decide) isAggE sizeE (fun x : VEnt => x.1.vals) (fun _ => rfl) (fun x u hu => by
      simp only [Ent.vals, List.mem_cons, List.not_mem_nil, or_false] at hu
      rcases hu with rfl | rfl | rfl | rfl | rfl <;> rfl) (fun x y : VEnt => cmpE x.1 y.1) vswo (g := 29) (hgf := Tryd.func29) rfl rfl (hF := Tryd.func28) rfl rfl (G := G) (H := H) (fun b r hr => by
        obtain ⟨o, ho⟩ := g.exact b (by rw [hr]; simp)
        rw [hr] at ho; exact ⟨o, Option.some.inj ho⟩) hs (fun x y => cmpE_c g (Sub.refl G) x.2.2.fits y.2.2.fits) hne' hb (by simpa using hsz)
  have h' : AC Tryd.prog 28 [.rs b 0 v.length 5, .s (.func (.func 29) #[] #[])] H _ := h
  rw [List.length_map]
  refine AC.mono h' fun r H' hq => ?_
  obtain ⟨l', hp, hsrt, hr, hH⟩ := hq
  have hp' : (l'.map (·.1)).Perm (v.map (·.1)) := hp.map _
  refine ⟨l'.map (·.1), hp', ordered_of (fun e he => (hv e (hp'.mem_iff.1 he)).1) (((hp'.map _).nodup_iff).2 hn) (fun i j x y hij hx hy => ?_), hr, by rw [hH, flat_vals]⟩
  rw [List.getElem?_map] at hx hy
  cases hx' : l'[i]? with
  | none => rw [hx'] at hx; cases hx
  | some x' =>
    cases hy' : l'[j]? with
    | none => rw [hy'] at hy; cases hy
    | some y' =>
      rw [hx'] at hx; rw [hy'] at hy
      simp only [Option.map_some, Option.some.injEq] at hx hy
      subst hx hy
      have := hsrt i j x' y' hij hx' hy'
      rw [vcmp_lt] at this; exact this
theorem sortN_c (f : Value) (H : Heap) : AC Tryd.prog 28 [.nils, .s f] H (fun r H' => r = .any ∧ H' = H) := by
  refine AC.intro Tryd.func28 rfl rfl fun argv w ha hh => ?_
  obtain ⟨y0, y1, rfl, r0, r1⟩ := repL_two ha
  simp only [Rep] at r0 r1
  subst r1
  obtain ⟨a, rfl⟩ := r0
  have h := AnyF.slices_SortFunc_none Tryd.sortEnt a 0 y1 w
  exact Calls.mono h fun e w' ⟨he, hw⟩ => ⟨.tuple #[], he, .any, H, ⟨rfl, rfl⟩, by simp only [Rep], by rw [hw]; exact hh, by rw [hw]; exact .refl _ _⟩
end Go.Abs
/- What modules export: List. -/
namespace Go.Abs
set_option linter.unusedSimpArgs false
set_option linter.unusedVariables false
set_option maxHeartbeats 4000000
open Go.Proofs Go.Nm Go.Wd
set_option linter.unusedVariables false
set_option linter.unusedSectionVars false
set_option maxRecDepth 8000
variable {H : Heap}
set_option maxHeartbeats 2000000 in
theorem listS_c {G : Heap} (g : GH G) (hs : Sub G H) {t mb eb : Nat} {S : Sym} (hS : SymAt H t mb eb S) (n2 : t ≠ eb) (hf : LFit (S.ents.map (·.2))) (hk : ((S.ents.map (·.2)).map (·.nm)).Nodup) (hv : ∀ e ∈ S.ents.map (·.2), chk e.nm = 0 ∧ few e.nm) :
    AC Tryd.prog 11 [.s (.pointer (some ⟨t, 0, none⟩))] H (fun r H' => ∃ (b : Nat) (L : List Ent), L.Perm (S.ents.map (·.2)) ∧ Ordered L ∧ (L ≠ [] → H b = none) ∧ r = ownT b 5 (L.map Ent.enc) ∧ H' = ownH H b (L.map Ent.enc)) := by
  refine AC.body Tryd.func11 rfl rfl (n := 24) (res := [.tmp 2]) rfl rfl (by simp) ?_
  simp only [ent]
  obtain ⟨h1, h2, h3⟩ := hS
  refine ARun.openF (enc := strV) (f := fun e : Ent => .agg e.enc) (l := S.ents) eb h3 fun l clock e1 e2 e3 => ?_
  have hte : (t = eb) = False := eq_false n2
  have hll : l.length ≤ 10000 := by have := hf.ll; rw [← e1] at this; simpa using this
  replace e1 := later e1
  replace e2 := later e2
  replace e3 := later e3
  replace hv := later hv
  replace hk := later hk
  replace g := later g
  clear hf
  (repeat' (first | refine wk ?_ | refine wk2 ?_ ?_ | with_reducible refine wkF fun _ _ _ => ?_ | with_reducible intro _ | refine Doing.fresh (oc_rangeF um56 (upd_self _ _ _)) fun _ _ _ => ?_ | exact ag | fail))
  rename_i it hit hitn
  have hbe : (it = eb) = False ∧ (eb = it) = False := by
    have := hitn eb (by rw [upd_self]; rfl)
    exact ⟨this.2, this.1⟩
  have hi0 := nu1 hit
  clear hit hitn
  have hME : ∀ r, upd (upd H eb (mapBF strV (fun e : Ent => .agg e.enc) l clock)) it r eb = some (mapBF strV (fun e : Ent => .agg e.enc) l clock) := fun r => by rw [upd_eq, if_neg (by rw [hbe.2]; exact id)]; exact upd_self _ _ _
  replace hME := later hME
  refine ARun.rounds (fun st : (List (Nat × ByteArray × Ent) × List (Nat × ByteArray × Ent)) × Nat => ⟨[(3, ownT st.2 5 ((st.1.1.map (·.2.2)).map Ent.enc)), (12, .s (.pointer (some ⟨it, 0, none⟩)))], ownH (upd (upd H eb (mapBF strV (fun e : Ent => .agg e.enc) l clock)) it (itR eb clock (st.1.1.map (·.1)) clock)) st.2 ((st.1.1.map (·.2.2)).map Ent.enc)⟩)
    (fun st => st.1.2.length) (fun st => (st.1.1 ++ st.1.2).Perm l ∧ (((st.1.1.map (·.2.2)).map Ent.enc) ≠ [] → H st.2 = none ∧ st.2 ≠ eb ∧ st.2 ≠ it)) ?_ (([], l), 0) ⟨.refl _, fun h => absurd rfl h⟩ ?_
  · rintro ⟨⟨done, rest⟩, b⟩ ⟨hperm, hb⟩ next
    simp only [] at hperm hb ⊢
    have hdl : (done.map (·.2.2)).length ≤ 10000 := by
      have := hperm.length_eq
      rw [List.length_append] at this
      rw [List.length_map]; omega
    replace hperm := later hperm
    generalize hdn : done.map (·.1) = dn at *
    generalize hdd : done.map (·.2.2) = dd at *
    have hbf : ∀ r, dd.map Ent.enc ≠ [] → upd (upd H eb (mapBF strV (fun e : Ent => .agg e.enc) l clock)) it r b = none := fun r h => by rw [upd_eq, if_neg (hb h).2.2, upd_eq, if_neg (hb h).2.1]; exact (hb h).1
    replace hbf := later hbf
    replace hb := later hb
    (repeat' (first | refine wk ?_ | refine wk2 ?_ ?_ | with_reducible refine wkF fun _ _ _ => ?_ | with_reducible intro _ | exact ag | fail))
    refine Doing.by (oc_nextF (l := l) (clock := clock) (enc := strV) (f := fun e : Ent => .agg e.enc) (since := clock) (last := clock) (marks := dn) (ownH_keep (hbf.go _) (upd_self _ _ _)) (ownH_keep (hbf.go _) (hME.go _)) e2.go e2.go) ?_
    rintro _ _ (⟨e, he, hn, rfl, rfl⟩ | ⟨hall, rfl, rfl⟩)
    · rw [own_store (fun h => (hb.go h).2.2)]
      obtain ⟨rest', hr1, hr2, hr3⟩ := pick_one e3.go hperm.go he (by rw [hdn]; exact hn)
      have nx := fun b' hb' => next.go ((done ++ [e], rest'), b') ⟨hr2, hb'⟩ hr3
      simp only [List.map_append, List.map_cons, List.map_nil, hdn, hdd] at nx
      replace he := later he
      replace nx := later nx
      have f1 := ownH_keep (c := it) (b := b) (L := dd.map Ent.enc) (hbf.go (itR eb clock (dn ++ [e.1]) clock)) (upd_self _ _ _)
      have f2 := ownH_keep (c := eb) (b := b) (L := dd.map Ent.enc) (hbf.go (itR eb clock (dn ++ [e.1]) clock)) (hME.go _)
      have hb1 := hbf.go (itR eb clock (dn ++ [e.1]) clock)
      have hK : ∀ p, upd (upd H eb (mapBF strV (fun e : Ent => .agg e.enc) l clock)) it (itR eb clock (dn ++ [e.1]) clock) p = none → H p = none ∧ p ≠ eb ∧ p ≠ it := fun p hp => by
        have p1 : p ≠ it := by rintro rfl; rw [upd_self] at hp; cases hp
        rw [upd_eq, if_neg p1] at hp
        have p2 : p ≠ eb := by rintro rfl; rw [upd_self] at hp; cases hp
        rw [upd_eq, if_neg p2] at hp
        exact ⟨hp, p2, p1⟩
      replace hb1 := later hb1
      replace hK := later hK
      clear next hr1 hr2 hr3 hn hperm hdn hdd
      generalize upd (upd H eb (mapBF strV (fun e : Ent => .agg e.enc) l clock)) it (itR eb clock (dn ++ [e.1]) clock) = K1 at *
      simp only [strV]
      (repeat' (first | refine wk ?_ | refine wk2 ?_ ?_ | with_reducible refine wkF fun _ _ _ => ?_ | with_reducible intro _ | refine Doing.eq (oc_entryF (l := l) (clock := clock) (enc := strV) (f := fun e : Ent => .agg e.enc) (p := e) f1 f2 he.go e3.go) ?_ | exact ag | fail))
      rename_i x hx hxn
      rw [own_upd hx]
      have hb2 := own_left (E := Root.cells e.2.2.enc) hb1.go hx
      have hxK := own_gone hb1.go hx
      replace hb2 := later hb2
      replace hxK := later hxK
      clear hx hxn f1 f2
      (repeat' (first | refine wk ?_ | refine wk2 ?_ ?_ | with_reducible refine wkF fun _ _ _ => ?_ | with_reducible intro _ | refine Doing.fresh (oc_build1 ap28 (fun _ h => by cases h; rfl) rfl rfl (by decide) (by decide)) fun _ _ _ => ?_ | refine Doing.fresh (oc_append1 (e := e.2.2.enc) ap28 us28 (each_ent _) rfl rfl hb2.go (by assumption) (by simp; omega) (by simp; omega)) fun _ _ _ => ?_ | exact ag | fail))
      rename_i b' hb' _
      exact ARun.weaken (nx.go b' fun _ => hK.go b' ((Sub.upd (Sub.refl K1) hxK.go).gone hb')) (leK (own_sub hxK.go hb'))
    · obtain rfl := all_done e3.go hperm.go (fun e he => by rw [hdn]; exact hall e he)
      have hp : dd.Perm (S.ents.map (·.2)) := by
        have := hperm.go.map (·.2.2)
        rw [List.append_nil, hdd] at this
        rw [← e1.go, List.map_map]; exact this
      have hback : upd (ownH (upd (upd H eb (mapBF strV (fun e : Ent => .agg e.enc) l clock)) it (itR eb clock dn clock)) b (dd.map Ent.enc)) eb (mapF strV (fun e : Ent => .agg e.enc) (l.map (·.2))) = ownH (upd H it (itR eb clock dn clock)) b (dd.map Ent.enc) := by
        rw [e1.go]
        have e0 : upd (upd (upd H eb (mapBF strV (fun e : Ent => .agg e.enc) l clock)) it (itR eb clock dn clock)) eb (mapF strV (fun e : Ent => .agg e.enc) S.ents) = upd H it (itR eb clock dn clock) := by
          funext x
          simp only [upd_eq]
          by_cases x1 : x = eb
          · subst x1; rw [if_pos rfl, if_neg (by rw [hbe.2]; exact id), h3]; rfl
          · simp only [if_neg x1]
        by_cases hq : dd.map Ent.enc = []
        · rw [hq, ownH_nil, ownH_nil]; exact e0
        · rw [← e0, ownH_ne' hq, ownH_ne' hq]
          funext x
          simp only [upd_eq]
          by_cases x1 : x = b
          · subst x1; rw [if_neg (hb.go hq).2.1, if_pos rfl, if_pos rfl]
          · simp only [if_neg x1]
      refine wa ?_
      refine ARun.shutF (z := l) eb (ownH_keep (hbf.go _) (hME.go _)) ?_
      rw [hback]
      clear next hall hperm hbf hME hback hdn hdd
      have hvd : ∀ e ∈ dd, chk e.nm = 0 ∧ few e.nm := fun e he => hv.go e (hp.mem_iff.1 he)
      have hkd : (dd.map (·.nm)).Nodup := ((hp.map _).nodup_iff).2 hk.go
      have hsI : Sub H (upd H it (itR eb clock dn clock)) := Sub.upd (Sub.refl H) hi0
      have hsg := hs.trans hsI
      replace hp := later hp
      replace hsI := later hsI
      replace hvd := later hvd
      replace hkd := later hkd
      replace hsg := later hsg
      by_cases hq : dd = []
      · subst hq
        have Q := fun f H => sortN_c f H
        simp only [List.map_nil, ownT_nil, ownH_nil]
        (repeat' (first | refine wk ?_ | refine wk2 ?_ ?_ | with_reducible refine wkF fun _ _ _ => ?_ | with_reducible intro _ | refine Calling.eq (Q _ _) ?_ | exact ag | fail))
        exact Fin.plain agr hsI.go ⟨0, [], hp.go, trivial, fun h => absurd rfl h, rfl, rfl⟩
      · have hqm : dd.map Ent.enc ≠ [] := fun h => hq (by simpa using h)
        obtain ⟨hb1, hb2, hb3⟩ := hb.go hqm
        have hbI : upd H it (itR eb clock dn clock) b = none := by rw [upd_eq, if_neg hb3]; exact hb1
        have hle : (dd.map Ent.enc).length = dd.length := by simp
        have hsg2 := hsg.go.trans (sub_ownK (b := b) (L := dd.map Ent.enc) (Sub.refl (upd H it (itR eb clock dn clock))) (fun _ => hbI))
        have Q := sortE_c g.go hsg2 (b := b) hq hvd.go hkd.go (ownH_at hqm) (by omega)
        replace Q := later Q
        rw [ownT_ne hqm, hle]
        clear hbI
        (repeat' (first | refine wk ?_ | refine wk2 ?_ ?_ | with_reducible refine wkF fun _ _ _ => ?_ | with_reducible intro _ | exact ag | fail))
        refine Calling.by Q.go ?_
        rintro _ _ ⟨l', hl', ho, rfl, rfl⟩
        have hlen : l'.length = dd.length := hl'.length_eq
        have hl'q : l'.map Ent.enc ≠ [] := fun h => hq (by
          have : l' = [] := by simpa using h
          rw [this] at hlen; exact List.length_eq_zero_iff.1 hlen.symm)
        rw [ownH_ne' hqm, upd_upd]
        (repeat' (first | refine wk ?_ | refine wk2 ?_ ?_ | with_reducible refine wkF fun _ _ _ => ?_ | with_reducible intro _ | exact ag | fail))
        refine Fin.plain agr (H' := ownH H b (l'.map Ent.enc)) ?_ ⟨b, l', hl'.trans hp.go, ho, fun _ => hb1, ?_, rfl⟩
        · rw [ownH_ne' hl'q]; exact Sub.upd2 hsI.go _ _
        · rw [ownT_ne hl'q, List.length_map, hlen]; rfl
  · simp only [List.map_nil, ownT_nil, ownH_nil]
    exact leK (Sub.refl _)
end Go.Abs
/- What modules export: a table as the laws see it. -/
namespace Go.Abs
set_option linter.unusedSimpArgs false
set_option linter.unusedVariables false
set_option maxHeartbeats 4000000
open Go.Proofs Go.Nm Go.Wd
set_option linter.unusedVariables false
set_option linter.unusedSectionVars false
set_option maxRecDepth 8000
variable {H : Heap}
/-- What a call leaves, seen otherwise. -/
theorem AC.post {P : Program} {g : FuncId} {args : List TV} {C C' : TV → Heap → Prop} (h : AC P g args H C) (hc : ∀ r K, C r K → ∃ r' K', C' r' K' ∧ Sub K' K ∧ Conv K K' r r') : AC P g args H C' := by
  intro argv w ha hh
  have main : ∀ v w', After C H w v w' → After C' H w v w' := fun v w' ⟨r, K, hC, hv, hrel, e⟩ => by
    obtain ⟨r', K', h1, h2, h3⟩ := hc r K hC
    exact ⟨r', K', h1, h3 w' v hrel hv, hrel.le h2, ⟨e.size, fun b hb hn => ⟨(e.keep b hb hn).1, h2.gone (e.keep b hb hn).2⟩, e.bsz, e.os, e.tape, e.output, e.drawn⟩⟩
  rcases h argv w ha hh with ⟨h1, h2⟩ | ⟨v, w', h1, h2⟩
  · refine .inl ⟨h1, fun cs => ?_⟩
    obtain ⟨e, w', fr, ⟨v, he, hA⟩, s⟩ := h2 cs
    exact ⟨e, w', fr, ⟨v, he, main v w' hA⟩, s⟩
  · exact .inr ⟨v, w', h1, main v w' h2⟩
theorem width_four (s : ByteArray) (pos : Nat) : (Utf8.decode s pos).2 ≤ 4 := by
  rw [Go.Lib.decode_at]; unfold Go.Lib.decodeN
  repeat' split
  all_goals simp
theorem rl_many (s : ByteArray) : ∀ f p, s.size ≤ p + f → s.size ≤ p + 4 * (rl s f p).length
  | 0, p, h => by omega
  | f + 1, p, h => by
    unfold rl
    have h1 := width_four s p
    have h2 := width_pos s p
    split
    · have := rl_many s f (p + (Utf8.decode s p).2) (by omega)
      simp only [List.length_cons]
      omega
    · omega
theorem runes_many (s : ByteArray) : ∀ (f p : Nat) (n : Int), 0 ≤ n → n + f < 9223372036854775808 → runesFrom s f p n = n + (rl s f p).length
  | 0, p, n, h0, h => by simp [runesFrom, rl]
  | f + 1, p, n, h0, h => by
    unfold runesFrom rl
    split
    · rw [Go.Nm.w64 (by omega) (by omega), runes_many s f _ (n + 1) (by omega) (by omega)]
      simp
      omega
    · simp
/-- A name is short. -/
theorem chk_few {s : ByteArray} (hf : fits s) (h : chk s = 0) : few s := by
  unfold chk at h
  split at h
  · cases h
  · split at h
    · cases h
    · rename_i hr
      have hz : s.size < 9223372036854775808 := hf
      have h1 : runes s = (rl s s.size 0).length := by
        unfold runes
        rw [runes_many s s.size 0 0 (by omega) (by omega)]
        omega
      have h2 := rl_many s s.size 0 (by omega)
      unfold few
      omega
/-- The memory of the program's table. -/
structure STab (H : Heap) (t mb eb : Nat) (HS : Sym → Heap) : Prop where
  sub : ∀ S, Sub H (HS S)
  tab : ∀ S, SymAt (HS S) t mb eb S
  set : ∀ S S', upd (upd (HS S) mb (setR strV S'.mods)) eb (entR S'.ents) = HS S'
  n1 : t ≠ mb
  n2 : t ≠ eb
  n3 : mb ≠ eb
theorem SymAt.up {t mb eb : Nat} {S : Sym} (h : SymAt H t mb eb S) {b : Nat} (hb : H b = none) (r : Root) : SymAt (upd H b r) t mb eb S := by
  refine ⟨?_, ?_, ?_⟩
  · rw [upd_eq, if_neg (by rintro rfl; rw [h.tab] at hb; cases hb)]; exact h.tab
  · rw [upd_eq, if_neg (by rintro rfl; rw [h.mod] at hb; cases hb)]; exact h.mod
  · rw [upd_eq, if_neg (by rintro rfl; rw [h.ent] at hb; cases hb)]; exact h.ent
theorem upd_comm {a b : Nat} (h : a ≠ b) (A B : Root) : upd (upd H a A) b B = upd (upd H b B) a A := by
  funext x
  simp only [upd_eq]
  by_cases x1 : x = a
  · subst x1; simp only [if_true, if_neg h]
  · simp only [if_neg x1]
/-- One block more beside the table. -/
theorem STab.up {t mb eb : Nat} {HS : Sym → Heap} (T : STab H t mb eb HS) {b : Nat} (hb : ∃ S, HS S b = none) (r : Root) : STab H t mb eb (fun S => upd (HS S) b r) := by
  obtain ⟨S0, hb⟩ := hb
  have h := T.tab S0
  have b1 : t ≠ b := by rintro rfl; rw [h.tab] at hb; cases hb
  have b2 : mb ≠ b := by rintro rfl; rw [h.mod] at hb; cases hb
  have b3 : eb ≠ b := by rintro rfl; rw [h.ent] at hb; cases hb
  have hn : ∀ S, HS S b = none := fun S => by
    rw [← T.set S0 S, upd_eq, if_neg b3.symm, upd_eq, if_neg b2.symm]; exact hb
  refine ⟨fun S => Sub.upd (T.sub S) ((T.sub S).gone (hn S)), fun S => (T.tab S).up (hn S) r, fun S S' => ?_, T.n1, T.n2, T.n3⟩
  show upd (upd (upd (HS S) b r) mb _) eb _ = upd (HS S') b r
  rw [← T.set S S', upd_comm b2.symm, upd_comm b3.symm]
theorem newT_c (H : Heap) : AC Tryd.prog 9 [] H (fun r H' => ∃ t mb eb HS, STab H t mb eb HS ∧ r = .s (.pointer (some ⟨t, 0, none⟩)) ∧ H' = HS ⟨[], []⟩) := by
  refine AC.mono (newS_c H) ?_
  rintro _ _ ⟨t, mb, eb, rfl, ht, hmb, heb, n1, n2, n3, rfl⟩
  refine ⟨t, mb, eb, fun S => upd (upd (upd H mb (setR strV S.mods)) eb (entR S.ents)) t (.cells [.s (.map (some mb)), .s (.map (some eb))]), ⟨fun S => ?_, fun S => ⟨?_, ?_, ?_⟩, fun S S' => ?_, n1, n2, n3⟩, rfl, rfl⟩
  · intro p q hp
    have p1 : p ≠ t := by rintro rfl; rw [ht] at hp; cases hp
    have p2 : p ≠ mb := by rintro rfl; rw [hmb] at hp; cases hp
    have p3 : p ≠ eb := by rintro rfl; rw [heb] at hp; cases hp
    simp only [upd_eq, if_neg p1, if_neg p2, if_neg p3]; exact hp
  · simp only [upd_eq, if_true]
  · simp only [upd_eq, if_neg n1.symm, if_neg n3, if_true]
  · simp only [upd_eq, if_neg n2.symm, if_true]
  · funext x
    simp only [upd_eq]
    by_cases x1 : x = eb
    · subst x1; simp only [if_true, if_neg n2.symm]
    · by_cases x2 : x = mb
      · subst x2; simp only [if_true, if_neg x1, if_neg n1.symm]
      · simp only [if_neg x1, if_neg x2]
section
variable {G : Heap} {t mb eb : Nat} {HS : Sym → Heap}
theorem STab.add (T : STab H t mb eb HS) (g : GH G) (hs : Sub G H) (S : Sym) {md : ByteArray} (hmd : fits md) (gt : Int) {ex : List ByteArray} (hex : ∀ s ∈ ex, fits s) (hl : ex.length < 4611686018427387904) :
    AC Tryd.prog 10 [.s (.pointer (some ⟨t, 0, none⟩)), .s (.string md), .s (.int .i64 gt), .vs 1 (ex.map s1)] (HS S) (fun r H' => r = .s (.int .i64 (S.addE md gt ex)) ∧ H' = HS (S.add md gt ex)) := by
  have h := addS_c g (hs.trans (T.sub S)) (T.tab S) T.n1 T.n2 T.n3 hmd (gt := gt) hex hl
  rw [T.set] at h
  exact h
theorem STab.rem (T : STab H t mb eb HS) {S : Sym} (hf : LFit (S.ents.map (·.2))) (hk : (S.ents.map (·.1)).Nodup) (md : ByteArray) :
    AC Tryd.prog 19 [.s (.pointer (some ⟨t, 0, none⟩)), .s (.string md)] (HS S) (fun r H' => r = .s (.int .i64 (S.remE md)) ∧ H' = HS (S.rem md)) := by
  have h := removeS_c (T.tab S) T.n1 T.n2 T.n3 hf hk md
  rw [T.set] at h
  exact h
theorem Sym.cnt_mods (S : Sym) (by_ : Int) (names : List ByteArray) : (S.cnt by_ names).mods = S.mods := by unfold Sym.cnt; split <;> rfl
theorem STab.cnt (T : STab H t mb eb HS) {S : Sym} (hf : LFit (S.ents.map (·.2))) (hk : (S.ents.map (·.1)).Nodup) (names : List ByteArray) (hl : names.length < 4611686018427387904) {by_ : Int} (hby : by_ = 1 ∨ by_ = -1) :
    AC Tryd.prog 38 [.s (.pointer (some ⟨t, 0, none⟩)), .vs 1 (names.map s1), .s (.int .i64 by_)] (HS S) (fun r H' => r = .s (.int .i64 (S.cntE by_ names)) ∧ H' = HS (S.cnt by_ names)) := by
  have h := count_c (T.tab S) T.n2 hf hk names hl hby
  have e := T.set S (S.cnt by_ names)
  rw [Sym.cnt_mods, upd_same (T.tab S).mod] at e
  rw [e] at h
  exact h
theorem STab.hold (T : STab H t mb eb HS) {S : Sym} (hf : LFit (S.ents.map (·.2))) (hk : (S.ents.map (·.1)).Nodup) (names : List ByteArray) (hl : names.length < 4611686018427387904) :
    AC Tryd.prog 17 [.s (.pointer (some ⟨t, 0, none⟩)), .vs 1 (names.map s1)] (HS S) (fun r H' => r = .s (.int .i64 (S.cntE 1 names)) ∧ H' = HS (S.cnt 1 names)) := by
  refine AC.body Tryd.func17 rfl rfl (n := 8) (res := [.tmp 4]) rfl rfl (by simp) ?_
  simp only [ent]
  have C := T.cnt hf hk names hl (.inl rfl)
  clear hf hk hl T
  (repeat' (first | refine wk ?_ | refine wk2 ?_ ?_ | with_reducible refine wkF fun _ _ _ => ?_ | with_reducible intro _ | refine Calling.eq (C) ?_ | exact ag | fail))
  exact fin0
theorem STab.drop (T : STab H t mb eb HS) {S : Sym} (hf : LFit (S.ents.map (·.2))) (hk : (S.ents.map (·.1)).Nodup) (names : List ByteArray) (hl : names.length < 4611686018427387904) :
    AC Tryd.prog 20 [.s (.pointer (some ⟨t, 0, none⟩)), .vs 1 (names.map s1)] (HS S) (fun r H' => r = .s (.int .i64 (S.cntE (-1) names)) ∧ H' = HS (S.cnt (-1) names)) := by
  refine AC.body Tryd.func20 rfl rfl (n := 8) (res := [.tmp 4]) rfl rfl (by simp) ?_
  simp only [ent]
  have C := T.cnt hf hk names hl (.inr rfl)
  clear hf hk hl T
  (repeat' (first | refine wk ?_ | refine wk2 ?_ ?_ | with_reducible refine wkF fun _ _ _ => ?_ | with_reducible intro _ | refine Calling.eq (C) ?_ | exact ag | fail))
  exact fin0
theorem each_entL (L : List Ent) : Each 5 (L.map Ent.enc) := fun e h => by
  obtain ⟨x, _, rfl⟩ := List.mem_map.1 h; rfl
/-- List, of which nothing is written. -/
theorem STab.list (T : STab H t mb eb HS) (g : GH G) (hs : Sub G H) {S : Sym} (hf : LFit (S.ents.map (·.2))) (hk : ((S.ents.map (·.2)).map (·.nm)).Nodup) (hv : ∀ e ∈ S.ents.map (·.2), chk e.nm = 0 ∧ few e.nm) :
    AC Tryd.prog 11 [.s (.pointer (some ⟨t, 0, none⟩))] (HS S) (fun r H' => ∃ L : List Ent, L.Perm (S.ents.map (·.2)) ∧ Ordered L ∧ r = .vs 5 (L.map Ent.enc) ∧ H' = HS S) := by
  refine AC.post (listS_c g (hs.trans (T.sub S)) (T.tab S) T.n2 hf hk hv) ?_
  rintro _ _ ⟨b, L, hp, ho, hb, rfl, rfl⟩
  have hb' : L.map Ent.enc ≠ [] → HS S b = none := fun h => hb (by rintro rfl; exact h rfl)
  exact ⟨_, _, ⟨L, hp, ho, rfl, rfl⟩, sub_ownK (Sub.refl _) hb', conv_ownK (Sub.refl _) hb' (each_entL L)⟩
end
end Go.Abs
/- What every right table has. -/
namespace Go.Abs
set_option linter.unusedSimpArgs false
set_option linter.unusedVariables false
set_option maxHeartbeats 4000000
open Go.Proofs Go.Nm Go.Wd
set_option linter.unusedVariables false
set_option linter.unusedSectionVars false
set_option maxRecDepth 8000
variable {H : Heap}
def awS : Sym := ⟨[⟨#[109]⟩], [(⟨#[102]⟩, ⟨⟨#[102]⟩, ⟨#[109]⟩, 2, 0, 0⟩), (⟨#[103]⟩, ⟨⟨#[103]⟩, ⟨#[109]⟩, 2, 1, 0⟩)]⟩
def awT : Sym := ⟨[⟨#[109]⟩], [(⟨#[102]⟩, ⟨⟨#[102]⟩, ⟨#[109]⟩, 2, 0, 0⟩), (⟨#[103]⟩, ⟨⟨#[103]⟩, ⟨#[109]⟩, 2, 1, 1⟩)]⟩
theorem aw1 : Sym.addE ⟨[], []⟩ ⟨#[109]⟩ 2 [⟨#[102]⟩, ⟨#[103]⟩] = 0 := by kernel_rfl
theorem aw2 : Sym.add ⟨[], []⟩ ⟨#[109]⟩ 2 [⟨#[102]⟩, ⟨#[103]⟩] = awS := by unfold Sym.add; rw [aw1]; rfl
theorem aw3 : Sym.cntE awS 1 [⟨#[103]⟩] = 0 := by kernel_rfl
theorem aw4 : Sym.cnt awS 1 [⟨#[103]⟩] = awT := by unfold Sym.cnt; rw [aw3]; kernel_rfl
theorem aw5 : Sym.remE awT ⟨#[109]⟩ = 26 := by kernel_rfl
theorem aw6 : Sym.rem awT ⟨#[109]⟩ = awT := Sym.rem_no (by rw [aw5]; decide)
theorem awF1 : LFit (awS.ents.map (·.2)) := ⟨by decide, fun e h => by simp [awS] at h; rcases h with rfl | rfl <;> decide⟩
theorem awF2 : LFit (awT.ents.map (·.2)) := ⟨by decide, fun e h => by simp [awT] at h; rcases h with rfl | rfl <;> decide⟩
theorem awK1 : (awS.ents.map (·.1)).Nodup := by simp [awS]
theorem awK2 : (awT.ents.map (·.1)).Nodup := by simp [awT]
theorem aw7 : getE ⟨#[103]⟩ awS.ents = some ⟨⟨#[103]⟩, ⟨#[109]⟩, 2, 1, 0⟩ := by kernel_rfl
theorem aw8 : (⟨⟨#[103]⟩, ⟨#[109]⟩, 2, 1, 0⟩ : Ent).slot = 17 := by kernel_rfl
theorem eqEl (a b a' b' : ByteArray) (c d e c' d' e' : Int) : eqTV Tryd.prog 9 33 (.agg [.s (.string a), .s (.string b), .s (.int .i64 c), .s (.int .i64 d), .s (.int .i64 e)]) (.agg [.s (.string a'), .s (.string b'), .s (.int .i64 c'), .s (.int .i64 d'), .s (.int .i64 e')]) =
    some ((a.toList == a'.toList) && ((b.toList == b'.toList) && ((c == c') && ((d == d') && ((e == e') && true))))) := by kernel_rfl
theorem eqEr (a b a' b' : ByteArray) (c d e c' d' e' : Int) : eqTV Tryd.prog 9 67 (.agg [.s (.string a), .s (.string b), .s (.int .i64 c), .s (.int .i64 d), .s (.int .i64 e)]) (.agg [.s (.string a'), .s (.string b'), .s (.int .i64 c'), .s (.int .i64 d'), .s (.int .i64 e')]) =
    some ((a.toList == a'.toList) && ((b.toList == b'.toList) && ((c == c') && ((d == d') && ((e == e') && true))))) := by kernel_rfl
@[go_sem] theorem egE : Tryd.prog.eqGuardType Tryd.prog.depth 33 = false := by kernel_rfl
@[go_sem] theorem egEr : Tryd.prog.eqGuardType Tryd.prog.depth 67 = false := by kernel_rfl
theorem eqE_iff (x y : Ent) : ((x.nm.toList == y.nm.toList) && ((x.md.toList == y.md.toList) && ((x.gt == y.gt) && ((x.ix == y.ix) && ((x.rf == y.rf) && true))))) = decide (x = y) := by
  obtain ⟨a, b, c, d, e⟩ := x; obtain ⟨a', b', c', d', e'⟩ := y
  rw [Bool.eq_iff_iff]; simp [toList_inj]
theorem eqE (x y : Ent) : eqTV Tryd.prog 9 33 (.agg x.enc) (.agg y.enc) = some (decide (x = y)) := by
  rw [Ent.enc_def, Ent.enc_def, eqEl, eqE_iff]
theorem eqR13 (x y : Ent) : eqTV Tryd.prog 9 67 (.agg x.enc) (.agg y.enc) = some (decide (x = y)) := by
  rw [Ent.enc_def, Ent.enc_def, eqEr, eqE_iff]
set_option maxHeartbeats 2000000 in
theorem awakeS_c {G : Heap} (g : GH G) (hs : Sub G H) : AC Tryd.prog 13 [] H (fun r H' => r = .s (.bool true) ∧ H' = H) := by
  refine AC.body Tryd.func13 rfl rfl (n := 55) (res := [.tmp 0]) rfl rfl (by simp) ?_
  simp only [ent]
  replace g := later g
  replace hs := later hs
  (repeat' (first | refine wk ?_ | refine wk2 ?_ ?_ | with_reducible refine wkF fun _ _ _ => ?_ | with_reducible intro _ | exact ag | fail))
  refine Calling.by (newT_c H) ?_
  rintro _ _ ⟨t, mb, eb, HS, T, rfl, rfl⟩
  have hsub := T.sub
  replace T := later T
  (repeat' (first | refine wk ?_ | refine wk2 ?_ ?_ | with_reducible refine wkF fun _ _ _ => ?_ | with_reducible intro _ | refine Doing.fresh (oc_build (n := 2) (es := [[.s (.string ⟨#[102]⟩)], [.s (.string ⟨#[103]⟩)]]) ap22 (fun _ h => by cases h; rfl) rfl rfl rfl (.cons rfl (.cons rfl .nil)) (by decide) (by decide) (by decide)) fun _ _ _ => ?_ | exact ag | fail))
  rename_i b hb hbn
  have h2 : ∀ r, Sub (HS ⟨[], []⟩) (upd (HS ⟨[], []⟩) b r) := fun r => Sub.upd (Sub.refl _) hb
  have A := T.go.add g.go hs.go ⟨[], []⟩ (md := ⟨#[109]⟩) (by unfold fits; decide) 2 (ex := [⟨#[102]⟩, ⟨#[103]⟩]) (fun s h => by simp at h; rcases h with rfl | rfl <;> (unfold fits; decide)) (by decide)
  rw [aw1, aw2] at A
  refine Calling.eq (AC.drop A (h2 _) (.cons (Conv.refl (h2 _) _) (.cons (Conv.refl (h2 _) _) (.cons (Conv.refl (h2 _) _) (.cons (conv_rs (L := [[TV.s (.string ⟨#[102]⟩)], [TV.s (.string ⟨#[103]⟩)]]) (h2 _) (upd_self _ _ _) hb (fun e he => by simp at he; rcases he with rfl | rfl <;> rfl)) .nil))))) ?_
  clear A h2 hb hbn
  have F := find_s (T.go.tab awS) ⟨#[103]⟩
  rw [aw7] at F
  simp only [Option.getD_some, Option.isSome_some, if_true, Ent.enc_def] at F
  have L := slot_c ⟨⟨#[103]⟩, ⟨#[109]⟩, 2, 1, 0⟩
  rw [aw8, Ent.enc_def] at L
  simp only [] at F L
  have e8 := eqE ⟨⟨#[103]⟩, ⟨#[109]⟩, 2, 1, 0⟩ ⟨⟨#[103]⟩, ⟨#[109]⟩, 2, 1, 0⟩
  rw [decide_eq_true rfl, Ent.enc_def] at e8
  (repeat' (first | refine wk ?_ | refine wk2 ?_ ?_ | with_reducible refine wkF fun _ _ _ => ?_ | with_reducible intro _ | refine Calling.eq (F) ?_ | refine Calling.eq (L _) ?_ | refine Doing.fresh (oc_build1 ap22 (fun _ h => by cases h; rfl) rfl rfl (by decide) (by decide)) fun _ _ _ => ?_ | exact ag | fail))
  rename_i x hx hxn b' hb' hbn'
  clear F e8 hxn hbn'
  have T2 := T.go.up ⟨_, hx⟩ (.cells [.s (.string ⟨#[103]⟩), .s (.string ⟨#[109]⟩), .s (.int .i64 2), .s (.int .i64 1), .s (.int .i64 0)])
  have h2 : ∀ r, Sub (upd (HS awS) x (.cells [.s (.string ⟨#[103]⟩), .s (.string ⟨#[109]⟩), .s (.int .i64 2), .s (.int .i64 1), .s (.int .i64 0)])) (upd (upd (HS awS) x (.cells [.s (.string ⟨#[103]⟩), .s (.string ⟨#[109]⟩), .s (.int .i64 2), .s (.int .i64 1), .s (.int .i64 0)])) b' r) := fun r => Sub.upd (Sub.refl _) hb'
  have A := T2.hold awF1 awK1 [⟨#[103]⟩] (by decide)
  rw [aw3, aw4] at A
  refine Calling.eq (AC.drop A (h2 _) (.cons (Conv.refl (h2 _) _) (.cons (conv_rs (L := [[TV.s (.string ⟨#[103]⟩)]]) (h2 _) (upd_self _ _ _) hb' (fun e he => by simp at he; subst he; rfl)) .nil))) ?_
  have R := T2.rem awF2 awK2 ⟨#[109]⟩
  rw [aw5, aw6] at R
  have hf := T2.sub awT
  clear A h2 hb' T2 hx
  (repeat' (first | refine wk ?_ | refine wk2 ?_ ?_ | with_reducible refine wkF fun _ _ _ => ?_ | with_reducible intro _ | refine Calling.eq (R) ?_ | exact ag | fail))
  exact fin0
end Go.Abs
/- The law SymtabSlots. -/
namespace Go.Abs
set_option linter.unusedSimpArgs false
set_option linter.unusedVariables false
open Go.Proofs Go.Nm Go.Wd
set_option linter.unusedVariables false
set_option linter.unusedSectionVars false
set_option maxRecDepth 8000
variable {H : Heap}
theorem Ent.slot_small {e : Ent} (h : 0 ≤ e.gt ∧ e.gt < 8 ∧ 0 ≤ e.ix ∧ e.ix < 8) : e.slot = e.gt * 8 + e.ix := by
  unfold Ent.slot
  rw [wi64 (x := e.gt * 8) (by omega) (by omega), wi64 (by omega) (by omega), w32 (by omega) (by omega)]
/-- What Add with success asks. -/
theorem add_asks {S : Sym} {md : ByteArray} {gt : Int} {ex : List ByteArray} (q : S.addE md gt ex = 0) : chk md = 0 ∧ (∀ s ∈ ex, chk s = 0) ∧ 0 ≤ gt ∧ gt < 8 ∧ ex.length ≤ 8 ∧ ex.Nodup ∧ md ∉ S.mods ∧ ∀ s ∈ ex, (getE s S.ents).isSome = false := by
  unfold Sym.addE at q
  have q1 : (badN md || decide (0 ≤ fi badN ex)) = false := by
    cases e : (badN md || decide (0 ≤ fi badN ex)) with
    | false => rfl
    | true => rw [e, if_pos rfl] at q; cases q
  rw [q1, if_neg (by decide)] at q
  have q2 : (decide (gt < 0) || (decide (8 ≤ gt) || (decide ((8 : Int) < ex.length) || decide (((setOf ex).length : Int) < ex.length)))) = false := by
    cases e : (decide (gt < 0) || (decide (8 ≤ gt) || (decide ((8 : Int) < ex.length) || decide (((setOf ex).length : Int) < ex.length)))) with
    | false => rfl
    | true => rw [e, if_pos rfl] at q; cases q
  rw [q2, if_neg (by decide)] at q
  have q3 : (inB md S.mods || decide (0 ≤ fi (fun s => (getE s S.ents).isSome) ex)) = false := by
    cases e : (inB md S.mods || decide (0 ≤ fi (fun s => (getE s S.ents).isSome) ex)) with
    | false => rfl
    | true => rw [e, if_pos rfl] at q; cases q
  simp only [Bool.or_eq_false_iff] at q1 q2 q3
  have ok : ∀ {s : ByteArray}, badN s = false → chk s = 0 := fun h => by unfold badN at h; simpa using h
  refine ⟨ok q1.1, fun s hs => ok (fi_nn q1.2 s hs), ?_, ?_, ?_, setOf_nodup.1 q2.2.2.2, ?_, fun s hs => fi_nn q3.2 s hs⟩
  · have := q2.1; simp at this; omega
  · have := q2.2.1; simp at this; omega
  · have := q2.2.2.1; simp at this; omega
  · have := q3.1; unfold inB at this; simpa using this
theorem Sym.add_yes {S : Sym} {md : ByteArray} {gt : Int} {ex : List ByteArray} (q : S.addE md gt ex = 0) : S.add md gt ex = ⟨S.mods ++ [md], S.ents ++ entsOf md gt ex⟩ := if_pos q
theorem mem_entsOf {md : ByteArray} {gt : Int} {l : List ByteArray} {p : ByteArray × Ent} : p ∈ entsOf md gt l ↔ ∃ (n : Nat) (s : ByteArray), l[n]? = some s ∧ p = (s, ⟨s, md, gt, n, 0⟩) := by
  unfold entsOf
  rw [List.mem_map]
  constructor
  · rintro ⟨⟨s, n⟩, hm, rfl⟩
    exact ⟨n, s, List.mem_zipIdx_iff_getElem?.1 hm, rfl⟩
  · rintro ⟨n, s, h, rfl⟩
    exact ⟨(s, n), List.mem_zipIdx_iff_getElem?.2 h, rfl⟩
/-- The program's table behind i modules. -/
def sst (ms : List ByteArray) (xs : List (List ByteArray)) : Nat → Sym
  | 0 => ⟨[], []⟩
  | i + 1 => if decide ((((xs[i]?).getD []).length : Int) ≤ 8) then (sst ms xs i).add ((ms[i]?).getD ByteArray.empty) i ((xs[i]?).getD []) else sst ms xs i
structure Slim (S : Sym) (i : Nat) : Prop where
  twin : ∃ R, Twin S R
  len : S.ents.length ≤ 8 * i
  all : ∀ p ∈ S.ents, chk p.2.nm = 0 ∧ few p.2.nm ∧ p.2.rf = 0 ∧ 0 ≤ p.2.gt ∧ p.2.gt < i ∧ p.2.gt < 8 ∧ 0 ≤ p.2.ix ∧ p.2.ix < 8
  one : (S.ents.map fun p => p.2.slot).Nodup
theorem Slim.zero : Slim ⟨[], []⟩ 0 := ⟨⟨_, .nil⟩, Nat.le_refl _, fun _ h => (List.not_mem_nil h).elim, .nil⟩
theorem Slim.more {S : Sym} {i : Nat} (h : Slim S i) : Slim S (i + 1) := ⟨h.twin, by have := h.len; omega, fun p hp => by have := h.all p hp; refine ⟨this.1, this.2.1, this.2.2.1, this.2.2.2.1, ?_, this.2.2.2.2.2⟩; have := this.2.2.2.2.1; omega, h.one⟩
theorem Slim.add {S : Sym} {i : Nat} (h : Slim S i) (md : ByteArray) {ex : List ByteArray} (hf : ∀ s ∈ ex, fits s) : Slim (S.add md i ex) (i + 1) := by
  by_cases q : S.addE md i ex = 0
  · obtain ⟨a1, a2, a3, a4, a5, a6, a7, a8⟩ := add_asks q
    have hl : (entsOf md (i : Int) ex).length = ex.length := by unfold entsOf; rw [List.length_map, List.length_zipIdx]
    have hnew : ∀ p ∈ entsOf md (i : Int) ex, chk p.2.nm = 0 ∧ few p.2.nm ∧ p.2.rf = 0 ∧ p.2.gt = i ∧ 0 ≤ p.2.ix ∧ p.2.ix < 8 := by
      intro p hp
      obtain ⟨n, s, hn, rfl⟩ := mem_entsOf.1 hp
      have hm := List.mem_of_getElem? hn
      have hlt := (List.getElem?_eq_some_iff.1 hn).1
      exact ⟨a2 s hm, chk_few (hf s hm) (a2 s hm), rfl, rfl, by show (0 : Int) ≤ (n : Int); omega, by show (n : Int) < 8; omega⟩
    obtain ⟨R, tw⟩ := h.twin
    refine ⟨⟨_, tw.add md i ex⟩, ?_, ?_, ?_⟩
    · rw [Sym.add_yes q, List.length_append, hl]; have := h.len; omega
    · rw [Sym.add_yes q]
      intro p hp
      rcases List.mem_append.1 hp with hp | hp
      · exact h.more.all p hp
      · obtain ⟨b1, b2, b3, b4, b5, b6⟩ := hnew p hp
        exact ⟨b1, b2, b3, by omega, by omega, by omega, b5, b6⟩
    · rw [Sym.add_yes q]
      show (List.map _ (S.ents ++ entsOf md (i : Int) ex)).Nodup
      rw [List.map_append, List.nodup_append]
      refine ⟨h.one, ?_, ?_⟩
      · unfold entsOf
        rw [List.map_map]
        have e : (ex.zipIdx.map ((fun p : ByteArray × Ent => p.2.slot) ∘ fun p : ByteArray × Nat => (p.1, (⟨p.1, md, (i : Int), ((p.2 : Nat) : Int), 0⟩ : Ent)))) = (ex.zipIdx.map Prod.snd).map fun n => (⟨md, md, (i : Int), ((n : Nat) : Int), 0⟩ : Ent).slot := by
          rw [List.map_map]; rfl
        rw [e, List.zipIdx_map_snd]
        unfold List.Nodup
        rw [List.pairwise_map]
        refine List.Pairwise.imp_of_mem ?_ (List.nodup_range' (s := 0) (n := ex.length))
        intro a b ha hb hne
        simp only [List.mem_range'_1] at ha hb
        rw [Ent.slot_small (by refine ⟨?_, ?_, ?_, ?_⟩ <;> (simp only []; omega)), Ent.slot_small (by refine ⟨?_, ?_, ?_, ?_⟩ <;> (simp only []; omega))]
        simp only []
        omega
      · intro a ha b hb e
        obtain ⟨p, hp, rfl⟩ := List.mem_map.1 ha
        obtain ⟨p', hp', rfl⟩ := List.mem_map.1 hb
        obtain ⟨b1, b2, b3, b4, b5, b6⟩ := hnew p' hp'
        obtain ⟨c1, c2, c3, c4, c5, c6, c7, c8⟩ := h.all p hp
        rw [Ent.slot_small ⟨c4, c6, c7, c8⟩, Ent.slot_small ⟨by omega, by omega, b5, b6⟩] at e
        omega
  · have : S.add md i ex = S := if_neg q
    rw [this]; exact h.more
theorem sst_slim {ms : List ByteArray} {xs : List (List ByteArray)} (hx : ∀ l ∈ xs, ∀ s ∈ l, fits s) : ∀ i, Slim (sst ms xs i) i
  | 0 => .zero
  | i + 1 => by
    unfold sst
    split
    · refine (sst_slim hx i).add _ fun s hs => ?_
      cases e : xs[i]? with
      | none => rw [e] at hs; exact (List.not_mem_nil hs).elim
      | some l => rw [e] at hs; exact hx l (List.mem_of_getElem? e) s hs
    · exact (sst_slim hx i).more
/-- What List tells then. -/
theorem Slim.row {S : Sym} {i : Nat} (h : Slim S i) (hi : i ≤ 8) {L : List Ent} (hp : L.Perm (S.ents.map (·.2))) : (∀ x ∈ L, x.rf = 0 ∧ 0 ≤ x.slot ∧ x.slot ≤ 63) ∧ ∀ (j k : Nat) (x y : Ent), k < j → L[j]? = some x → L[k]? = some y → x.slot ≠ y.slot ∧ x.nm ≠ y.nm := by
  obtain ⟨R, tw⟩ := h.twin
  have n1 : (L.map Ent.slot).Nodup := by
    refine ((hp.map Ent.slot).nodup_iff).2 ?_
    rw [List.map_map]; exact h.one
  have n2 : (L.map (·.nm)).Nodup := by
    refine ((hp.map (·.nm)).nodup_iff).2 ?_
    rw [List.map_map]
    have e : S.ents.map ((fun e : Ent => e.nm) ∘ fun p : ByteArray × Ent => p.2) = S.ents.map (·.1) := List.map_congr_left fun p hp => (tw.keys p hp).symm
    rw [e]; exact tw.nodup
  constructor
  · intro x hx
    obtain ⟨p, hp, rfl⟩ := List.mem_map.1 (hp.mem_iff.1 hx)
    obtain ⟨c1, c2, c3, c4, c5, c6, c7, c8⟩ := h.all p hp
    rw [Ent.slot_small ⟨c4, c6, c7, c8⟩]
    exact ⟨c3, by omega, by omega⟩
  · intro j k x y hk hx hy
    obtain ⟨hj1, rfl⟩ := List.getElem?_eq_some_iff.1 hx
    obtain ⟨hk1, rfl⟩ := List.getElem?_eq_some_iff.1 hy
    have m1 := List.pairwise_iff_getElem.1 n1 k j (by simpa using hk1) (by simpa using hj1) hk
    have m2 := List.pairwise_iff_getElem.1 n2 k j (by simpa using hk1) (by simpa using hj1) hk
    simp only [List.getElem_map] at m1 m2
    exact ⟨fun e => m1 e.symm, fun e => m2 e.symm⟩
end Go.Abs
/- What modules export: both tables, call by call (pure). -/
namespace Go.Abs
set_option linter.unusedSimpArgs false
set_option linter.unusedVariables false
open Go.Proofs Go.Nm Go.Wd
set_option linter.unusedVariables false
set_option linter.unusedSectionVars false
theorem bumpP_key {by_ : Int} {s : ByteArray} {ents : Ents} (hk : ∀ p ∈ ents, p.1 = p.2.nm) : ∀ p ∈ bumpP by_ s ents, p.1 = p.2.nm := by
  intro p hp
  unfold bumpP at hp
  obtain ⟨q, hq, rfl⟩ := List.mem_map.1 hp
  by_cases h : q.1 = s
  · rw [if_pos h]; exact hk q hq
  · rw [if_neg h]; exact hk q hq
theorem isSome_key {k : ByteArray} {ents : Ents} (hn : (ents.map (·.1)).Nodup) : (getE k ents).isSome = true ↔ k ∈ ents.map (·.1) := by
  constructor
  · intro h
    obtain ⟨e, he⟩ := Option.isSome_iff_exists.1 h
    exact List.mem_map.2 ⟨_, (getE_some hn).1 he, rfl⟩
  · intro h
    obtain ⟨p, hp, rfl⟩ := List.mem_map.1 h
    rw [(getE_some hn (e := p.2)).2 hp]; rfl
theorem cnt_eq {by_ : Int} : ∀ (names : List ByteArray) (ents : Ents) (l : List Ent), (∀ p ∈ ents, p.1 = p.2.nm) → (ents.map (·.1)).Nodup → l.Perm (ents.map (·.2)) → (∀ s ∈ names, (getE s ents).isSome = true) →
    (cntP by_ names ents).1 = (cntL by_ names l).1 ∧ ((cntL by_ names l).2).Perm ((cntP by_ names ents).2.map (·.2)) ∧ (∀ p ∈ (cntP by_ names ents).2, p.1 = p.2.nm) ∧ ((cntP by_ names ents).2).map (·.1) = ents.map (·.1)
  | [], ents, l, hk, hn, hp, hs => ⟨rfl, hp, hk, rfl⟩
  | s :: ns, ents, l, hk, hn, hp, hs => by
    obtain ⟨e, he⟩ := Option.isSome_iff_exists.1 (hs s (by simp))
    have hm := (getE_some hn).1 he
    have hes : e.nm = s := (hk _ hm).symm
    have hl : e ∈ l := hp.mem_iff.2 (List.mem_map.2 ⟨_, hm, rfl⟩)
    have hnl : (l.map (·.nm)).Nodup := by
      refine ((hp.map (·.nm)).nodup_iff).2 ?_
      rw [List.map_map, show ents.map ((fun e : Ent => e.nm) ∘ fun p : ByteArray × Ent => p.2) = ents.map (·.1) from List.map_congr_left fun p hp => (hk p hp).symm]
      exact hn
    rw [cntP_cons, cntL_cons, refP_bump he, refL_bump hnl hl hes]
    split
    · exact ⟨rfl, hp, hk, rfl⟩
    · split
      · exact ⟨rfl, hp, hk, rfl⟩
      · obtain ⟨h1, h2, h3, h4⟩ := cnt_eq (by_ := by_) ns (bumpP by_ s ents) (bumpL by_ s l) (bumpP_key hk) (by rw [bumpP_keys]; exact hn) (by rw [bumpP_map hk]; exact hp.map _) fun t ht => by
          have := hs t (List.mem_cons_of_mem _ ht)
          rw [isSome_key hn] at this
          rw [isSome_key (by rw [bumpP_keys]; exact hn), bumpP_keys]
          exact this
        exact ⟨h1, h2, h3, by rw [h4, bumpP_keys]⟩
section
variable {S : Sym} {R : RSym}
theorem Twin.cntE (h : Twin S R) (by_ : Int) (names : List ByteArray) : S.cntE by_ names = R.cntE by_ names := by
  unfold Sym.cntE RSym.cntE
  rw [fi_any]
  have e : names.any S.lost = names.any (fun s => !R.thr s) := by congr 1; funext s; rw [h.thr]; rfl
  rw [e]
  cases q : names.any (fun s => !R.thr s) with
  | true => rw [if_pos rfl, if_pos rfl]
  | false =>
    rw [if_neg (by decide), if_neg (by decide)]
    refine (cnt_eq names S.ents R.l h.keys h.nodup h.perm fun s hs => ?_).1
    rw [← h.thr]
    have := List.any_eq_false.1 q s hs
    simpa using this
theorem Twin.cnt (h : Twin S R) (by_ : Int) (names : List ByteArray) : Twin (S.cnt by_ names) (R.cnt by_ names) := by
  unfold Sym.cnt RSym.cnt
  rw [h.cntE]
  by_cases q0 : R.cntE by_ names = 0
  · rw [if_pos q0, if_pos q0]
    have q : names.any (fun s => !R.thr s) = false := by
      cases q : names.any (fun s => !R.thr s) with
      | false => rfl
      | true => unfold RSym.cntE at q0; rw [q, if_pos rfl] at q0; cases q0
    obtain ⟨_, h2, h3, h4⟩ := cnt_eq (by_ := by_) names S.ents R.l h.keys h.nodup h.perm fun s hs => by
      rw [← h.thr]
      have := List.any_eq_false.1 q s hs
      simpa using this
    exact ⟨h.mods, h2, h3, by rw [h4]; exact h.nodup⟩
  · rw [if_neg q0, if_neg q0]; exact h
theorem Twin.sum (h : Twin S R) (md : ByteArray) : sumR md (S.ents.map (·.2)) = sumR md R.l := (sumR_perm h.perm).symm
theorem Twin.remE (h : Twin S R) (md : ByteArray) : S.remE md = R.remE md := by
  unfold Sym.remE RSym.remE
  rw [h.sum, h.has]
theorem delF_mods (md : ByteArray) {l : List ByteArray} (h : l.Nodup) : delF id md l = l.filter fun s => !(s.toList == md.toList) := by
  rw [delF_filter (by rw [List.map_id]; exact h)]
  congr 1; funext s
  rw [str_eq]
  by_cases e : md = s
  · subst e; simp
  · simp [e, Ne.symm e]
theorem Twin.rem (h : Twin S R) (hm : R.mods.Nodup) (md : ByteArray) : Twin (S.rem md) (R.rem md) := by
  unfold Sym.rem RSym.rem
  rw [h.remE]
  by_cases q : R.remE md = 0
  · rw [if_pos q, if_pos q]
    refine ⟨by rw [h.mods, delF_mods md hm], ?_, fun p hp => h.keys p (List.mem_filter.1 hp).1, (List.filter_sublist.map _).nodup h.nodup⟩
    have := h.perm.filter fun e => !mdB md e
    rw [List.filter_map] at this
    exact this
  · rw [if_neg q, if_neg q]; exact h
/-- All that holds of both tables behind at most n calls. -/
structure Tw (S : Sym) (R : RSym) (n : Nat) : Prop where
  tw : Twin S R
  mn : R.mods.Nodup
  ord : Ordered R.l
  ok : ∀ e ∈ R.l, chk e.nm = 0 ∧ few e.nm
  rf : ∀ e ∈ R.l, 0 ≤ e.rf ∧ e.rf ≤ 8
  ml : R.mods.length ≤ n
  ll : R.l.length ≤ 8 * n
theorem Tw.nil : Tw ⟨[], []⟩ ⟨[], []⟩ 0 := ⟨.nil, .nil, trivial, fun _ h => (List.not_mem_nil h).elim, fun _ h => (List.not_mem_nil h).elim, Nat.le_refl _, Nat.le_refl _⟩
theorem Tw.up {n m : Nat} (h : Tw S R n) (hm : n ≤ m) : Tw S R m := ⟨h.tw, h.mn, h.ord, h.ok, h.rf, Nat.le_trans h.ml hm, by have := h.ll; omega⟩
theorem putL_all : ∀ (es l : List Ent), (∀ e ∈ es, chk e.nm = 0) → (∀ e ∈ l, chk e.nm = 0) → (es.map (·.nm)).Nodup → (∀ e ∈ es, ∀ x ∈ l, x.nm ≠ e.nm) → Ordered l → Ordered (es.foldl (fun l e => putL e l) l)
  | [], l, _, _, _, _, h => h
  | e :: es, l, he, hl, hn, hd, h => by
    rw [List.foldl_cons]
    rw [List.map_cons, List.nodup_cons] at hn
    refine putL_all es (putL e l) (fun x hx => he x (List.mem_cons_of_mem _ hx)) (fun x hx => ?_) hn.2 (fun x hx y hy => ?_) (putL_ordered (he e (by simp)) hl (hd e (by simp)) h)
    · rcases List.mem_cons.1 ((putL_perm e l).mem_iff.1 hx) with rfl | hx
      · exact he _ (by simp)
      · exact hl x hx
    · rcases List.mem_cons.1 ((putL_perm e l).mem_iff.1 hy) with rfl | hy
      · exact fun e' => hn.1 (List.mem_map.2 ⟨x, hx, e'.symm⟩)
      · exact hd x (List.mem_cons_of_mem _ hx) y hy
theorem Tw.add {n : Nat} (h : Tw S R n) (md : ByteArray) (gt : Int) {ex : List ByteArray} (hf : ∀ s ∈ ex, fits s) : Tw (S.add md gt ex) (R.add md gt ex) (n + 1) := by
  have T := h.tw.add md gt ex
  by_cases q : S.addE md gt ex = 0
  · obtain ⟨a1, a2, a3, a4, a5, a6, a7, a8⟩ := add_asks q
    have hR : R.add md gt ex = ⟨R.mods ++ [md], putN md gt ex R.l⟩ := if_pos (h.tw.addE md gt ex ▸ q)
    have hp : (putN md gt ex R.l).Perm (R.l ++ ex.zipIdx.map fun p => (⟨p.1, md, gt, (p.2 : Nat), 0⟩ : Ent)) := putL_fold _ _
    have hnew : ∀ e ∈ (ex.zipIdx.map fun p => (⟨p.1, md, gt, (p.2 : Nat), 0⟩ : Ent)), e.nm ∈ ex ∧ e.rf = 0 := fun e he => by
      obtain ⟨⟨s, i⟩, hi, rfl⟩ := List.mem_map.1 he
      exact ⟨List.mem_of_getElem? (List.mem_zipIdx_iff_getElem?.1 hi), rfl⟩
    have hnames : (ex.zipIdx.map fun p => (⟨p.1, md, gt, (p.2 : Nat), 0⟩ : Ent)).map (·.nm) = ex := by
      rw [List.map_map]
      exact List.zipIdx_map_fst 0 ex
    rw [hR] at T ⊢
    refine ⟨T, ?_, ?_, ?_, ?_, ?_, ?_⟩
    · show (R.mods ++ [md]).Nodup
      rw [List.nodup_append]
      refine ⟨h.mn, by simp, fun a ha b hb e => ?_⟩
      simp at hb
      exact a7 (by rw [h.tw.mods]; rw [← hb, ← e]; exact ha)
    · refine putL_all _ _ (fun e he => a2 _ (hnew e he).1) (fun e he => (h.ok e he).1) (by rw [hnames]; exact a6) (fun e he x hx hq => ?_) h.ord
      have := a8 _ (hnew e he).1
      rw [Bool.eq_false_iff] at this
      refine this ((isSome_key h.tw.nodup).2 ?_)
      have hm := h.tw.mem.1 hx
      exact List.mem_map.2 ⟨_, hm, hq⟩
    · intro e he
      rcases List.mem_append.1 (hp.mem_iff.1 he) with he | he
      · exact h.ok e he
      · have := (hnew e he).1
        exact ⟨a2 _ this, chk_few (hf _ this) (a2 _ this)⟩
    · intro e he
      rcases List.mem_append.1 (hp.mem_iff.1 he) with he | he
      · exact h.rf e he
      · rw [(hnew e he).2]; omega
    · show (R.mods ++ [md]).length ≤ n + 1
      have := h.ml
      simp; exact this
    · show (putN md gt ex R.l).length ≤ 8 * (n + 1)
      have := h.ll
      rw [hp.length_eq, List.length_append, List.length_map, List.length_zipIdx]; omega
  · have e1 : S.add md gt ex = S := if_neg q
    have e2 : R.add md gt ex = R := if_neg (h.tw.addE md gt ex ▸ q)
    rw [e1, e2]; exact h.up (Nat.le_succ _)
theorem Tw.rem {n : Nat} (h : Tw S R n) (md : ByteArray) : Tw (S.rem md) (R.rem md) n := by
  have T := h.tw.rem h.mn md
  by_cases q : R.remE md = 0
  · have hR : R.rem md = ⟨R.mods.filter fun s => !(s.toList == md.toList), R.l.filter fun e => !mdB md e⟩ := if_pos q
    rw [hR] at T ⊢
    exact ⟨T, List.filter_sublist.nodup h.mn, ordered_filter h.ord, fun e he => h.ok e (List.mem_filter.1 he).1, fun e he => h.rf e (List.mem_filter.1 he).1, Nat.le_trans (List.length_filter_le _ _) h.ml, Nat.le_trans (List.length_filter_le _ _) h.ll⟩
  · have hR : R.rem md = R := if_neg q
    have hS : S.rem md = S := if_neg (by rw [h.tw.remE]; exact q)
    rw [hR, hS]; exact h
theorem cntL_map (by_ : Int) : ∀ (ns : List ByteArray) (l : List Ent), ∃ f : Ent → Ent, (∀ e, (f e).nm = e.nm ∧ (f e).md = e.md ∧ (f e).gt = e.gt ∧ (f e).ix = e.ix) ∧ (cntL by_ ns l).2 = l.map f
  | [], l => ⟨id, fun e => ⟨rfl, rfl, rfl, rfl⟩, (List.map_id l).symm⟩
  | s :: ns, l => by
    rw [cntL_cons]
    split
    · exact ⟨id, fun e => ⟨rfl, rfl, rfl, rfl⟩, (List.map_id l).symm⟩
    · split
      · exact ⟨id, fun e => ⟨rfl, rfl, rfl, rfl⟩, (List.map_id l).symm⟩
      · obtain ⟨f, h1, h2⟩ := cntL_map by_ ns (bumpL by_ s l)
        refine ⟨f ∘ bumpE by_ s, fun e => ?_, by rw [h2]; unfold bumpL; rw [List.map_map]⟩
        obtain ⟨g1, g2, g3, g4⟩ := h1 (bumpE by_ s e)
        refine ⟨g1.trans (bumpE_nm _ _ _), g2.trans ?_, g3.trans ?_, g4.trans ?_⟩ <;> (unfold bumpE; split <;> rfl)
theorem Tw.names {n : Nat} (h : Tw S R n) : (R.l.map (·.nm)).Nodup := h.tw.names
theorem Tw.lfit {n : Nat} (h : Tw S R n) (hn : n ≤ 1000) : LFit R.l := ⟨by have := h.ll; omega, h.rf⟩
theorem Tw.cnt {n : Nat} (h : Tw S R n) (hn : n ≤ 1000) (by_ : Int) (names : List ByteArray) : Tw (S.cnt by_ names) (R.cnt by_ names) n := by
  have T := h.tw.cnt by_ names
  by_cases q : R.cntE by_ names = 0
  · have hR : R.cnt by_ names = ⟨R.mods, (cntL by_ names R.l).2⟩ := if_pos q
    have q1 : names.any (fun s => !R.thr s) = false := by
      cases q1 : names.any (fun s => !R.thr s) with
      | false => rfl
      | true => unfold RSym.cntE at q; rw [q1, if_pos rfl] at q; cases q
    have hfit := cntL_fit (by_ := by_) (ns := names) (h.lfit hn) h.names fun s hs => by
      have h1 := List.any_eq_false.1 q1 s hs
      have h2 : R.thr s = true := by simpa using h1
      rw [h.tw.thr] at h2
      obtain ⟨e, he⟩ := Option.isSome_iff_exists.1 h2
      rw [← h.tw.get] at he
      exact ⟨e, (find_some h.names).1 he⟩
    obtain ⟨f, f1, f2⟩ := cntL_map by_ names R.l
    rw [hR] at T ⊢
    refine ⟨T, h.mn, ?_, ?_, fun e he => hfit.rf e he, h.ml, ?_⟩
    · show Ordered (cntL by_ names R.l).2
      rw [f2]; exact ordered_map (fun e => (f1 e).1) h.ord
    · show ∀ e ∈ (cntL by_ names R.l).2, _
      rw [f2]
      intro e he
      obtain ⟨x, hx, rfl⟩ := List.mem_map.1 he
      rw [(f1 x).1]; exact h.ok x hx
    · show (cntL by_ names R.l).2.length ≤ 8 * n
      rw [f2, List.length_map]; exact h.ll
  · have hR : R.cnt by_ names = R := if_neg q
    have hS : S.cnt by_ names = S := if_neg (by rw [h.tw.cntE]; exact q)
    rw [hR, hS]; exact h
/-- What List tells is the document's row. -/
theorem Tw.list {n : Nat} (h : Tw S R n) {L : List Ent} (hp : L.Perm (S.ents.map (·.2))) (ho : Ordered L) : L = R.l :=
  (ordered_unique (fun e he => (h.ok e he).1) h.ord ho (h.tw.perm.trans hp.symm)).symm
theorem Tw.sfit {n : Nat} (h : Tw S R n) (hn : n ≤ 1000) : LFit (S.ents.map (·.2)) := ⟨by rw [← h.tw.perm.length_eq]; have := h.ll; omega, fun e he => h.rf e (h.tw.perm.mem_iff.2 he)⟩
theorem Tw.snames {n : Nat} (h : Tw S R n) : ((S.ents.map (·.2)).map (·.nm)).Nodup := ((h.tw.perm.map _).nodup_iff).1 h.names
theorem Tw.sok {n : Nat} (h : Tw S R n) : ∀ e ∈ S.ents.map (·.2), chk e.nm = 0 ∧ few e.nm := fun e he => h.ok e (h.tw.perm.mem_iff.2 he)
theorem Tw.fit {n : Nat} (h : Tw S R n) (hn : n ≤ 1000) : R.fit := ⟨by have := h.ml; omega, by have := h.ll; omega, fun e he => (h.ok e he).2⟩
end
end Go.Abs
/- What modules export: calls on both tables. -/
namespace Go.Abs
set_option linter.unusedSimpArgs false
set_option linter.unusedVariables false
set_option maxHeartbeats 4000000
open Go.Proofs Go.Nm Go.Wd
set_option linter.unusedVariables false
set_option linter.unusedSectionVars false
set_option maxRecDepth 8000
variable {H : Heap}
structure Act where
  k : Int
  nm : ByteArray
  gt : Int
  names : List ByteArray
def Act.enc (a : Act) : List TV := [.s (.int .u8 a.k), .s (.string a.nm), .s (.int .i64 a.gt), .vs 1 (a.names.map s1)]
theorem Act.enc_def (a : Act) : a.enc = [.s (.int .u8 a.k), .s (.string a.nm), .s (.int .i64 a.gt), .vs 1 (a.names.map s1)] := rfl
structure Act.ok (a : Act) : Prop where
  kl : 0 ≤ a.k ∧ a.k < 256
  nm : few a.nm
  ns : ∀ s ∈ a.names, few s
def Act.S (a : Act) (S : Sym) : Sym := if a.k % 5 = 2 then S.rem a.nm else if a.k % 5 = 3 then S.cnt 1 a.names else if a.k % 5 = 4 then S.cnt (-1) a.names else S.add a.nm a.gt a.names
def Act.R (a : Act) (R : RSym) : RSym := if a.k % 5 = 2 then R.rem a.nm else if a.k % 5 = 3 then R.cnt 1 a.names else if a.k % 5 = 4 then R.cnt (-1) a.names else R.add a.nm a.gt a.names
theorem Tw.act {S : Sym} {R : RSym} {n : Nat} (h : Tw S R n) (hn : n ≤ 1000) {a : Act} (ha : a.ok) : Tw (a.S S) (a.R R) (n + 1) := by
  unfold Act.S Act.R
  split
  · exact (h.rem _).up (Nat.le_succ _)
  · split
    · exact (h.cnt hn _ _).up (Nat.le_succ _)
    · split
      · exact (h.cnt hn _ _).up (Nat.le_succ _)
      · exact h.add _ _ fun s hs => (ha.ns s hs).fits
theorem STab.gone {t mb eb : Nat} {HS : Sym → Heap} (T : STab H t mb eb HS) {S0 : Sym} {b : Nat} (hb : HS S0 b = none) (S : Sym) : HS S b = none := by
  have h := T.tab S0
  have b2 : b ≠ mb := by rintro rfl; rw [h.mod] at hb; cases hb
  have b3 : b ≠ eb := by rintro rfl; rw [h.ent] at hb; cases hb
  rw [← T.set S0 S, upd_eq, if_neg b3, upd_eq, if_neg b2]; exact hb
def sumN (l : List Act) : Int := (l.map fun a => min (a.names.length : Int) 301).sum
def fewB (l : List Act) : Bool := !decide ((60 : Int) < l.length) && decide (sumN l ≤ 300)
theorem sumN_snoc {l : List Act} {i : Nat} {x : Act} (h : l[i]? = some x) : sumN (l.take (i + 1)) = sumN (l.take i) + min (x.names.length : Int) 301 := by
  unfold sumN; rw [List.take_add_one, h, Option.toList_some, List.map_append, List.sum_append]; simp
theorem sumN_le : ∀ l : List Act, 0 ≤ sumN l ∧ sumN l ≤ 301 * l.length
  | [] => ⟨Int.le_refl _, Int.le_refl _⟩
  | a :: l => by
    have := sumN_le l
    unfold sumN at this ⊢
    rw [List.map_cons, List.sum_cons, List.length_cons]
    omega
theorem sumN_mem {l : List Act} {a : Act} (h : a ∈ l) : min (a.names.length : Int) 301 ≤ sumN l := by
  induction l with
  | nil => cases h
  | cons x l ih =>
    have h0 := sumN_le l
    unfold sumN at h0 ih ⊢
    rw [List.map_cons, List.sum_cons]
    rcases List.mem_cons.1 h with rfl | h
    · omega
    · have := ih h; omega
theorem fewB_len {l : List Act} (h : fewB l = true) : l.length ≤ 60 ∧ ∀ a ∈ l, a.names.length ≤ 300 := by
  unfold fewB at h
  simp only [Bool.and_eq_true, Bool.not_eq_true', decide_eq_true_eq, decide_eq_false_iff_not] at h
  refine ⟨by omega, fun a ha => ?_⟩
  have := sumN_mem ha
  omega
theorem min_if (i j : Int) : (if j < i then j else i) = min i j := by split <;> omega
theorem oc_min2 {d : Option Tmp} {ty : TypeId} {pos : String} {aft : Array Edge} {g : Option (Nat × Bool)} {x y : Operand} {ts : Array TypeId} {i j : Int} : OC Tryd.prog ⟨d, .call { callee := .builtin .min, args := #[x, y], argTypes := ts }, ty, pos, aft, g⟩ [.s (.int .i64 i), .s (.int .i64 j)] H (fun r H' => r = .s (.int .i64 (min i j)) ∧ H' = H) := by
  rw [← min_if]; exact oc_min
set_option maxHeartbeats 1000000 in
theorem fewA_c (l : List Act) (H : Heap) : AC Tryd.prog 14 [.vs 4 (l.map Act.enc)] H (fun r H' => r = .s (.bool (fewB l)) ∧ H' = H) := by
  refine AC.body Tryd.func14 rfl rfl (n := 25) (res := [.tmp 2]) rfl rfl (by simp) ?_
  simp only [ent]
  unfold fewB
  cases q : decide ((60 : Int) < l.length) with
  | true =>
    (repeat' (first | refine wk ?_ | refine wk2 ?_ ?_ | with_reducible refine wkF fun _ _ _ => ?_ | with_reducible intro _ | exact ag | fail))
    exact fin0
  | false =>
    have hl : l.length ≤ 60 := by simp at q; omega
    (repeat' (first | refine wk ?_ | refine wk2 ?_ ?_ | with_reducible refine wkF fun _ _ _ => ?_ | with_reducible intro _ | exact ag | fail))
    refine ARun.rounds (fun i : Nat => ⟨[(0, .vs 4 (l.map Act.enc)), (3, .s (.int .i64 (sumN (l.take i)))), (4, .s (.int .i64 i))], H⟩)
      (fun i => l.length - i) (fun i => i ≤ l.length) ?_ 0 (by omega) ?_
    · rintro i hi next
      have e0 : (0 : Int) ≤ i := by omega
      by_cases hlt : i < l.length
      · have e1 : (i : Int) < l.length := by omega
        obtain ⟨x, hx⟩ := at_ hlt
        have hx2 := vget Act.enc hx
        rw [Act.enc_def x] at hx2
        have hw := w64s (i := i) (by omega)
        have nx := next.go (i + 1) (by omega) (by omega)
        rw [sumN_snoc hx] at nx
        have hs := sumN_le (l.take i)
        have hs2 : ((l.take i).length : Int) ≤ 60 := by rw [List.length_take]; omega
        have hm : IntKind.i64.wrap (sumN (l.take i) + min (x.names.length : Int) 301) = sumN (l.take i) + min (x.names.length : Int) 301 := wi64 (by omega) (by omega)
        replace nx := later nx
        clear next hx hs hs2
        generalize sumN (l.take i) = n at *
        (repeat' (first | refine wk ?_ | refine wk2 ?_ ?_ | with_reducible refine wkF fun _ _ _ => ?_ | with_reducible intro _ | refine Doing.eq (oc_min2) ?_ | exact ag | fail))
        exact ARun.weaken nx.go (leK (Sub.refl _))
      · have e1 : decide ((i : Int) < l.length) = false := by simp; omega
        obtain rfl : i = l.length := by omega
        rw [List.take_length]
        clear next
        (repeat' (first | refine wk ?_ | refine wk2 ?_ ?_ | with_reducible refine wkF fun _ _ _ => ?_ | with_reducible intro _ | exact ag | fail))
        exact fin0
    · have e0 : sumN (l.take 0) = 0 := rfl
      simp only [e0]
      exact leK (Sub.refl _)
theorem a_rem {k : Int} (h : 0 ≤ k ∧ k < 256) : k.tmod 5 = k % 5 := by
  rw [Int.tmod_eq_emod_of_nonneg h.1]
set_option maxHeartbeats 4000000 in
theorem do_c {G : Heap} (g : GH G) (hs : Sub G H) {t mb eb : Nat} {HS : Sym → Heap} (T : STab H t mb eb HS) {S : Sym} {R : RSym} {n : Nat} (h : Tw S R n) (hn : n ≤ 900) {a : Act} (ha : a.ok) (hl : a.names.length ≤ 1000) :
    AC Tryd.prog 15 [.s (.pointer (some ⟨t, 0, none⟩)), R.tv, .agg a.enc] (HS S) (fun r H' => r = .tup [(a.R R).tv, .s (.bool true)] ∧ H' = HS (a.S S)) := by
  refine AC.body Tryd.func15 rfl rfl (n := 75) (res := [.cell 6 40, .tmp 7]) rfl rfl (by simp) ?_
  simp only [ent]
  have hrem := a_rem ha.kl
  obtain ⟨m, hm⟩ : ∃ m, a.k % 5 = m := ⟨_, rfl⟩
  unfold Act.R Act.S
  rw [hm] at hrem ⊢
  clear hm
  have hn1 : n ≤ 1000 := by omega
  have hfit := h.sfit hn1
  have hRf := h.fit hn1
  have hRl := h.lfit hn1
  have hnd := h.tw.nodup
  have E1 := h.tw.remE
  have E2 := h.tw.cntE
  have E3 := h.tw.addE
  have hnm := h.names
  have fnm := ha.nm
  have fns := ha.ns
  have hfits : ∀ s ∈ a.names, fits s := fun s q => (fns s q).fits
  simp only [RSym.tv_def, Act.enc_def]
  replace g := later g
  replace hs := later hs
  replace T := later T
  replace h := later h
  replace ha := later ha
  replace hfit := later hfit
  replace hRf := later hRf
  replace hRl := later hRl
  replace hnd := later hnd
  replace E1 := later E1
  replace E2 := later E2
  replace E3 := later E3
  replace hnm := later hnm
  replace fnm := later fnm
  replace fns := later fns
  replace hfits := later hfits
  by_cases m2 : m = 2
  · subst m2
    simp only [if_true]
    (repeat' (first | refine wk ?_ | refine wk2 ?_ ?_ | with_reducible refine wkF fun _ _ _ => ?_ | with_reducible intro _ | exact ag | fail))
    rename_i v hv hvn u hu hun w hw hwn
    have huv := hun v (by rw [upd_self]; rfl)
    have hwu := hwn u (by rw [upd_self]; rfl)
    have hwv := hwn v (by rw [upd_eq, if_neg (by rw [huv.1]; exact id), upd_self]; rfl)
    have T3 := ((T.go.up ⟨S, hv⟩ (.cells [.vs 1 (R.mods.map s1), .vs 5 (R.l.map Ent.enc)])).up ⟨S, hu⟩ (.cells [.s (.int .u8 a.k), .s (.string a.nm), .s (.int .i64 a.gt), .vs 1 (a.names.map s1)])).up ⟨S, hw⟩ (.cells [.nils, .nils])
    have C := T3.rem (S := S) hfit.go hnd.go a.nm
    have Q := fun H => rremove_c R hRf.go hRl.go a.nm H
    rw [E1.go] at C
    simp only [RSym.tv_def] at Q
    have g1 := T.go.gone hv (S.rem a.nm)
    have g2 := T.go.gone (nu1 hu) (S.rem a.nm)
    have g3 := T.go.gone (nu2 hw) (S.rem a.nm)
    clear hv hvn hu hun hw hwn T3
    generalize S.rem a.nm = S' at *
    generalize (R.rem a.nm) = R' at *
    generalize R.remE a.nm = e at *
    (repeat' (first | refine wk ?_ | refine wk2 ?_ ?_ | with_reducible refine wkF fun _ _ _ => ?_ | with_reducible intro _ | refine Calling.eq (C) ?_ | refine Calling.eq (Q _) ?_ | exact ag | fail))
    exact fin0
  · by_cases m3 : m = 3
    · subst m3
      simp only [if_true, if_neg m2]
      (repeat' (first | refine wk ?_ | refine wk2 ?_ ?_ | with_reducible refine wkF fun _ _ _ => ?_ | with_reducible intro _ | exact ag | fail))
      rename_i v hv hvn u hu hun w hw hwn
      have huv := hun v (by rw [upd_self]; rfl)
      have hwu := hwn u (by rw [upd_self]; rfl)
      have hwv := hwn v (by rw [upd_eq, if_neg (by rw [huv.1]; exact id), upd_self]; rfl)
      have T3 := ((T.go.up ⟨S, hv⟩ (.cells [.vs 1 (R.mods.map s1), .vs 5 (R.l.map Ent.enc)])).up ⟨S, hu⟩ (.cells [.s (.int .u8 a.k), .s (.string a.nm), .s (.int .i64 a.gt), .vs 1 (a.names.map s1)])).up ⟨S, hw⟩ (.cells [.nils, .nils])
      have C := T3.hold (S := S) hfit.go hnd.go a.names (by omega)
      have Q := fun H => rcount_c R hRf.go hRl.go hnm.go a.names (by omega) (.inl rfl) H
      rw [E2.go] at C
      simp only [RSym.tv_def] at Q
      have g1 := T.go.gone hv (S.cnt 1 a.names)
      have g2 := T.go.gone (nu1 hu) (S.cnt 1 a.names)
      have g3 := T.go.gone (nu2 hw) (S.cnt 1 a.names)
      clear hv hvn hu hun hw hwn T3
      generalize S.cnt 1 a.names = S' at *
      generalize (R.cnt 1 a.names) = R' at *
      generalize R.cntE 1 a.names = e at *
      (repeat' (first | refine wk ?_ | refine wk2 ?_ ?_ | with_reducible refine wkF fun _ _ _ => ?_ | with_reducible intro _ | refine Calling.eq (C) ?_ | refine Calling.eq (Q _) ?_ | exact ag | fail))
      exact fin0
    · by_cases m4 : m = 4
      · subst m4
        simp only [if_true, if_neg m2, if_neg m3]
        (repeat' (first | refine wk ?_ | refine wk2 ?_ ?_ | with_reducible refine wkF fun _ _ _ => ?_ | with_reducible intro _ | exact ag | fail))
        rename_i v hv hvn u hu hun w hw hwn
        have huv := hun v (by rw [upd_self]; rfl)
        have hwu := hwn u (by rw [upd_self]; rfl)
        have hwv := hwn v (by rw [upd_eq, if_neg (by rw [huv.1]; exact id), upd_self]; rfl)
        have T3 := ((T.go.up ⟨S, hv⟩ (.cells [.vs 1 (R.mods.map s1), .vs 5 (R.l.map Ent.enc)])).up ⟨S, hu⟩ (.cells [.s (.int .u8 a.k), .s (.string a.nm), .s (.int .i64 a.gt), .vs 1 (a.names.map s1)])).up ⟨S, hw⟩ (.cells [.nils, .nils])
        have C := T3.drop (S := S) hfit.go hnd.go a.names (by omega)
        have Q := fun H => rcount_c R hRf.go hRl.go hnm.go a.names (by omega) (.inr rfl) H
        rw [E2.go] at C
        simp only [RSym.tv_def] at Q
        have g1 := T.go.gone hv (S.cnt (-1) a.names)
        have g2 := T.go.gone (nu1 hu) (S.cnt (-1) a.names)
        have g3 := T.go.gone (nu2 hw) (S.cnt (-1) a.names)
        clear hv hvn hu hun hw hwn T3
        generalize S.cnt (-1) a.names = S' at *
        generalize (R.cnt (-1) a.names) = R' at *
        generalize R.cntE (-1) a.names = e at *
        (repeat' (first | refine wk ?_ | refine wk2 ?_ ?_ | with_reducible refine wkF fun _ _ _ => ?_ | with_reducible intro _ | refine Calling.eq (C) ?_ | refine Calling.eq (Q _) ?_ | exact ag | fail))
        exact fin0
      · simp only [if_neg m2, if_neg m3, if_neg m4]
        have b2 : (m == 2) = false := by simpa using m2
        have b3 : (m == 3) = false := by simpa using m3
        have b4 : (m == 4) = false := by simpa using m4
        (repeat' (first | refine wk ?_ | refine wk2 ?_ ?_ | with_reducible refine wkF fun _ _ _ => ?_ | with_reducible intro _ | exact ag | fail))
        rename_i v hv hvn u hu hun w hw hwn
        have huv := hun v (by rw [upd_self]; rfl)
        have hwu := hwn u (by rw [upd_self]; rfl)
        have hwv := hwn v (by rw [upd_eq, if_neg (by rw [huv.1]; exact id), upd_self]; rfl)
        have T3 := ((T.go.up ⟨S, hv⟩ (.cells [.vs 1 (R.mods.map s1), .vs 5 (R.l.map Ent.enc)])).up ⟨S, hu⟩ (.cells [.s (.int .u8 a.k), .s (.string a.nm), .s (.int .i64 a.gt), .vs 1 (a.names.map s1)])).up ⟨S, hw⟩ (.cells [.nils, .nils])
        have C := T3.add g.go hs.go S fnm.go.fits a.gt hfits.go (by omega)
        have Q := fun H => radd_c R hRf.go fnm.go (gt := a.gt) fns.go hl H
        rw [E3.go] at C
        simp only [RSym.tv_def] at Q
        have g1 := T.go.gone hv (S.add a.nm a.gt a.names)
        have g2 := T.go.gone (nu1 hu) (S.add a.nm a.gt a.names)
        have g3 := T.go.gone (nu2 hw) (S.add a.nm a.gt a.names)
        clear hv hvn hu hun hw hwn T3
        generalize S.add a.nm a.gt a.names = S' at *
        generalize (R.add a.nm a.gt a.names) = R' at *
        generalize R.addE a.nm a.gt a.names = e at *
        (repeat' (first | refine wk ?_ | refine wk2 ?_ ?_ | with_reducible refine wkF fun _ _ _ => ?_ | with_reducible intro _ | refine Calling.eq (C) ?_ | refine Calling.eq (Q _) ?_ | exact ag | fail))
        exact fin0
end Go.Abs
/- What modules export: modules and indices (pure). -/
namespace Go.Abs
set_option linter.unusedSimpArgs false
set_option linter.unusedVariables false
open Go.Proofs Go.Nm Go.Wd
set_option linter.unusedVariables false
set_option linter.unusedSectionVars false
/-- Every entry's module is there; its index is a place among those of that module. -/
def Mi (R : RSym) : Prop := ∀ e ∈ R.l, e.md ∈ R.mods ∧ e.ix < ((R.l.filter (mdB e.md)).length : Int)
theorem mdB_iff {md : ByteArray} {e : Ent} : mdB md e = true ↔ e.md = md := by unfold mdB; rw [str_eq]; simp
theorem Mi.nil : Mi ⟨[], []⟩ := fun _ h => (List.not_mem_nil h).elim
theorem Mi.add {S : Sym} {R : RSym} {n : Nat} (h : Tw S R n) (hm : Mi R) (md : ByteArray) (gt : Int) (ex : List ByteArray) : Mi (R.add md gt ex) := by
  by_cases q : R.addE md gt ex = 0
  · have hR : R.add md gt ex = ⟨R.mods ++ [md], putN md gt ex R.l⟩ := if_pos q
    have hp : (putN md gt ex R.l).Perm (R.l ++ ex.zipIdx.map fun p => (⟨p.1, md, gt, (p.2 : Nat), 0⟩ : Ent)) := putL_fold _ _
    rw [hR]
    intro e he
    show e.md ∈ R.mods ++ [md] ∧ e.ix < (((putN md gt ex R.l).filter (mdB e.md)).length : Int)
    rw [(hp.filter _).length_eq, List.filter_append, List.length_append]
    rcases List.mem_append.1 (hp.mem_iff.1 he) with he | he
    · obtain ⟨h1, h2⟩ := hm e he
      exact ⟨List.mem_append_left _ h1, by omega⟩
    · obtain ⟨⟨s, i⟩, hi, rfl⟩ := List.mem_map.1 he
      have hlt := (List.getElem?_eq_some_iff.1 (List.mem_zipIdx_iff_getElem?.1 hi)).1
      have ha : (ex.zipIdx.map fun p => (⟨p.1, md, gt, (p.2 : Nat), 0⟩ : Ent)).filter (mdB md) = ex.zipIdx.map fun p => (⟨p.1, md, gt, (p.2 : Nat), 0⟩ : Ent) := by
        rw [List.filter_eq_self]
        intro x hx
        obtain ⟨p, _, rfl⟩ := List.mem_map.1 hx
        exact mdB_iff.2 rfl
      refine ⟨List.mem_append_right _ (by simp), ?_⟩
      simp only []
      rw [ha, List.length_map, List.length_zipIdx]
      omega
  · have : R.add md gt ex = R := if_neg q
    rw [this]; exact hm
theorem Mi.rem {R : RSym} (hm : Mi R) (md : ByteArray) : Mi (R.rem md) := by
  by_cases q : R.remE md = 0
  · have hR : R.rem md = ⟨R.mods.filter fun s => !(s.toList == md.toList), R.l.filter fun e => !mdB md e⟩ := if_pos q
    rw [hR]
    intro e he
    obtain ⟨h0, h3⟩ := List.mem_filter.1 he
    obtain ⟨h1, h2⟩ := hm e h0
    have hne : e.md ≠ md := fun x => by rw [mdB_iff.2 x] at h3; cases h3
    refine ⟨List.mem_filter.2 ⟨h1, by rw [str_eq]; simpa using hne⟩, ?_⟩
    show e.ix < (((R.l.filter fun e => !mdB md e).filter (mdB e.md)).length : Int)
    rw [List.filter_filter]
    have : (R.l.filter fun a => mdB e.md a && !mdB md a) = R.l.filter (mdB e.md) := by
      congr 1; funext x
      by_cases hx : x.md = e.md
      · rw [mdB_iff.2 hx, Bool.true_and]
        cases hq : mdB md x with
        | false => rfl
        | true => exact absurd (hx.symm.trans (mdB_iff.1 hq)) hne
      · have : mdB e.md x = false := by cases hq : mdB e.md x with
          | false => rfl
          | true => exact absurd (mdB_iff.1 hq) hx
        rw [this, Bool.false_and]
    rw [this]; exact h2
  · have hR : R.rem md = R := if_neg q
    rw [hR]; exact hm
theorem Mi.cnt {R : RSym} (hm : Mi R) (by_ : Int) (names : List ByteArray) : Mi (R.cnt by_ names) := by
  by_cases q : R.cntE by_ names = 0
  · have hR : R.cnt by_ names = ⟨R.mods, (cntL by_ names R.l).2⟩ := if_pos q
    obtain ⟨f, f1, f2⟩ := cntL_map by_ names R.l
    rw [hR, f2]
    intro e he
    obtain ⟨x, hx, rfl⟩ := List.mem_map.1 he
    obtain ⟨h1, h2⟩ := hm x hx
    obtain ⟨g1, g2, g3, g4⟩ := f1 x
    refine ⟨by rw [g2]; exact h1, ?_⟩
    show (f x).ix < (((R.l.map f).filter (mdB (f x).md)).length : Int)
    rw [List.filter_map, List.length_map, g4, g2]
    have : (mdB x.md ∘ f) = mdB x.md := by funext y; unfold mdB; rw [Function.comp_apply, (f1 y).2.1]
    rw [this]; exact h2
  · have hR : R.cnt by_ names = R := if_neg q
    rw [hR]; exact hm
theorem Mi.act {S : Sym} {R : RSym} {n : Nat} (h : Tw S R n) (hm : Mi R) (a : Act) : Mi (a.R R) := by
  unfold Act.R
  split
  · exact hm.rem _
  · split
    · exact hm.cnt _ _
    · split
      · exact hm.cnt _ _
      · exact Mi.add h hm _ _ _
structure Both13 where
  S : Sym
  R : RSym
def acts (l : List Act) (B : Both13) : Both13 := l.foldl (fun B a => ⟨a.S B.S, a.R B.R⟩) B
theorem acts_snoc {l : List Act} {i : Nat} {x : Act} {B : Both13} (h : l[i]? = some x) : acts (l.take (i + 1)) B = ⟨x.S (acts (l.take i) B).S, x.R (acts (l.take i) B).R⟩ := by
  unfold acts
  rw [List.take_add_one, h, Option.toList_some, List.foldl_append]; rfl
theorem acts_tw {l : List Act} (hl : ∀ a ∈ l, a.ok) {B : Both13} {n : Nat} (h : Tw B.S B.R n) (hm : Mi B.R) : ∀ {i : Nat}, i ≤ l.length → n + i ≤ 1000 → Tw (acts (l.take i) B).S (acts (l.take i) B).R (n + i) ∧ Mi (acts (l.take i) B).R
  | 0, _, _ => ⟨h, hm⟩
  | i + 1, hi, hn => by
    obtain ⟨t1, t2⟩ := acts_tw hl h hm (i := i) (by omega) (by omega)
    have hx : l[i]? = some l[i] := List.getElem?_eq_getElem (by omega)
    rw [acts_snoc hx]
    exact ⟨t1.act (by omega) (hl _ (List.getElem_mem (by omega : i < l.length))), t2.act t1 _⟩
end Go.Abs
/- What modules export: what is added and removed again leaves nothing (pure). -/
namespace Go.Abs
set_option linter.unusedSimpArgs false
set_option linter.unusedVariables false
open Go.Proofs Go.Nm Go.Wd
set_option linter.unusedVariables false
set_option linter.unusedSectionVars false
theorem add_back {S : Sym} {R : RSym} {n : Nat} (h : Tw S R n) (hm : Mi R) {md : ByteArray} {gt : Int} {ex : List ByteArray} (q : S.addE md gt ex = 0) :
    inB md (S.add md gt ex).mods = true ∧ sumR md ((S.add md gt ex).ents.map (·.2)) = 0 ∧ (S.add md gt ex).remE md = 0 ∧ (S.add md gt ex).rem md = S := by
  obtain ⟨a1, a2, a3, a4, a5, a6, a7, a8⟩ := add_asks q
  have hS := Sym.add_yes q
  have hne : ∀ p ∈ S.ents, mdB md p.2 = false := fun p hp => by
    cases e : mdB md p.2 with
    | false => rfl
    | true =>
      have h1 := mdB_iff.1 e
      have h2 := (hm p.2 (h.tw.perm.mem_iff.2 (List.mem_map.2 ⟨p, hp, rfl⟩))).1
      rw [h1, ← h.tw.mods] at h2
      exact absurd h2 a7
  have hnew : ∀ p ∈ entsOf md gt ex, mdB md p.2 = true ∧ p.2.rf = 0 := fun p hp => by
    obtain ⟨i, s, _, rfl⟩ := mem_entsOf.1 hp
    exact ⟨mdB_iff.2 rfl, rfl⟩
  have z : ∀ l : List Ent, (∀ e ∈ l, refE md e = 0) → sumR md l = 0 := fun l hl => by
    induction l with
    | nil => rfl
    | cons e l ih =>
      have := ih fun x hx => hl x (List.mem_cons_of_mem _ hx)
      unfold sumR at this ⊢
      rw [List.map_cons, List.sum_cons, this, hl e (by simp)]; rfl
  have hsum : sumR md ((S.add md gt ex).ents.map (·.2)) = 0 := by
    rw [hS]
    refine z _ fun e he => ?_
    obtain ⟨p, hp, rfl⟩ := List.mem_map.1 he
    unfold refE
    rcases List.mem_append.1 hp with hp | hp
    · rw [if_neg fun e => absurd (hne p hp) (by rw [mdB_iff.2 e]; decide)]
    · rw [(hnew p hp).2]; split <;> rfl
  have hin : inB md (S.add md gt ex).mods = true := by rw [hS]; unfold inB; simp
  have hrE : (S.add md gt ex).remE md = 0 := by unfold Sym.remE; rw [hin, hsum]; rfl
  refine ⟨hin, hsum, hrE, ?_⟩
  have : (S.add md gt ex).rem md = ⟨delF id md (S.add md gt ex).mods, (S.add md gt ex).ents.filter fun p => !mdB md p.2⟩ := if_pos hrE
  rw [this, hS]
  have hmn : S.mods.Nodup := by rw [h.tw.mods]; exact h.mn
  have e1 : delF id md (S.mods ++ [md]) = S.mods := by
    rw [delF_mods md (by rw [List.nodup_append]; exact ⟨hmn, by simp, fun a ha b hb e => by simp at hb; exact a7 (by rw [← hb, ← e]; exact ha)⟩), List.filter_append]
    have f1 : (S.mods.filter fun s => !(s.toList == md.toList)) = S.mods := by
      rw [List.filter_eq_self]
      intro s hs
      rw [str_eq]
      have : s ≠ md := fun e => a7 (e ▸ hs)
      simpa using this
    rw [f1]
    simp
  have e2 : ((S.ents ++ entsOf md gt ex).filter fun p => !mdB md p.2) = S.ents := by
    rw [List.filter_append]
    have f1 : (S.ents.filter fun p => !mdB md p.2) = S.ents := by
      rw [List.filter_eq_self]
      intro p hp
      rw [hne p hp]; rfl
    have f2 : ((entsOf md gt ex).filter fun p => !mdB md p.2) = [] := by
      rw [List.filter_eq_nil_iff]
      intro p hp
      rw [(hnew p hp).1]; decide
    rw [f1, f2, List.append_nil]
  show Sym.mk (delF id md (S.mods ++ [md])) ((S.ents ++ entsOf md gt ex).filter fun p => !mdB md p.2) = S
  rw [e1, e2]
end Go.Abs
/- What modules export: what is held and let go again leaves nothing (pure). -/
namespace Go.Abs
set_option linter.unusedSimpArgs false
set_option linter.unusedVariables false
open Go.Proofs Go.Nm Go.Wd
set_option linter.unusedVariables false
set_option linter.unusedSectionVars false
/-- How often a name stands there. -/
def occ (k : ByteArray) : List ByteArray → Int
  | [] => 0
  | s :: ns => (if k = s then 1 else 0) + occ k ns
theorem occ_cons (k s : ByteArray) (ns : List ByteArray) : occ k (s :: ns) = (if k = s then 1 else 0) + occ k ns := rfl
theorem occ_nn (k : ByteArray) : ∀ ns, 0 ≤ occ k ns
  | [] => Int.le_refl _
  | s :: ns => by have := occ_nn k ns; unfold occ; split <;> omega
def addC (by_ : Int) (ns : List ByteArray) (ents : Ents) : Ents := ents.map fun p => (p.1, p.2.add (by_ * occ p.1 ns))
theorem add_add (e : Ent) (x y : Int) : (e.add x).add y = e.add (x + y) := by unfold Ent.add; simp; omega
theorem add_zero (e : Ent) : e.add 0 = e := by unfold Ent.add; simp
theorem addC_cons (by_ : Int) (s : ByteArray) (ns : List ByteArray) (ents : Ents) : addC by_ ns (bumpP by_ s ents) = addC by_ (s :: ns) ents := by
  unfold addC bumpP
  rw [List.map_map]
  refine List.map_congr_left fun p _ => ?_
  simp only [Function.comp_def]
  rw [occ_cons]
  by_cases h : p.1 = s
  · rw [if_pos h, if_pos h]
    simp only [add_add, Int.mul_add, Int.mul_one]
  · rw [if_neg h, if_neg h, Int.zero_add]
theorem cntP_add {by_ : Int} : ∀ {ns : List ByteArray} {ents : Ents}, (cntP by_ ns ents).1 = 0 → (cntP by_ ns ents).2 = addC by_ ns ents
  | [], ents, _ => by
    unfold cntP addC
    simp only [occ, Int.mul_zero, add_zero]
    exact (List.map_id ents).symm
  | s :: ns, ents, h => by
    rw [cntP_cons] at h ⊢
    split at h
    · cases h
    · split at h
      · cases h
      · rename_i q1 q2
        rw [if_neg q1, if_neg q2, cntP_add h, addC_cons]
theorem addC_keys (by_ : Int) (ns : List ByteArray) (ents : Ents) : (addC by_ ns ents).map (·.1) = ents.map (·.1) := by unfold addC; rw [List.map_map]; rfl
theorem addC_back (ns : List ByteArray) (ents : Ents) : addC (-1) ns (addC 1 ns ents) = ents := by
  unfold addC
  rw [List.map_map]
  have : ∀ p : ByteArray × Ent, ((fun p : ByteArray × Ent => (p.1, p.2.add (-1 * occ p.1 ns))) ∘ fun p : ByteArray × Ent => (p.1, p.2.add (1 * occ p.1 ns))) p = p := fun p => by
    simp only [Function.comp_def, add_add]
    rw [show 1 * occ p.1 ns + -1 * occ p.1 ns = 0 by omega, add_zero]
  conv => rhs; rw [← List.map_id ents]
  exact List.map_congr_left fun p _ => this p
/-- Nothing falls, if there is enough. -/
theorem cntP_down : ∀ (ns : List ByteArray) (ents : Ents), (ents.map (·.1)).Nodup → (∀ s ∈ ns, (getE s ents).isSome = true) → (∀ p ∈ ents, occ p.1 ns ≤ p.2.rf ∧ p.2.rf ≤ 8) → (cntP (-1) ns ents).1 = 0
  | [], ents, _, _, _ => rfl
  | s :: ns, ents, hn, hs, h => by
    obtain ⟨e, he⟩ := Option.isSome_iff_exists.1 (hs s (by simp))
    obtain ⟨h1, h2⟩ := h _ ((getE_some hn).1 he)
    replace h2 : e.rf ≤ 8 := h2
    replace h1 : occ s (s :: ns) ≤ e.rf := h1
    rw [occ_cons, if_pos rfl] at h1
    have h3 := occ_nn s ns
    rw [cntP_cons, refP_bump he, if_neg (by simp; omega), if_neg (by simp; omega)]
    refine cntP_down ns _ (by rw [bumpP_keys]; exact hn) (fun t ht => ?_) fun p hp => ?_
    · rw [isSome_key (by rw [bumpP_keys]; exact hn), bumpP_keys, ← isSome_key hn]
      exact hs t (List.mem_cons_of_mem _ ht)
    · unfold bumpP at hp
      obtain ⟨x, hx, rfl⟩ := List.mem_map.1 hp
      obtain ⟨g1, g2⟩ := h x hx
      rw [occ_cons] at g1
      by_cases q : x.1 = s
      · rw [if_pos q] at g1 ⊢
        show occ x.1 ns ≤ x.2.rf + -1 ∧ x.2.rf + -1 ≤ 8
        omega
      · rw [if_neg q] at g1 ⊢
        show occ x.1 ns ≤ x.2.rf ∧ x.2.rf ≤ 8
        omega
theorem cntE_lost {S : Sym} {by_ : Int} {names : List ByteArray} (q : S.cntE by_ names = 0) : (∀ s ∈ names, (getE s S.ents).isSome = true) ∧ (cntP by_ names S.ents).1 = 0 := by
  unfold Sym.cntE at q
  cases e : decide (0 ≤ fi S.lost names) with
  | true => rw [e, if_pos rfl] at q; cases q
  | false =>
    rw [e, if_neg (by decide)] at q
    refine ⟨fun s hs => ?_, q⟩
    have := fi_nn e s hs
    unfold Sym.lost at this
    simpa using this
theorem cntE_there {S : Sym} {by_ : Int} {names : List ByteArray} (h : ∀ s ∈ names, (getE s S.ents).isSome = true) : S.cntE by_ names = (cntP by_ names S.ents).1 := by
  unfold Sym.cntE
  rw [fi_any, if_neg]
  intro e
  obtain ⟨s, hs, q⟩ := List.any_eq_true.1 e
  unfold Sym.lost at q
  rw [h s hs] at q; cases q
/-- Held, and let go as often. -/
theorem hold_drop {S : Sym} {R : RSym} {n : Nat} (h : Tw S R n) (hn : n ≤ 1000) {names : List ByteArray} (q : S.cntE 1 names = 0) : (S.cnt 1 names).cntE (-1) names = 0 ∧ (S.cnt 1 names).cnt (-1) names = S := by
  obtain ⟨q1, q2⟩ := cntE_lost q
  have hS : S.cnt 1 names = ⟨S.mods, addC 1 names S.ents⟩ := by unfold Sym.cnt; rw [if_pos q, cntP_add q2]
  have tw := h.cnt hn 1 names
  rw [hS] at tw ⊢
  have hk : ((addC 1 names S.ents).map (·.1)).Nodup := by rw [addC_keys]; exact h.tw.nodup
  have q3 : ∀ s ∈ names, (getE s (addC 1 names S.ents)).isSome = true := fun s hs => by
    rw [isSome_key hk, addC_keys, ← isSome_key h.tw.nodup]; exact q1 s hs
  have q4 : (cntP (-1) names (addC 1 names S.ents)).1 = 0 := cntP_down names _ hk q3 fun p hp => by
    have g2 := (tw.rf p.2 (tw.tw.perm.mem_iff.2 (List.mem_map.2 ⟨p, hp, rfl⟩))).2
    refine ⟨?_, g2⟩
    unfold addC at hp
    obtain ⟨x, hx, rfl⟩ := List.mem_map.1 hp
    have g1 := (h.rf x.2 (h.tw.perm.mem_iff.2 (List.mem_map.2 ⟨x, hx, rfl⟩))).1
    show occ x.1 names ≤ x.2.rf + 1 * occ x.1 names
    omega
  have q5 : Sym.cntE ⟨S.mods, addC 1 names S.ents⟩ (-1) names = 0 := (cntE_there (S := ⟨S.mods, addC 1 names S.ents⟩) q3).trans q4
  refine ⟨q5, ?_⟩
  unfold Sym.cnt
  rw [if_pos q5]
  show Sym.mk S.mods (cntP (-1) names (addC 1 names S.ents)).2 = S
  rw [cntP_add q4, addC_back]
theorem occ_in {k : ByteArray} : ∀ {ns : List ByteArray}, k ∈ ns → 1 ≤ occ k ns
  | s :: ns, h => by
    have := occ_nn k ns
    rw [occ_cons]
    rcases List.mem_cons.1 h with rfl | h
    · rw [if_pos rfl]; omega
    · have := occ_in h
      split <;> omega
theorem sumR_ge {md : ByteArray} {e : Ent} : ∀ {l : List Ent}, (∀ x ∈ l, 0 ≤ x.rf ∧ x.rf ≤ 8) → e ∈ l → refE md e ≤ sumR md l
  | x :: l, hl, h => by
    have h0 := (sumR_le (md := md) (l := l) fun y hy => hl y (List.mem_cons_of_mem _ hy)).1
    have hx := (hl x (by simp)).1
    have hr : 0 ≤ refE md x := by unfold refE; split <;> omega
    unfold sumR at h0 ⊢
    rw [List.map_cons, List.sum_cons]
    rcases List.mem_cons.1 h with rfl | h
    · omega
    · have := sumR_ge (md := md) (fun y hy => hl y (List.mem_cons_of_mem _ hy)) h
      unfold sumR at this
      omega
/-- A name that is held. -/
theorem held {S : Sym} {R : RSym} {n : Nat} (h : Tw S R n) (hn : n ≤ 1000) (hm : Mi R) {names : List ByteArray} (q : S.cntE 1 names = 0) {s : ByteArray} (hs : s ∈ names) :
    ∃ e, getE s (S.cnt 1 names).ents = some e ∧ 1 ≤ e.rf ∧ e.rf ≤ 8 ∧ (S.cnt 1 names).remE e.md = 26 := by
  obtain ⟨q1, q2⟩ := cntE_lost q
  have hS : S.cnt 1 names = ⟨S.mods, addC 1 names S.ents⟩ := by unfold Sym.cnt; rw [if_pos q, cntP_add q2]
  have tw := h.cnt hn 1 names
  have mi := hm.cnt 1 names
  rw [hS] at tw ⊢
  have hk : ((addC 1 names S.ents).map (·.1)).Nodup := by rw [addC_keys]; exact h.tw.nodup
  obtain ⟨x, hx⟩ := Option.isSome_iff_exists.1 (q1 s hs)
  have hxm := (getE_some h.tw.nodup).1 hx
  have he : (s, x.add (1 * occ s names)) ∈ addC 1 names S.ents := List.mem_map.2 ⟨_, hxm, rfl⟩
  have hxr := (h.rf x (h.tw.perm.mem_iff.2 (List.mem_map.2 ⟨_, hxm, rfl⟩))).1
  have hR := tw.tw.perm.mem_iff.2 (List.mem_map.2 ⟨_, he, rfl⟩)
  have g2 := (tw.rf _ hR).2
  have ho := occ_in hs
  have g1 : 1 ≤ (x.add (1 * occ s names)).rf := by show 1 ≤ x.rf + 1 * occ s names; omega
  refine ⟨_, (getE_some hk).2 he, g1, g2, ?_⟩
  have hin := (mi _ hR).1
  have hsum := sumR_ge (md := (x.add (1 * occ s names)).md) tw.rf hR
  rw [show refE (x.add (1 * occ s names)).md (x.add (1 * occ s names)) = (x.add (1 * occ s names)).rf from if_pos rfl] at hsum
  rw [tw.tw.remE]
  unfold RSym.remE
  rw [tw.tw.has]
  have hi : inB (x.add (1 * occ s names)).md S.mods = true := by unfold inB; rw [show S.mods = (R.cnt 1 names).mods from tw.tw.mods]; simpa using hin
  rw [show (Sym.mk S.mods (addC 1 names S.ents)).mods = S.mods from rfl, hi, if_pos rfl, if_pos (by simp only [decide_eq_true_eq]; omega)]
end Go.Abs
