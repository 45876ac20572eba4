import Derived.Test.YtoeplpkmjfecgaaGreatDoorAb14
/- Rows of one's own, empty or not; calls that see less. -/
namespace Go.Abs
set_option linter.unusedSimpArgs false
set_option linter.unusedVariables false
section
variable {P : Program} {w : World} {H : Heap}
/-- A row of one's own as seen: of elements L, k cells each, in block b, if there are any. -/
def ownT (b k : Nat) (L : List (List TV)) : TV := if L = [] then .nils else .rs b 0 L.length k
def ownH (H : Heap) (b : Nat) (L : List (List TV)) : Heap := if L = [] then H else upd H b (.cells L.flatten)
def Each (k : Nat) (L : List (List TV)) : Prop := ∀ e ∈ L, e.length = k
theorem Each.nil {k : Nat} : Each k [] := fun e h => by cases h
theorem Each.app {k : Nat} {L N : List (List TV)} (h : Each k L) (g : Each k N) : Each k (L ++ N) := fun e he => (List.mem_append.1 he).elim (h e) (g e)
theorem Each.len {k : Nat} : ∀ {L : List (List TV)}, Each k L → L.flatten.length = L.length * k
  | [], _ => by simp
  | e :: L, h => by rw [List.flatten_cons, List.length_append, h e (by simp), Each.len (fun x hx => h x (by simp [hx])), List.length_cons, Nat.succ_mul]; omega
theorem ownT_nil (b k : Nat) : ownT b k [] = .nils := rfl
theorem ownH_nil (H : Heap) (b : Nat) : ownH H b [] = H := rfl
theorem ownT_ne {b k : Nat} {L : List (List TV)} (h : L ≠ []) : ownT b k L = .rs b 0 L.length k := if_neg h
theorem ownH_ne' {H : Heap} {b : Nat} {L : List (List TV)} (h : L ≠ []) : ownH H b L = upd H b (.cells L.flatten) := if_neg h
theorem ownH_ne {H : Heap} {b c : Nat} {L : List (List TV)} (h : (c = b) = False) : ownH H b L c = H c := by
  unfold ownH; split
  · rfl
  · simp only [upd, h, if_false]
theorem one_own (b k : Nat) (L : List (List TV)) : oneT (ownT b k L) = true := by unfold ownT; split <;> rfl
theorem cells_own (b k : Nat) (L : List (List TV)) : cellsT (ownT b k L) = some [ownT b k L] := by unfold ownT; split <;> rfl
theorem len_own (b k : Nat) (L : List (List TV)) {T : TypeId} (h : (elP P T).isSome = true) : lenM P H T (ownT b k L) = some (L.length : Int) := by
  unfold ownT; split
  · rename_i e; subst e; exact len_nils T h
  · exact len_rs T b 0 _ k h
theorem Sub.own {H H' : Heap} (h : Sub H H') {b : Nat} {L : List (List TV)} (hb : H b = none) : Sub H (ownH H' b L) := by
  unfold ownH; split
  · exact h
  · exact h.upd hb
theorem ownH_at {H : Heap} {b : Nat} {L : List (List TV)} (h : L ≠ []) : ownH H b L b = some (.cells L.flatten) := by rw [ownH_ne' h]; simp [upd]
/-- A row that nobody writes any more. -/
theorem repE_cells {F : Nat → Prop} {b k : Nat} (hF : F b) : ∀ {L : List (List TV)} {off : Nat} {xs : List Value}, Each k L → RepL w F L.flatten xs → (∀ j u, xs[j]? = some u → w.cell? ⟨b, off + j, none⟩ = some u) → RepE w F (some ⟨b, off, none⟩) k L.length L
  | [], off, xs, _, _, _ => by simp only [RepE, List.length_nil]
  | e :: L, off, xs, he, hr, hc => by
    have hk : e.length = k := he e (by simp)
    have cells : ∀ (ts : List TV) (off : Nat) (xs : List Value), RepL w F ts xs → (∀ j u, xs[j]? = some u → w.cell? ⟨b, off + j, none⟩ = some u) → RepC w F b off ts := by
      intro ts
      induction ts with
      | nil => intro off xs _ _; simp only [RepC]
      | cons t ts ih =>
        intro off xs h hc
        simp only [RepL] at h; obtain ⟨y, ys, rfl, h1, h2⟩ := h
        simp only [RepC]
        exact ⟨⟨y, hc 0 y rfl, h1⟩, ih (off + 1) ys h2 fun j u hj => by rw [show off + 1 + j = off + (j + 1) by omega]; exact hc (j + 1) u (by simpa using hj)⟩
    rw [List.flatten_cons] at hr
    have h1 := hr.take k
    have h2 := hr.drop k
    rw [← hk, List.take_left] at h1
    rw [← hk, List.drop_left] at h2
    simp only [RepE, List.length_cons]
    refine ⟨b, off, L.length, rfl, rfl, hF, hk, cells e off _ h1 fun j u hj => ?_, repE_cells hF (fun x hx => he x (by simp [hx])) h2 fun j u hj => ?_⟩
    · rw [List.getElem?_take] at hj
      split at hj
      · exact hc j u hj
      · cases hj
    · rw [List.getElem?_drop] at hj
      rw [← hk, Nat.add_assoc]; exact hc _ u hj
theorem conv_rs {A H' : Heap} (hs : Sub H' A) {b k : Nat} {L : List (List TV)} (hA : A b = some (.cells L.flatten)) (hb : H' b = none) (he : Each k L) : Conv A H' (.rs b 0 L.length k) (.vs k L) := by
  intro w x hh hx
  simp only [Rep] at hx ⊢
  obtain ⟨a, cap, rfl, hn, hc⟩ := hx
  refine ⟨a, _, cap, rfl, hn, ?_⟩
  by_cases h0 : L = []
  · subst h0; simp only [RepE, List.length_nil]
  · have hpos : 0 < L.length := List.length_pos_iff.2 h0
    rcases hc with hc | ⟨rfl, hc⟩
    · omega
    · obtain ⟨c, elem, fz, hcell, hfz, hl, hr⟩ := hh b _ hA
      have hlt := hh.lt hA
      refine repE_cells ⟨hlt, hb⟩ he (RepL.mono (fun p hp => ⟨fr_le hs p hp, rfl⟩) (fun _ => Nat.le_refl _) _ _ hr) fun j u hj => ?_
      rw [List.getElem?_take] at hj
      split at hj
      · simp only [World.cell?, hcell, Nat.zero_add, Option.isSome_none, Bool.false_eq_true, if_false]; simpa using hj
      · cases hj
theorem conv_own {A H' : Heap} (hs : Sub H' A) {b k : Nat} {L : List (List TV)} (hA : L = [] ∨ A b = some (.cells L.flatten)) (hb : H' b = none) (he : Each k L) : Conv A H' (ownT b k L) (.vs k L) := by
  unfold ownT; split
  · rename_i e; subst e
    intro w x hh hx
    simp only [Rep] at hx ⊢
    obtain ⟨a, rfl⟩ := hx
    exact ⟨a, 0, 0, rfl, Nat.le_refl _, by simp only [RepE]⟩
  · rename_i e
    exact conv_rs hs (hA.resolve_left e) hb he
theorem conv_nils {A H' : Heap} {k : Nat} : Conv A H' .nils (.vs k []) := by
  intro w x hh hx
  simp only [Rep] at hx ⊢
  obtain ⟨a, rfl⟩ := hx
  exact ⟨a, 0, 0, rfl, Nat.le_refl _, by simp only [RepE]⟩
/-- append, to a row of one's own, empty or not. -/
theorem oc_append_own {d : Option Tmp} {ty : TypeId} {pos : String} {aft : Array Edge} {g : Option (Nat × Bool)} {t tx : TypeId} {s x : Operand} {b k bytes : Nat} {L N : List (List TV)} {xt : TV} (ha : apP P t = some (k, bytes)) {e' : TypeId} (hk : P.underlying tx = some (.slice e'))
    (hL : Each k L) (hN : Each k N) (hb : L ≠ [] → H b = none) (hs : srcT (ownH H b L) k xt = some (N.length, N.flatten)) (ho : N.flatten.all oneT = true) (hby : (L.length + N.length + (L.length + N.length) / 4 + 192) * bytes ≤ 281474976710656) (h63 : L.length + N.length ≤ 9223372036854775807) :
    OC P ⟨d, .call { callee := .builtin .append, args := #[s, x], argTypes := #[t, tx] }, ty, pos, aft, g⟩ [ownT b k L, xt] (ownH H b L) (fun r H' => ∃ b', H b' = none ∧ r = ownT b' k (L ++ N) ∧ H' = ownH H b' (L ++ N)) := by
  by_cases h0 : L = []
  · subst h0
    simp only [ownT_nil, ownH_nil, List.nil_append, List.length_nil, Nat.zero_add] at *
    intro ev w hr hh
    obtain ⟨v, w', h1, r, H', hC, h2⟩ := oc_append_nil (d := d) (ty := ty) (pos := pos) (aft := aft) (g := g) (s := s) (x := x) ha hk hs ho hby h63 ev w hr hh
    refine ⟨v, w', h1, r, H', ?_, h2⟩
    rcases hC with ⟨hm, rfl, rfl⟩ | ⟨hm, b', hb', rfl, rfl⟩
    · obtain rfl := List.eq_nil_of_length_eq_zero hm
      have hn : H' w.heap.size = none := by
        cases e : H' w.heap.size with
        | none => rfl
        | some r => exact absurd (hh.lt e) (Nat.lt_irrefl _)
      exact ⟨w.heap.size, hn, rfl, rfl⟩
    · have : N ≠ [] := List.length_pos_iff.1 hm
      exact ⟨b', hb', by rw [ownT_ne this], by rw [ownH_ne' this]⟩
  · rw [ownT_ne h0]
    replace hb := hb h0
    have hb' : ownH H b L b = some (.cells L.flatten) := ownH_at h0
    intro ev w hr hh
    obtain ⟨v, w', h1, r, H', ⟨c, hc, hr', hH⟩, h2⟩ := oc_append (d := d) (ty := ty) (pos := pos) (aft := aft) (g := g) (s := s) (x := x) ha hk hb' hL.len hs ho hby h63 ev w hr hh
    refine ⟨v, w', h1, r, H', ⟨c, ?_, ?_, ?_⟩, h2⟩
    · rcases hc with rfl | hc
      · exact hb
      · by_cases e : c = b
        · subst e; exact hb
        · rw [ownH_ne (eq_false e)] at hc; exact hc
    · rw [hr', ownT_ne (by simp [h0]), List.length_append]
    · rw [hH, ownH_ne' (L := L ++ N) (by simp [h0]), List.flatten_append, ownH_ne' h0]
      congr 1
      funext p; simp only [dropB, upd]; split
      · rename_i e; subst e; exact hb.symm
      · rfl
theorem srcT_vs (H : Heap) (k : Nat) (es : List (List TV)) : srcT H k (.vs k es) = some (es.length, es.flatten) := by simp [srcT]
theorem srcT_nils (H : Heap) (k : Nat) : srcT H k .nils = some (0, []) := rfl
theorem srcT_rs {H : Heap} {b n k : Nat} {cs : List TV} (h : H b = some (.cells cs)) (hl : cs.length = n * k) : srcT H k (.rs b 0 n k) = some (n, cs) := by
  simp only [srcT, h, true_and, Nat.zero_add, hl, Nat.le_refl, if_true, List.drop_zero]
  rw [List.take_of_length_le (by omega)]
theorem srcT_own {H : Heap} {b k : Nat} {L : List (List TV)} (h : L = [] ∨ H b = some (.cells L.flatten)) (he : Each k L) : srcT H k (ownT b k L) = some (L.length, L.flatten) := by
  by_cases h0 : L = []
  · subst h0; rfl
  · rw [ownT_ne h0]; exact srcT_rs (h.resolve_left h0) he.len
/-- What tells nothing of memory. -/
def plainT : TV → Bool
  | .s _ => true
  | .tup l => l.all fun | .s _ => true | _ => false
  | .agg l => l.all fun | .s _ => true | _ => false
  | _ => false
theorem repL_plain {w w' : World} {F F' : Nat → Prop} : ∀ {l : List TV} {xs : List Value}, (l.all fun | .s _ => true | _ => false) = true → RepL w F l xs → RepL w' F' l xs
  | [], xs, _, h => by simpa only [RepL] using h
  | t :: l, xs, hp, h => by
    simp only [List.all_cons, Bool.and_eq_true] at hp
    simp only [RepL] at h ⊢
    obtain ⟨y, ys, rfl, h1, h2⟩ := h
    refine ⟨y, ys, rfl, ?_, repL_plain hp.2 h2⟩
    cases t with
    | s v => simpa only [Rep] using h1
    | _ => cases hp.1
theorem rep_plain {w w' : World} {F F' : Nat → Prop} {r : TV} {v : Value} (hp : plainT r = true) (h : Rep w F r v) : Rep w' F' r v := by
  cases r with
  | s x => simpa only [Rep] using h
  | tup l => simp only [Rep] at h ⊢; obtain ⟨xs, rfl, h⟩ := h; exact ⟨xs, rfl, repL_plain hp h⟩
  | agg l => simp only [Rep] at h ⊢; obtain ⟨xs, rfl, h⟩ := h; exact ⟨xs, rfl, repL_plain hp h⟩
  | _ => cases hp
def plainR : Root → Bool
  | .cells cs => cs.all fun | .s _ => true | _ => false
  | .exact _ => true
  | _ => false
theorem rootRel_plain {w : World} {F F' : Nat → Prop} {b : Nat} {r : Root} (hp : plainR r = true) (h : RootRel w F b r) : RootRel w F' b r := by
  cases r with
  | cells cs => obtain ⟨c, elem, fz, h1, hz, h2, h3⟩ := h; exact ⟨c, elem, fz, h1, hz, h2, repL_plain hp h3⟩
  | exact o => exact h
  | _ => cases hp
def Flat (H : Heap) : Prop := ∀ b r, H b = some r → plainR r = true
/-- A call that sees less of what is held, and leaves that as it was. -/
theorem AC.frame {g : FuncId} {args args' : List TV} {H H' : Heap} {r : TV} (h : AC P g args' H' (fun r' K => r' = r ∧ K = H')) (hp : plainT r = true) (hx : Flat H') (hs : Sub H' H) (hc : ConvL H H' args args') : AC P g args H (fun r' K => r' = r ∧ K = H) := by
  intro argv w ha hh
  have main : ∀ v w', After (fun r' K => r' = r ∧ K = H') H' w v w' → After (fun r' K => r' = r ∧ K = H) H w v w' := by
    intro v w' ⟨r', K, ⟨hr, hK⟩, hv, hrel, hext⟩
    subst hr hK
    have hE : Ext H w H w' := ⟨hext.size, fun b hb hn => ⟨(hext.keep b hb (by
      cases e : K b with
      | none => rfl
      | some r => rw [hs b r e] at hn; cases hn)).1, hn⟩, hext.bsz, hext.os, hext.tape, hext.output, hext.drawn⟩
    refine ⟨r', H, ⟨rfl, rfl⟩, rep_plain hp hv, fun b r hb => ?_, hE⟩
    have hlt := hh.lt hb
    cases e : K b with
    | none => exact (hh b r hb).ext hE (hext.keep b hlt e).1
    | some r0 =>
      have := hs b r0 e
      rw [hb] at this; cases this
      -- held by the callee, and left as it was seen
      exact rootRel_plain (hx b r e) (hrel b r e)
  rcases h argv w (hc w argv hh ha) (hh.le hs) with ⟨h1, h2⟩ | ⟨v, w', h1, h2⟩
  · refine .inl ⟨h1, fun cs => ?_⟩
    obtain ⟨e, w', fr, ⟨v, he, g⟩, s⟩ := h2 cs
    exact ⟨e, w', fr, ⟨v, he, main v w' g⟩, s⟩
  · exact .inr ⟨v, w', h1, main v w' h2⟩
section
variable {o : Oper} {k : AS → Prop} {D : Tmp} {A : AS} {t : Bool}
theorem grdO_goT (hT : t = true → opA P o ⟨(D, .s (.bool true)) :: A.env, A.H⟩ k) (hF : t = false → k ((⟨(D, .s (.bool false)) :: A.env, A.H⟩ : AS).put o.dst (.s (.tuple #[])))) : grdO true P o k D A (some (.s (.bool t))) :=
  grdO_go (fun e => by have := hT e; simpa [grdO, grd] using this) (fun e => by have := hF e; simpa [grdO, grd] using this)
theorem grdO_goF (hT : t = true → k ((⟨(D, .s (.bool true)) :: A.env, A.H⟩ : AS).put o.dst (.s (.tuple #[])))) (hF : t = false → opA P o ⟨(D, .s (.bool false)) :: A.env, A.H⟩ k) : grdO false P o k D A (some (.s (.bool t))) :=
  grdO_go (fun e => by have := hT e; simpa [grdO, grd] using this) (fun e => by have := hF e; simpa [grdO, grd] using this)
theorem grdF_goT (hT : t = true → opA P o A k) (hF : t = false → k (A.put o.dst (.s (.tuple #[])))) : grdF true P o k A (some (.s (.bool t))) :=
  grdF_go (fun e => by have := hT e; simpa [grdF, grd] using this) (fun e => by have := hF e; simpa [grdF, grd] using this)
theorem grdF_goF (hT : t = true → k (A.put o.dst (.s (.tuple #[])))) (hF : t = false → opA P o A k) : grdF false P o k A (some (.s (.bool t))) :=
  grdF_go (fun e => by have := hT e; simpa [grdF, grd] using this) (fun e => by have := hF e; simpa [grdF, grd] using this)
end
theorem Calling.eq {g : FuncId} {args : List TV} {K : TV → Heap → Prop} {R : TV} {H0 : Heap} (h : AC P g args H (fun r H' => r = R ∧ H' = H0)) (k : K R H0) : Calling P g args H K :=
  Calling.by h fun _ _ ⟨h1, h2⟩ => by rw [h1, h2]; exact k
theorem Doing.eq {o : Oper} {vs : List TV} {K : TV → Heap → Prop} {R : TV} {H0 : Heap} (h : OC P o vs H (fun r H' => r = R ∧ H' = H0)) (k : K R H0) : Doing P o vs H K :=
  Doing.by h fun _ _ ⟨h1, h2⟩ => by rw [h1, h2]; exact k
/-- A new block comes of it; new beside what H0 holds. -/
theorem Doing.fresh {o : Oper} {vs : List TV} {K : TV → Heap → Prop} {R : Nat → TV} {HH : Nat → Heap} {H0 : Heap} (h : OC P o vs H (fun r H' => ∃ b, H0 b = none ∧ r = R b ∧ H' = HH b))
    (k : ∀ b, H0 b = none → (∀ p, (H0 p).isSome = true → (p = b) = False ∧ (b = p) = False) → K (R b) (HH b)) : Doing P o vs H K :=
  Doing.by h fun r H' ⟨b, hb, h1, h2⟩ => by rw [h1, h2]; exact k b hb (ne_held hb)
theorem Calling.fresh {g : FuncId} {args : List TV} {K : TV → Heap → Prop} {R : Nat → TV} {HH : Nat → Heap} {H0 : Heap} (h : AC P g args H (fun r H' => ∃ b, H0 b = none ∧ r = R b ∧ H' = HH b))
    (k : ∀ b, H0 b = none → (∀ p, (H0 p).isSome = true → (p = b) = False ∧ (b = p) = False) → K (R b) (HH b)) : Calling P g args H K :=
  Calling.by h fun r H' ⟨b, hb, h1, h2⟩ => by rw [h1, h2]; exact k b hb (ne_held hb)
end
theorem nu1 {H : Heap} {b c : Nat} {r : Root} (h : upd H b r c = none) : H c = none := none_upd h
theorem nu2 {H : Heap} {b1 b2 c : Nat} {r1 r2 : Root} (h : upd (upd H b1 r1) b2 r2 c = none) : H c = none := nu1 (none_upd h)
theorem nu3 {H : Heap} {b1 b2 b3 c : Nat} {r1 r2 r3 : Root} (h : upd (upd (upd H b1 r1) b2 r2) b3 r3 c = none) : H c = none := nu2 (none_upd h)
theorem nu4 {H : Heap} {b1 b2 b3 b4 c : Nat} {r1 r2 r3 r4 : Root} (h : upd (upd (upd (upd H b1 r1) b2 r2) b3 r3) b4 r4 c = none) : H c = none := nu3 (none_upd h)
theorem nu5 {H : Heap} {b1 b2 b3 b4 b5 c : Nat} {r1 r2 r3 r4 r5 : Root} (h : upd (upd (upd (upd (upd H b1 r1) b2 r2) b3 r3) b4 r4) b5 r5 c = none) : H c = none := nu4 (none_upd h)
theorem nu6 {H : Heap} {b1 b2 b3 b4 b5 b6 c : Nat} {r1 r2 r3 r4 r5 r6 : Root} (h : upd (upd (upd (upd (upd (upd H b1 r1) b2 r2) b3 r3) b4 r4) b5 r5) b6 r6 c = none) : H c = none := nu5 (none_upd h)
theorem nu7 {H : Heap} {b1 b2 b3 b4 b5 b6 b7 c : Nat} {r1 r2 r3 r4 r5 r6 r7 : Root} (h : upd (upd (upd (upd (upd (upd (upd H b1 r1) b2 r2) b3 r3) b4 r4) b5 r5) b6 r6) b7 r7 c = none) : H c = none := nu6 (none_upd h)
attribute [go_sem] ownT_nil ownH_nil ownH_ne one_own cells_own len_own
end Go.Abs
