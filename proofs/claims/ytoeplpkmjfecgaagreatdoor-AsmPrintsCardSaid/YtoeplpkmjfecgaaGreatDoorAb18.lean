import Derived.Test.YtoeplpkmjfecgaaGreatDoorAb17
/- Rows of one's own, many at a time. -/
namespace Go.Abs
set_option linter.unusedSimpArgs false
set_option linter.unusedVariables false
section
variable {P : Program} {w : World} {H K : Heap}
variable {d : Option Tmp} {ty : TypeId} {pos : String} {aft : Array Edge} {g : Option (Nat × Bool)}
/-- A row: its block, how many cells an element has, its elements. -/
abbrev Row := Nat × Nat × List (List TV)
def Row.T (r : Row) : TV := ownT r.1 r.2.1 r.2.2
/-- K has all that H has, and these rows, which H knows nothing of. -/
structure Owns (H K : Heap) (rows : List Row) : Prop where
  sub : Sub H K
  free : ∀ r ∈ rows, H r.1 = none
  held : ∀ r ∈ rows, r.2.2 = [] ∨ K r.1 = some (.cells r.2.2.flatten)
  apart : rows.Pairwise fun x y => x.2.2 = [] ∨ y.2.2 = [] ∨ x.1 ≠ y.1
theorem Owns.nil (h : Sub H K) : Owns H K [] := ⟨h, fun r hr => (List.not_mem_nil hr).elim, fun r hr => (List.not_mem_nil hr).elim, .nil⟩
theorem Owns.less {G : Heap} {rows : List Row} (h : Owns H K rows) (hs : Sub G H) : Owns G K rows := ⟨hs.trans h.sub, fun r hr => hs.gone (h.free r hr), h.held, h.apart⟩
theorem none_at {b p : Nat} {r : Root} (hb : K b = none) (hp : K p = some r) : p ≠ b := fun e => by rw [e, hb] at hp; cases hp
theorem Owns.fresh {rows : List Row} (h : Owns H K rows) {t : Nat} {c : Root} (ht : K t = none) : Owns H (upd K t c) rows := by
  refine ⟨h.sub.upd (h.sub.gone ht), h.free, fun r hr => (h.held r hr).imp_right fun e => ?_, h.apart⟩
  simp only [upd, if_neg (none_at ht e)]; exact e
theorem Owns.over {rows : List Row} (h : Owns H K rows) {t : Nat} {c : Root} (ht : H t = none) (hn : ∀ r ∈ rows, r.2.2 = [] ∨ r.1 ≠ t) : Owns H (upd K t c) rows := by
  refine ⟨h.sub.upd ht, h.free, fun r hr => ?_, h.apart⟩
  rcases hn r hr with e | e
  · exact .inl e
  · refine (h.held r hr).imp_right fun e' => ?_
    simp only [upd, if_neg e]; exact e'
theorem Owns.snoc {rows : List Row} (h : Owns H K rows) {b k : Nat} {L : List (List TV)} (hb : K b = none) : Owns H (ownH K b L) (rows ++ [(b, k, L)]) := by
  have hH : H b = none := h.sub.gone hb
  refine ⟨h.sub.own hH, fun r hr => ?_, fun r hr => ?_, ?_⟩
  · rcases List.mem_append.1 hr with hr | hr
    · exact h.free r hr
    · rw [List.mem_singleton.1 hr]; exact hH
  · rcases List.mem_append.1 hr with hr | hr
    · refine (h.held r hr).imp_right fun e => ?_
      rw [ownH_ne (eq_false (none_at hb e))]; exact e
    · rw [List.mem_singleton.1 hr]
      by_cases e : L = []
      · exact .inl e
      · exact .inr (ownH_at e)
  · rw [List.pairwise_append]
    refine ⟨h.apart, List.pairwise_singleton _ _, fun x hx y hy => ?_⟩
    rw [List.mem_singleton.1 hy]
    rcases h.held x hx with e | e
    · exact .inl e
    · exact .inr (.inr (none_at hb e))
/-- One row becomes another one. -/
theorem Owns.turn {pre post : List Row} {b b' k : Nat} {L M : List (List TV)} (h : Owns H K (pre ++ (b, k, L) :: post)) {K' : Heap} (hb' : b' = b ∨ K b' = none) (hk : ∀ p r, p ≠ b → K p = some r → K' p = some r) (hM : M = [] ∨ K' b' = some (.cells M.flatten)) (hL : L = [] → K b' = none) (hKL : L = [] → ∀ p r, K p = some r → K' p = some r) :
    Owns H K' (pre ++ (b', k, M) :: post) := by
  have hHb : H b = none := h.free (b, k, L) (by simp)
  have ap := h.apart
  rw [List.pairwise_append, List.pairwise_cons] at ap
  obtain ⟨a1, ⟨a2, a3⟩, a4⟩ := ap
  have other : ∀ r, (r ∈ pre ∨ r ∈ post) → r.2.2 = [] ∨ (K' r.1 = some (.cells r.2.2.flatten) ∧ r.1 ≠ b') := by
    intro r hr
    have hm : r ∈ pre ++ (b, k, L) :: post := by rcases hr with hr | hr <;> simp [hr]
    have hx : r.2.2 = [] ∨ L = [] ∨ r.1 ≠ b := by
      rcases hr with hr | hr
      · exact a4 r hr (b, k, L) (by simp)
      · rcases a2 r hr with e | e | e
        · exact .inr (.inl e)
        · exact .inl e
        · exact .inr (.inr fun e' => e e'.symm)
    rcases h.held r hm with e | e
    · exact .inl e
    · rcases hx with e1 | e1 | e1
      · exact .inl e1
      · exact .inr ⟨hKL e1 _ _ e, none_at (hL e1) e⟩
      · refine .inr ⟨hk _ _ e1 e, ?_⟩
        rcases hb' with rfl | hb'
        · exact e1
        · exact none_at hb' e
  refine ⟨fun p r hp => hk p r (fun e => by rw [e, hHb] at hp; cases hp) (h.sub p r hp), fun r hr => ?_, fun r hr => ?_, ?_⟩
  · rcases List.mem_append.1 hr with hr | hr
    · exact h.free r (by simp [hr])
    · rcases List.mem_cons.1 hr with rfl | hr
      · rcases hb' with rfl | hb'
        · exact hHb
        · exact h.sub.gone hb'
      · exact h.free r (by simp [hr])
  · rcases List.mem_append.1 hr with hr | hr
    · exact (other r (.inl hr)).imp_right (·.1)
    · rcases List.mem_cons.1 hr with rfl | hr
      · exact hM
      · exact (other r (.inr hr)).imp_right (·.1)
  · rw [List.pairwise_append, List.pairwise_cons]
    refine ⟨a1, ⟨fun r hr => ?_, a3⟩, fun x hx y hy => ?_⟩
    · rcases other r (.inr hr) with e | e
      · exact .inr (.inl e)
      · exact .inr (.inr fun e' => e.2 e'.symm)
    · rcases List.mem_cons.1 hy with rfl | hy
      · rcases other x (.inl hx) with e | e
        · exact .inl e
        · exact .inr (.inr e.2)
      · exact a4 x hx y (List.mem_cons_of_mem _ hy)
/-- append to one of the rows. -/
theorem oc_append_row {t tx : TypeId} {s x : Operand} {b k bytes : Nat} {L N : List (List TV)} {xt : TV} {pre post : List Row} (hO : Owns H K (pre ++ (b, k, L) :: post)) (ha : apP P t = some (k, bytes)) {e' : TypeId} (hk : P.underlying tx = some (.slice e'))
    (hL : Each k L) (hN : Each k N) (hs : srcT K k xt = some (N.length, N.flatten)) (ho : N.flatten.all oneT = true) (hby : (L.length + N.length + (L.length + N.length) / 4 + 192) * bytes ≤ 281474976710656) (h63 : L.length + N.length ≤ 9223372036854775807) :
    OC P ⟨d, .call { callee := .builtin .append, args := #[s, x], argTypes := #[t, tx] }, ty, pos, aft, g⟩ [ownT b k L, xt] K (fun r K' => ∃ b', r = ownT b' k (L ++ N) ∧ Owns H K' (pre ++ (b', k, L ++ N) :: post) ∧ (L ≠ [] → H b = none) ∧ ∀ p q, (L = [] ∨ p ≠ b) → K p = some q → K' p = some q) := by
  by_cases h0 : L = []
  · subst h0
    simp only [ownT_nil, List.nil_append, List.length_nil, Nat.zero_add] at *
    intro ev w hr hh
    obtain ⟨v, w', h1, r, K', hC, h2⟩ := oc_append_nil (d := d) (ty := ty) (pos := pos) (aft := aft) (g := g) (s := s) (x := x) ha hk hs ho hby h63 ev w hr hh
    refine ⟨v, w', h1, r, K', ?_, h2⟩
    rcases hC with ⟨hm, rfl, rfl⟩ | ⟨hm, b', hb', rfl, rfl⟩
    · obtain rfl := List.eq_nil_of_length_eq_zero hm
      exact ⟨b, rfl, hO, fun h => (h rfl).elim, fun p q _ h => h⟩
    · have hne : N ≠ [] := List.length_pos_iff.1 hm
      have keep : ∀ p q, K p = some q → upd K b' (.cells N.flatten) p = some q := fun p q h => by simp only [upd, if_neg (none_at hb' h)]; exact h
      exact ⟨b', by rw [ownT_ne hne], hO.turn (.inr hb') (fun p q _ h => keep p q h) (.inr (by simp [upd])) (fun _ => hb') (fun _ => keep), fun h => (h rfl).elim, fun p q _ h => keep p q h⟩
  · rw [ownT_ne h0]
    have hb : K b = some (.cells L.flatten) := (hO.held (b, k, L) (by simp)).resolve_left h0
    intro ev w hr hh
    obtain ⟨v, w', h1, r, K', ⟨c, hc, hr', hH⟩, h2⟩ := oc_append (d := d) (ty := ty) (pos := pos) (aft := aft) (g := g) (s := s) (x := x) ha hk hb hL.len hs ho hby h63 ev w hr hh
    refine ⟨v, w', h1, r, K', ⟨c, ?_, ?_, fun _ => hO.free (b, k, L) (by simp), ?_⟩, h2⟩
    · rw [hr', ownT_ne (by simp [h0]), List.length_append]
    · have keep : ∀ p q, p ≠ b → K p = some q → K' p = some q := fun p q hp hq => by
        rw [hH]
        have hpc : p ≠ c := by
          rcases hc with rfl | hc
          · exact hp
          · exact none_at hc hq
        simp only [upd, if_neg hpc, dropB, if_neg hp]; exact hq
      exact hO.turn hc keep (.inr (by rw [hH, List.flatten_append]; simp [upd])) (fun e => (h0 e).elim) (fun e => (h0 e).elim)
    · intro p q hp hq
      have hp := hp.resolve_left h0
      rw [hH]
      have hpc : p ≠ c := by
        rcases hc with rfl | hc
        · exact hp
        · exact none_at hc hq
      simp only [upd, if_neg hpc, dropB, if_neg hp]; exact hq
/-- append of a frozen row to nothing. -/
theorem oc_append_own0 {t tx : TypeId} {s x : Operand} {k bytes : Nat} {N : List (List TV)} (ha : apP P t = some (k, bytes)) {e' : TypeId} (hk : P.underlying tx = some (.slice e')) (hN : Each k N) (ho : N.flatten.all oneT = true) (hby : (N.length + N.length / 4 + 192) * bytes ≤ 281474976710656) (h63 : N.length ≤ 9223372036854775807) :
    OC P ⟨d, .call { callee := .builtin .append, args := #[s, x], argTypes := #[t, tx] }, ty, pos, aft, g⟩ [.nils, .vs k N] H (fun r H' => ∃ b', H b' = none ∧ r = ownT b' k N ∧ H' = ownH H b' N) := by
  have h := oc_append_own (d := d) (ty := ty) (pos := pos) (aft := aft) (g := g) (s := s) (x := x) (b := 0) (H := H) (L := []) (N := N) (xt := .vs k N) ha hk .nil hN (fun h => (h rfl).elim) (srcT_vs _ _ _) ho (by simpa using hby) (by simpa using h63)
  simpa only [ownT_nil, ownH_nil, List.nil_append] using h
theorem convL_rows {rows : List Row} (hs : Sub H K) (hf : ∀ r ∈ rows, H r.1 = none) (ha : ∀ r ∈ rows, r.2.2 = [] ∨ K r.1 = some (.cells r.2.2.flatten)) (he : ∀ r ∈ rows, Each r.2.1 r.2.2) : ∀ r ∈ rows, Conv K H r.T (.vs r.2.1 r.2.2) := fun r hr => conv_own hs (ha r hr) (hf r hr) (he r hr)
end
theorem cond_t' {α : Type} (a b : α) : (bif true then a else b) = a := id rfl
theorem cond_f' {α : Type} (a b : α) : (bif false then a else b) = b := id rfl
attribute [go_sem] cond_t' cond_f'
end Go.Abs
