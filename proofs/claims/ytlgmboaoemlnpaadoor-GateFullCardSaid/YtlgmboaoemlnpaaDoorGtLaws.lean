import Derived.Test.YtlgmboaoemlnpaaDoorGtPure
/- Gate, pure: the laws. -/
namespace Go.Proofs.YtlgmboaoemlnpaaDoor.Gt
open Go.Lib Go.RowKit Go.Proofs.YtlgmboaoemlnpaaDoorW.PrintWords Go.Proofs.YtlgmboaoemlnpaaDoor.P
set_option linter.unusedVariables false
set_option linter.unusedSimpArgs false

set_option maxRecDepth 100000 in
theorem awake_ev : Ev (fun k => budwoodlaw18_awake.f k) true := Ev.of (budwoodlaw18_awake.mono) (k := 60) (by decide +kernel)
theorem awake_end : Ev (fun k => (budwoodlaw18_awake.f k).bind fun t => some t) true := Ev.bind awake_ev (Ev.now _)
/-- What an argument is: kinds are bytes, names are no longer than there is room. -/
def OkL (l : List S43) : Prop := ∀ x ∈ l, (0 ≤ x.f0 ∧ x.f0 < 256) ∧ x.f1.f0.size < 4294967281
theorem okl_rd {l : List S43} (h : OkL l) (i : Int) : (0 ≤ (rd_T43 l i).f0 ∧ (rd_T43 l i).f0 < 256) ∧ (rd_T43 l i).f1.f0.size < 4294967281 := by
  unfold rd_T43
  rw [List.getD_eq_getElem?_getD]
  cases hh : l[i.toNat]? with
  | none => exact ⟨⟨by decide, by decide⟩, by decide⟩
  | some x => exact h x (List.mem_of_getElem? hh)

/-! ### any calls -/
theorem plays_l0 (l : List S43) (hl : l.length ≤ 200) (ho : OkL l) : ∀ (d i : Nat) (s : AR51), Good s → i + d = l.length → Ev (fun k => budwoodlaw18_GatePlays.l0 k l (i : Int) s (conv s)) true := by
  intro d
  induction d with
  | zero =>
    intro i s hs hi
    refine Ev.step (fun k => by rw [budwoodlaw18_GatePlays.l0]) ?_
    simp only [if_neg (show ¬ (i : Int) < (l.length : Int) by omega)]
    exact awake_end
  | succ d ih =>
    intro i s hs hi
    refine Ev.step (fun k => by rw [budwoodlaw18_GatePlays.l0]) ?_
    simp only [if_pos (show (i : Int) < (l.length : Int) by omega), if_pos (show 0 ≤ (i : Int) by omega)]
    refine Ev.bind (do_ev s hs (rd_T43 l (i : Int)).f0 (rd_T43 l (i : Int)).f1 (okl_rd ho _).2) ?_
    simp only [if_true]
    refine Ev.bind (same_ev _ (good_do hs _ _)) ?_
    simp only [Bool.not_true]
    refine Ev.step (fun k => by rw [budwoodlaw18_GatePlays.j1]) ?_
    simp only [Bool.false_eq_true, if_false, w64 (x := (i : Int) + 1) (by omega) (by omega)]
    exact ih (i + 1) _ (good_do hs _ _) (by omega)
theorem plays_ev (l : List S43) (ho : OkL l) : Ev (fun k => budwoodlaw18_GatePlays.f k l) true := by
  unfold budwoodlaw18_GatePlays.f gate_New.f
  by_cases h : (l.length : Int) > 200
  · simp only [if_pos h]
    exact awake_end
  · simp only [if_neg h, Option.bind_some]
    exact plays_l0 l (by omega) ho l.length 0 AR51.z good_z (by omega)

/-! ### as many gates as there are -/
theorem full_l0 (a b : Int) (h : Int.tmod (wrap64 a) 8 = Int.tmod (wrap64 b) 8) : ∀ (k : Nat) (i : Int) (s : AR51), budwoodlaw18_GateFull.l0 k a i s = budwoodlaw18_GateFull.l0 k b i s := by
  intro k
  induction k with
  | zero => intro i s; rfl
  | succ k ih =>
    intro i s
    simp only [budwoodlaw18_GateFull.l0, h, ih]
theorem full_f (a b : Int) (h : Int.tmod (wrap64 a) 8 = Int.tmod (wrap64 b) 8) (k : Nat) : budwoodlaw18_GateFull.f k a = budwoodlaw18_GateFull.f k b := by
  unfold budwoodlaw18_GateFull.f
  simp only [full_l0 a b h]
set_option maxRecDepth 100000 in
theorem full_at : ∀ r : Fin 8, budwoodlaw18_GateFull.f 60 ((r.val : Nat) : Int) = some true := by decide +kernel
theorem full_ev (a : Int) (h0 : 0 ≤ a) (h1 : a < 256) : Ev (fun k => budwoodlaw18_GateFull.f k a) true := by
  have hw : wrap64 a = a := w64 (by omega) (by omega)
  have hr : Int.tmod (wrap64 a) 8 = Int.tmod (wrap64 (((a.toNat % 8 : Nat)) : Int)) 8 := by
    rw [hw, w64 (x := ((a.toNat % 8 : Nat) : Int)) (by omega) (by omega)]
    rw [Int.tmod_eq_emod_of_nonneg h0, Int.tmod_eq_emod_of_nonneg (by omega)]
    omega
  refine Ev.congr (fun k => full_f a _ hr k) ?_
  exact Ev.of (fun k => budwoodlaw18_GateFull.mono _ k) (full_at ⟨a.toNat % 8, Nat.mod_lt _ (by decide)⟩)

/-! ### no two alike -/
def Dist (s : AR51) : Prop := ∀ i j : Int, 0 ≤ i → i < 8 → 0 ≤ j → j < 8 → i ≠ j → (s.rd i).f1 ≠ 0 → (s.rd j).f1 ≠ 0 → (s.rd i).f0.toList ≠ (s.rd j).f0.toList ∧ (s.rd i).f1 ≠ (s.rd j).f1
theorem dist_z : Dist AR51.z := fun i j h0 h8 _ _ _ hi _ => by
  exfalso
  apply hi
  rcases AR51.cases i h0 h8 with rfl | rfl | rfl | rfl | rfl | rfl | rfl | rfl <;> rfl
theorem dist_up {s : AR51} (hd : Dist s) {g : Int} (g0 : 0 ≤ g) (g8 : g < 8) {b : S31}
    (hb : ∀ j : Int, 0 ≤ j → j < 8 → j ≠ g → (s.rd j).f1 ≠ 0 → b.f1 ≠ 0 → b.f0.toList ≠ (s.rd j).f0.toList ∧ b.f1 ≠ (s.rd j).f1) : Dist (s.up g b) := fun i j i0 i8 j0 j8 hij => by
  rw [rd_up s g i b g0 g8 i0 i8, rd_up s g j b g0 g8 j0 j8]
  by_cases hi : i = g
  · by_cases hj : j = g
    · exact absurd (hi.trans hj.symm) hij
    · rw [if_pos hi, if_neg hj]
      exact fun h1 h2 => hb j j0 j8 hj h2 h1
  · by_cases hj : j = g
    · rw [if_neg hi, if_pos hj]
      exact fun h1 h2 => ⟨fun e => (hb i i0 i8 hi h1 h2).1 e.symm, fun e => (hb i i0 i8 hi h1 h2).2 e.symm⟩
    · rw [if_neg hi, if_neg hj]
      exact hd i j i0 i8 j0 j8 hij
theorem pOf_iff {m : ByteArray} {x : S31} : pOf m x = true ↔ isZ x = false ∧ x.f0.toList = m.toList := by
  unfold pOf
  simp [Bool.and_eq_true]
theorem f1_ne {s : AR51} (hs : Good s) {j : Int} (h0 : 0 ≤ j) (h8 : j < 8) (h : isZ (s.rd j) = false) : (s.rd j).f1 ≠ 0 := fun e => by
  rw [hs j h0 h8 e] at h
  cases h
theorem isZ_ne {x : S31} (h : x.f1 ≠ 0) : isZ x = false := by
  cases hq : isZ x with
  | false => rfl
  | true => exact absurd (isZ_f1 hq) h
/-- One gate has the module: the first that find tells. -/
theorem the_one {s : AR51} (hs : Good s) (hd : Dist s) {m : ByteArray} {g : Int} (g0 : 0 ≤ g) (g8 : g < 8) (h : pOf m (s.rd g) = true) : arIdx (pOf m) s = g := by
  rcases idx_spec (pOf m) s with ⟨_, a⟩ | ⟨h0, h8, hp, _⟩
  · rw [a g g0 g8] at h
    cases h
  · by_cases e : arIdx (pOf m) s = g
    · exact e
    · have a := pOf_iff.1 h
      have b := pOf_iff.1 hp
      exact absurd (b.2.trans a.2.symm) (hd _ _ h0 h8 g0 g8 e (f1_ne hs h0 h8 b.1) (f1_ne hs g0 g8 a.1)).1
theorem dist_open {s : AR51} (hs : Good s) (hd : Dist s) (b : S31) : Dist (openR s b).2.2 := by
  unfold openR
  split
  · split
    · exact hd
    · split
      · exact hd
      · rename_i hz h2
        split
        · exact hd
        · rename_i h3
          obtain ⟨g0, g8⟩ := idx_lt _ s h3
          refine dist_up hd g0 g8 (fun j j0 j8 hj h4 h5 => ⟨fun e => ?_, fun e => ?_⟩)
          · rcases idx_spec (pOf b.f0) s with ⟨_, a⟩ | ⟨h0, _⟩
            · have := a j j0 j8
              rw [pOf_iff.2 ⟨isZ_ne h4, e.symm⟩] at this
              cases this
            · exact h2 (.inl h0)
          · rcases idx_spec (pOwned b.f1) s with ⟨_, a⟩ | ⟨h0, _⟩
            · have := a j j0 j8
              unfold pOwned at this
              rw [beq_iff_eq.2 e.symm] at this
              cases this
            · exact h2 (.inr h0)
  · exact hd
theorem dist_turn {s : AR51} (hs : Good s) (hd : Dist s) (b : S31) : Dist (turnR s b).2.2.2.2.2 := by
  unfold turnR
  split
  · exact hd
  · split
    · exact hd
    · rename_i hz h3
      split
      · exact hd
      · rename_i h4
        rcases idx_spec (pOf b.f0) s with ⟨e, _⟩ | ⟨g0, g8, hp, _⟩
        · exact absurd (by omega) h3
        · have hq := pOf_iff.1 hp
          refine dist_up hd g0 g8 (fun j j0 j8 hj h5 h6 => ⟨fun e => ?_, fun e => ?_⟩)
          · exact (hd _ _ g0 g8 j0 j8 (Ne.symm hj) (f1_ne hs g0 g8 hq.1) h5).1 (hq.2.trans e)
          · rcases idx_spec (pOwned b.f1) s with ⟨_, a⟩ | ⟨h0, _⟩
            · have := a j j0 j8
              unfold pOwned at this
              rw [beq_iff_eq.2 e.symm] at this
              cases this
            · exact h4 h0
theorem dist_close {s : AR51} (hd : Dist s) (m : ByteArray) : Dist (closeR s m) := by
  unfold closeR
  split
  · exact hd
  · rename_i h3
    obtain ⟨g0, g8⟩ := idx_lt _ s h3
    exact dist_up hd g0 g8 (fun j _ _ _ _ h => absurd rfl h)
theorem dist_do {s : AR51} (hs : Good s) (hd : Dist s) (kind : Int) (b : S31) : Dist (doR s kind b) := by
  unfold doR
  split
  · exact dist_turn hs hd b
  · split
    · exact dist_close hd b.f0
    · split
      · exact hd
      · exact dist_open hs hd b

/-! ### how the count goes -/
def bit (x : S31) : Nat := if isZ x = true then 1 else 0
theorem free8 (s : AR51) : freeR s = bit s.e0 + (bit s.e1 + (bit s.e2 + (bit s.e3 + (bit s.e4 + (bit s.e5 + (bit s.e6 + (bit s.e7 + 0))))))) := rfl
theorem free_up (s : AR51) (g : Int) (g0 : 0 ≤ g) (g8 : g < 8) (b : S31) : freeR (s.up g b) + bit (s.rd g) = freeR s + bit b := by
  rw [free8, free8]
  rcases AR51.cases g g0 g8 with rfl | rfl | rfl | rfl | rfl | rfl | rfl | rfl
  · show bit b + (bit s.e1 + (bit s.e2 + (bit s.e3 + (bit s.e4 + (bit s.e5 + (bit s.e6 + (bit s.e7 + 0))))))) + bit s.e0 = _
    omega
  · show bit s.e0 + (bit b + (bit s.e2 + (bit s.e3 + (bit s.e4 + (bit s.e5 + (bit s.e6 + (bit s.e7 + 0))))))) + bit s.e1 = _
    omega
  · show bit s.e0 + (bit s.e1 + (bit b + (bit s.e3 + (bit s.e4 + (bit s.e5 + (bit s.e6 + (bit s.e7 + 0))))))) + bit s.e2 = _
    omega
  · show bit s.e0 + (bit s.e1 + (bit s.e2 + (bit b + (bit s.e4 + (bit s.e5 + (bit s.e6 + (bit s.e7 + 0))))))) + bit s.e3 = _
    omega
  · show bit s.e0 + (bit s.e1 + (bit s.e2 + (bit s.e3 + (bit b + (bit s.e5 + (bit s.e6 + (bit s.e7 + 0))))))) + bit s.e4 = _
    omega
  · show bit s.e0 + (bit s.e1 + (bit s.e2 + (bit s.e3 + (bit s.e4 + (bit b + (bit s.e6 + (bit s.e7 + 0))))))) + bit s.e5 = _
    omega
  · show bit s.e0 + (bit s.e1 + (bit s.e2 + (bit s.e3 + (bit s.e4 + (bit s.e5 + (bit b + (bit s.e7 + 0))))))) + bit s.e6 = _
    omega
  · show bit s.e0 + (bit s.e1 + (bit s.e2 + (bit s.e3 + (bit s.e4 + (bit s.e5 + (bit s.e6 + (bit b + 0))))))) + bit s.e7 = _
    omega
theorem bit1 {x : S31} (h : isZ x = true) : bit x = 1 := if_pos h
theorem bit0 {x : S31} (h : isZ x = false) : bit x = 0 := if_neg (by rw [h]; decide)
/-- Has the module a gate? -/
def found (m : ByteArray) (s : AR51) : Bool := decide (0 ≤ arIdx (pOf m) s)
theorem found_at {s : AR51} {m : ByteArray} {g : Int} (g0 : 0 ≤ g) (g8 : g < 8) (h : pOf m (s.rd g) = true) : found m s = true := by
  unfold found
  rcases idx_spec (pOf m) s with ⟨_, a⟩ | ⟨h0, _⟩
  · rw [a g g0 g8] at h
    cases h
  · exact decide_eq_true h0
theorem found_not {s : AR51} {m : ByteArray} (h : ∀ j : Int, 0 ≤ j → j < 8 → pOf m (s.rd j) = false) : found m s = false := by
  unfold found
  rcases idx_spec (pOf m) s with ⟨e, _⟩ | ⟨h0, h8, hp, _⟩
  · exact decide_eq_false (by omega)
  · rw [h _ h0 h8] at hp
    cases hp
/-- What a call makes of a module's gate, and of the count. -/
def Step (s s' : AR51) (m : ByteArray) (kind : Int) : Prop :=
  (s' = s) ∨ (found m s = true ∧ found m s' = true ∧ freeR s' = freeR s ∧ arIdx (pOf m) s' = arIdx (pOf m) s) ∨
  (found m s = true ∧ found m s' = false ∧ freeR s' = freeR s + 1 ∧ Int.tmod kind 5 = 3) ∨
  (found m s = false ∧ found m s' = true ∧ freeR s' + 1 = freeR s ∧ ¬ Int.tmod kind 5 > 1)
theorem step_turn {s : AR51} (hs : Good s) (hd : Dist s) (b : S31) (kind : Int) : Step s (turnR s b).2.2.2.2.2 b.f0 kind := by
  have hg := good_turn hs b
  have hd2 := dist_turn hs hd b
  revert hg hd2
  unfold turnR
  split
  · exact fun _ _ => .inl rfl
  · rename_i hz
    split
    · exact fun _ _ => .inl rfl
    · rename_i h3
      split
      · exact fun _ _ => .inl rfl
      · intro hg hd2
        rcases idx_spec (pOf b.f0) s with ⟨e, _⟩ | ⟨g0, g8, hp, _⟩
        · exact absurd (by omega) h3
        · have hq := pOf_iff.1 hp
          have hb0 : isZ b = false := isZ_ne fun z => hz (.inl z)
          have hp2 : pOf b.f0 ((s.up (arIdx (pOf b.f0) s) b).rd (arIdx (pOf b.f0) s)) = true := by
            rw [rd_up s _ _ b g0 g8 g0 g8, if_pos rfl]
            exact pOf_iff.2 ⟨hb0, rfl⟩
          refine .inr (.inl ⟨decide_eq_true g0, found_at g0 g8 hp2, ?_, the_one hg hd2 g0 g8 hp2⟩)
          have := free_up s _ g0 g8 b
          rw [bit0 hb0, bit0 hq.1] at this
          exact this
theorem step_close {s : AR51} (hs : Good s) (hd : Dist s) (m : ByteArray) (kind : Int) (hk : Int.tmod kind 5 = 3) : Step s (closeR s m) m kind := by
  unfold closeR
  split
  · exact .inl rfl
  · rename_i h3
    rcases idx_spec (pOf m) s with ⟨e, _⟩ | ⟨g0, g8, hp, _⟩
    · exact absurd (by omega) h3
    · have hq := pOf_iff.1 hp
      refine .inr (.inr (.inl ⟨decide_eq_true g0, found_not fun j j0 j8 => ?_, ?_, hk⟩))
      · rw [rd_up s _ j _ g0 g8 j0 j8]
        by_cases hj : j = arIdx (pOf m) s
        · rw [if_pos hj]
          unfold pOf
          rw [isZ_z]
          rfl
        · rw [if_neg hj]
          cases hx : pOf m (s.rd j) with
          | false => rfl
          | true => exact absurd (the_one hs hd j0 j8 hx).symm hj
      · have := free_up s _ g0 g8 ⟨(⟨#[]⟩ : ByteArray), 0, 0⟩
        rw [bit1 isZ_z, bit0 hq.1] at this
        exact this
theorem step_open {s : AR51} (hs : Good s) (b : S31) (kind : Int) (hk : ¬ Int.tmod kind 5 > 1) : Step s (openR s b).2.2 b.f0 kind := by
  unfold openR
  split
  · split
    · exact .inl rfl
    · rename_i hz
      split
      · exact .inl rfl
      · rename_i h2
        split
        · exact .inl rfl
        · rename_i h3
          rcases idx_spec isZ s with ⟨e, _⟩ | ⟨g0, g8, hp, _⟩
          · exact absurd (by omega) h3
          · have hb0 : isZ b = false := isZ_ne fun z => hz (.inl z)
            refine .inr (.inr (.inr ⟨decide_eq_false fun z => h2 (.inl z), found_at g0 g8 ?_, ?_, hk⟩))
            · rw [rd_up s _ _ b g0 g8 g0 g8, if_pos rfl]
              exact pOf_iff.2 ⟨hb0, rfl⟩
            · have := free_up s _ g0 g8 b
              rw [bit0 hb0, bit1 hp] at this
              exact this
  · exact .inl rfl
theorem step_do {s : AR51} (hs : Good s) (hd : Dist s) (kind : Int) (h0 : 0 ≤ kind) (b : S31) : Step s (doR s kind b) b.f0 kind := by
  unfold doR
  split
  · exact step_turn hs hd b kind
  · rename_i h2
    split
    · rename_i h3
      exact step_close hs hd b.f0 kind h3
    · rename_i h3
      split
      · exact .inl rfl
      · rename_i h4
        refine step_open hs b kind ?_
        rw [Int.tmod_eq_emod_of_nonneg h0] at h2 h3 h4 ⊢
        omega
theorem find_code (s : AR51) (m : ByteArray) : (findR s m).2.2.2.2 = if found m s = true then 0 else 8 := by
  unfold findR found
  by_cases h : arIdx (pOf m) s < 0
  · rw [if_pos h, decide_eq_false (show ¬ 0 ≤ arIdx (pOf m) s by omega)]
    rfl
  · rw [if_neg h, decide_eq_true (show 0 ≤ arIdx (pOf m) s by omega)]
    rfl
theorem counts_j3 (l : List S43) (i : Nat) (hi : (i : Int) < (l.length : Int)) (hl : l.length ≤ 200) (s s' : AR51) (r : AR39) (hf : freeR s ≤ 8)
    (by_ : Int) (hx : Ev (fun k => budwoodlaw18_GateCounts.l0 k l (((i + 1 : Nat)) : Int) s' r) true)
    (h : (by_ = 0 ∧ freeR s' = freeR s) ∨ (by_ = 1 ∧ freeR s' = freeR s + 1 ∧ Int.tmod (rd_T43 l (i : Int)).f0 5 = 3)) :
    Ev (fun k => budwoodlaw18_GateCounts.j3 k l (i : Int) ((freeR s : Nat) : Int) by_ false s' r) true := by
  refine Ev.step (fun k => by rw [budwoodlaw18_GateCounts.j3]) ?_
  simp only [Bool.false_eq_true, if_false]
  refine Ev.bind (free_ev s') ?_
  have hx2 : Ev (fun k => budwoodlaw18_GateCounts.l0 k l (wrap64 ((i : Int) + 1)) s' r) true := by rw [w64 (x := (i : Int) + 1) (by omega) (by omega), show (i : Int) + 1 = ((i + 1 : Nat) : Int) by omega]; exact hx
  rcases h with ⟨rfl, e⟩ | ⟨rfl, e, hk⟩
  · simp only [e, Int.add_zero, w64 (x := ((freeR s : Nat) : Int)) (by omega) (by omega), if_true, if_neg (show ¬ (0 : Int) = 1 by decide), if_neg (show ¬ (0 : Int) = -1 by decide)]
    exact hx2
  · simp only [e, w64 (x := ((freeR s : Nat) : Int) + 1) (by omega) (by omega), if_pos (show ((freeR s + 1 : Nat) : Int) = ((freeR s : Nat) : Int) + 1 by omega), if_true, if_pos (show 0 ≤ (i : Int) by omega), if_pos hi, if_pos hk, if_neg (show ¬ (1 : Int) = -1 by decide)]
    exact hx2
theorem counts_l0 (l : List S43) (hl : l.length ≤ 200) (ho : OkL l) : ∀ (d i : Nat) (s : AR51), Good s → Dist s → i + d = l.length → Ev (fun k => budwoodlaw18_GateCounts.l0 k l (i : Int) s (conv s)) true := by
  intro d
  induction d with
  | zero =>
    intro i s hs hd hi
    refine Ev.step (fun k => by rw [budwoodlaw18_GateCounts.l0]) ?_
    simp only [if_neg (show ¬ (i : Int) < (l.length : Int) by omega)]
    exact awake_end
  | succ d ih =>
    intro i s hs hd hi
    have hil : (i : Int) < (l.length : Int) := by omega
    have hf : freeR s ≤ 8 := cnt_le s 8 0
    have hn := ih (i + 1) _ (good_do hs (rd_T43 l (i : Int)).f0 (rd_T43 l (i : Int)).f1) (dist_do hs hd _ _) (by omega)
    have hst := step_do hs hd (rd_T43 l (i : Int)).f0 (okl_rd ho (i : Int)).1.1 (rd_T43 l (i : Int)).f1
    refine Ev.step (fun k => by rw [budwoodlaw18_GateCounts.l0]) ?_
    simp only [if_pos hil, if_pos (show 0 ≤ (i : Int) by omega)]
    refine Ev.bind (free_ev s) ?_
    simp only [find_f, Option.bind_some]
    refine Ev.bind (do_ev s hs (rd_T43 l (i : Int)).f0 (rd_T43 l (i : Int)).f1 (okl_rd ho _).2) ?_
    simp only [find_code]
    generalize doR s (rd_T43 l (i : Int)).f0 (rd_T43 l (i : Int)).f1 = s' at hn hst ⊢
    generalize hm : (rd_T43 l (i : Int)).f1.f0 = m at hst ⊢
    have plain : ∀ c : Int, freeR s' = freeR s → Ev (fun k => budwoodlaw18_GateCounts.j3 k l (i : Int) ((freeR s : Nat) : Int) 0 false s' (conv s')) true := fun c e => counts_j3 l i hil (by omega) s s' (conv s') hf 0 hn (.inl ⟨rfl, e⟩)
    have tt : found m s = true → found m s' = true → freeR s' = freeR s → Ev (fun k => if (if found m s = true then (0 : Int) else 8) = 0 then budwoodlaw18_GateCounts.j1 k l (i : Int) ((freeR s : Nat) : Int) (if found m s = true then 0 else 8) (if found m s' = true then 0 else 8) 0 ((if found m s' = true then (0 : Int) else 8) != 0) s' (conv s') else budwoodlaw18_GateCounts.j1 k l (i : Int) ((freeR s : Nat) : Int) (if found m s = true then 0 else 8) (if found m s' = true then 0 else 8) 0 false s' (conv s')) true := fun a b e => by
      simp only [if_pos a, if_pos b, if_true]
      refine Ev.step (fun k => by rw [budwoodlaw18_GateCounts.j1]) ?_
      simp only [bne_self_eq_false, Bool.false_eq_true, if_false]
      refine Ev.step (fun k => by rw [budwoodlaw18_GateCounts.j2]) ?_
      simp only [if_true]
      exact plain 0 e
    have ff : found m s = false → found m s' = false → freeR s' = freeR s → Ev (fun k => if (if found m s = true then (0 : Int) else 8) = 0 then budwoodlaw18_GateCounts.j1 k l (i : Int) ((freeR s : Nat) : Int) (if found m s = true then 0 else 8) (if found m s' = true then 0 else 8) 0 ((if found m s' = true then (0 : Int) else 8) != 0) s' (conv s') else budwoodlaw18_GateCounts.j1 k l (i : Int) ((freeR s : Nat) : Int) (if found m s = true then 0 else 8) (if found m s' = true then 0 else 8) 0 false s' (conv s')) true := fun a b e => by
      simp only [a, b, Bool.false_eq_true, if_false, if_neg (show ¬ (8 : Int) = 0 by decide)]
      refine Ev.step (fun k => by rw [budwoodlaw18_GateCounts.j1]) ?_
      simp only [Bool.false_eq_true, if_false]
      refine Ev.step (fun k => by rw [budwoodlaw18_GateCounts.j2]) ?_
      simp only [if_neg (show ¬ (8 : Int) = 0 by decide), show ((8 : Int) == 0) = false from rfl]
      exact plain 0 e
    rcases hst with rfl | ⟨a, b, e, _⟩ | ⟨a, b, e, hk⟩ | ⟨a, b, e, hk⟩
    · cases hfd : found m s' with
      | true => rw [hfd] at tt; exact tt rfl rfl rfl
      | false => rw [hfd] at ff; exact ff rfl rfl rfl
    · exact tt a b e
    · simp only [a, b, Bool.false_eq_true, if_false, if_true]
      refine Ev.step (fun k => by rw [budwoodlaw18_GateCounts.j1]) ?_
      simp only [show ((8 : Int) != 0) = true from rfl, if_true]
      refine Ev.step (fun k => by rw [budwoodlaw18_GateCounts.j2]) ?_
      simp only [if_true]
      exact counts_j3 l i hil (by omega) s s' (conv s') hf 1 hn (.inr ⟨rfl, e, hk⟩)
    · simp only [a, b, Bool.false_eq_true, if_false, if_true, if_neg (show ¬ (8 : Int) = 0 by decide)]
      refine Ev.step (fun k => by rw [budwoodlaw18_GateCounts.j1]) ?_
      simp only [Bool.false_eq_true, if_false]
      refine Ev.step (fun k => by rw [budwoodlaw18_GateCounts.j2]) ?_
      simp only [if_neg (show ¬ (8 : Int) = 0 by decide), beq_self_eq_true]
      refine Ev.step (fun k => by rw [budwoodlaw18_GateCounts.j3]) ?_
      simp only [if_true]
      refine Ev.bind (free_ev s') ?_
      have hx2 : Ev (fun k => budwoodlaw18_GateCounts.l0 k l (wrap64 ((i : Int) + 1)) s' (conv s')) true := by rw [w64 (x := (i : Int) + 1) (by omega) (by omega), show (i : Int) + 1 = ((i + 1 : Nat) : Int) by omega]; exact hn
      simp only [w64 (x := ((freeR s : Nat) : Int) + (-1)) (by omega) (by omega), if_pos (show ((freeR s' : Nat) : Int) = ((freeR s : Nat) : Int) + (-1) by omega), if_neg (show ¬ (-1 : Int) = 1 by decide), if_true, if_pos (show 0 ≤ (i : Int) by omega), if_pos hil, if_neg hk]
      exact hx2
theorem counts_ev (l : List S43) (ho : OkL l) : Ev (fun k => budwoodlaw18_GateCounts.f k l) true := by
  unfold budwoodlaw18_GateCounts.f gate_New.f
  by_cases h : (l.length : Int) > 100
  · simp only [if_pos h]
    exact awake_end
  · simp only [if_neg h, Option.bind_some]
    exact counts_l0 l (by omega) ho l.length 0 AR51.z good_z dist_z (by omega)

/-! ### what stays -/
theorem getR_in (s : AR51) {j : Int} (h0 : 0 ≤ j) (h8 : j < 8) : getR s j = s.rd j := if_neg (by omega)
theorem keeps_l2 (s : AR51) (hd : Dist s) (a : Nat) (ha : a < 8) (hn : Ev (fun k => budwoodlaw18_GateKeeps.l1 k (((a + 1 : Nat)) : Int) s) true) : ∀ (d j : Nat), j + d = a →
    Ev (fun k => budwoodlaw18_GateKeeps.l2 k (a : Int) (j : Int) s (s.rd (a : Int)).f0 (s.rd (a : Int)).f1 (s.rd (a : Int)).f2) true := by
  intro d
  induction d with
  | zero =>
    intro j hj
    refine Ev.step (fun k => by rw [budwoodlaw18_GateKeeps.l2]) ?_
    simp only [if_neg (show ¬ (j : Int) < (a : Int) by omega), w64 (x := (a : Int) + 1) (by omega) (by omega)]
    rw [show (a : Int) + 1 = ((a + 1 : Nat) : Int) by omega]
    exact hn
  | succ d ih =>
    intro j hj
    refine Ev.step (fun k => by rw [budwoodlaw18_GateKeeps.l2]) ?_
    have hg := getR_in s (j := (j : Int)) (by omega) (by omega)
    simp only [if_pos (show (j : Int) < (a : Int) by omega), get_f, Option.bind_some, hg, w64 (x := (j : Int) + 1) (by omega) (by omega)]
    have hn2 := ih (j + 1) (by omega)
    rw [show (((j + 1 : Nat)) : Int) = (j : Int) + 1 by omega] at hn2
    by_cases h1 : (s.rd (a : Int)).f1 = 0
    · simp only [if_pos h1]
      exact hn2
    · by_cases h2 : (s.rd (j : Int)).f1 = 0
      · simp only [if_neg h1, if_pos h2]
        exact hn2
      · have := hd (a : Int) (j : Int) (by omega) (by omega) (by omega) (by omega) (by omega) h1 h2
        simp only [if_neg h1, if_neg h2, if_neg this.1, if_neg this.2]
        exact hn2
theorem keeps_l1 (s : AR51) (hs : Good s) (hd : Dist s) : ∀ (d a : Nat), a + d = 8 → Ev (fun k => budwoodlaw18_GateKeeps.l1 k (a : Int) s) true := by
  intro d
  induction d with
  | zero =>
    intro a ha
    refine Ev.step (fun k => by rw [budwoodlaw18_GateKeeps.l1]) ?_
    simp only [if_neg (show ¬ (a : Int) < 8 by omega)]
    exact awake_end
  | succ d ih =>
    intro a ha
    refine Ev.step (fun k => by rw [budwoodlaw18_GateKeeps.l1]) ?_
    have hg := getR_in s (j := (a : Int)) (by omega) (by omega)
    have he : ((s.rd (a : Int)).f1 == 0) = isZ (s.rd (a : Int)) := by
      by_cases h : (s.rd (a : Int)).f1 = 0
      · rw [hs _ (by omega) (by omega) h, beq_iff_eq.2 h]
      · rw [isZ_ne h, beq_eq_false_iff_ne.2 h]
    have he2 : (((s.rd (a : Int)).f1 == 0) != ((s.rd (a : Int)).f0.toList == ([] : List UInt8) && ((s.rd (a : Int)).f1 == 0 && ((s.rd (a : Int)).f2 == 0)))) = false := by
      show (((s.rd (a : Int)).f1 == 0) != isZ (s.rd (a : Int))) = false
      rw [he]
      exact bne_self_eq_false _
    simp only [if_pos (show (a : Int) < 8 by omega), get_f, Option.bind_some, hg, he2, Bool.false_eq_true, if_false]
    exact keeps_l2 s hd a (by omega) (ih (a + 1) (by omega)) a 0 (by omega)
theorem keeps_l0 (l : List S43) (hl : l.length ≤ 200) (ho : OkL l) : ∀ (d i : Nat) (s : AR51), Good s → Dist s → i + d = l.length → Ev (fun k => budwoodlaw18_GateKeeps.l0 k l (i : Int) s (conv s)) true := by
  intro d
  induction d with
  | zero =>
    intro i s hs hd hi
    refine Ev.step (fun k => by rw [budwoodlaw18_GateKeeps.l0]) ?_
    simp only [if_neg (show ¬ (i : Int) < (l.length : Int) by omega)]
    exact keeps_l1 s hs hd 8 0 (by omega)
  | succ d ih =>
    intro i s hs hd hi
    have hn := ih (i + 1) _ (good_do hs (rd_T43 l (i : Int)).f0 (rd_T43 l (i : Int)).f1) (dist_do hs hd _ _) (by omega)
    have hst := step_do hs hd (rd_T43 l (i : Int)).f0 (okl_rd ho (i : Int)).1.1 (rd_T43 l (i : Int)).f1
    refine Ev.step (fun k => by rw [budwoodlaw18_GateKeeps.l0]) ?_
    simp only [if_pos (show (i : Int) < (l.length : Int) by omega), if_pos (show 0 ≤ (i : Int) by omega), find_f, Option.bind_some]
    refine Ev.bind (do_ev s hs (rd_T43 l (i : Int)).f0 (rd_T43 l (i : Int)).f1 (okl_rd ho _).2) ?_
    simp only [find_code]
    generalize doR s (rd_T43 l (i : Int)).f0 (rd_T43 l (i : Int)).f1 = s' at hn hst ⊢
    generalize hm : (rd_T43 l (i : Int)).f1.f0 = m at hst ⊢
    have hj : Ev (fun k => budwoodlaw18_GateKeeps.j1 k l (i : Int) false s' (conv s')) true := by
      refine Ev.step (fun k => by rw [budwoodlaw18_GateKeeps.j1]) ?_
      simp only [Bool.false_eq_true, if_false, w64 (x := (i : Int) + 1) (by omega) (by omega)]
      rw [show (i : Int) + 1 = ((i + 1 : Nat) : Int) by omega]
      exact hn
    have tt : found m s = true → found m s' = true → arIdx (pOf m) s' = arIdx (pOf m) s → (findR s m).1 = (findR s' m).1 ∧ ((findR s' m).2.1.toList != m.toList) = false := fun a b e => by
      have g0 : 0 ≤ arIdx (pOf m) s := of_decide_eq_true a
      unfold findR
      rw [e, if_neg (by omega), if_neg (by omega)]
      refine ⟨rfl, ?_⟩
      rcases idx_spec (pOf m) s' with ⟨z, _⟩ | ⟨h0, h8, hp, _⟩
      · omega
      · rw [e] at hp
        show ((s'.rd (arIdx (pOf m) s)).f0.toList != m.toList) = false
        rw [(pOf_iff.1 hp).2]
        exact bne_self_eq_false _
    cases hf : found m s with
    | false =>
      simp only [Bool.false_eq_true, if_false, if_neg (show ¬ (8 : Int) = 0 by decide)]
      exact hj
    | true =>
      cases hf2 : found m s' with
      | false =>
        simp only [Bool.false_eq_true, if_false, if_true, if_neg (show ¬ (8 : Int) = 0 by decide)]
        exact hj
      | true =>
        have e : arIdx (pOf m) s' = arIdx (pOf m) s := by
          rcases hst with rfl | ⟨_, _, _, e⟩ | ⟨_, b, _⟩ | ⟨a, _⟩
          · rfl
          · exact e
          · rw [hf2] at b; cases b
          · rw [hf] at a; cases a
        obtain ⟨t1, t2⟩ := tt hf hf2 e
        simp only [if_true, if_pos t1, t2]
        exact hj
theorem keeps_ev (l : List S43) (ho : OkL l) : Ev (fun k => budwoodlaw18_GateKeeps.f k l) true := by
  unfold budwoodlaw18_GateKeeps.f gate_New.f
  by_cases h : (l.length : Int) > 100
  · simp only [if_pos h]
    exact awake_end
  · simp only [if_neg h, Option.bind_some]
    exact keeps_l0 l (by omega) ho l.length 0 AR51.z good_z dist_z (by omega)
end Go.Proofs.YtlgmboaoemlnpaaDoor.Gt
