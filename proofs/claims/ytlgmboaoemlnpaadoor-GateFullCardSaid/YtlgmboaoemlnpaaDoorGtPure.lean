import Derived.Test.YtlgmboaoemlnpaaDoorNmPure2
import Derived.Test.YtlgmboaoemlnpaaDoorPxf
/- Gate, pure: what each call tells, on both sides; the two tables stay the same. -/
namespace Go.Proofs.YtlgmboaoemlnpaaDoor.Gt
open Go.Lib Go.RowKit Go.Proofs.YtlgmboaoemlnpaaDoorW.PrintWords Go.Proofs.YtlgmboaoemlnpaaDoor.P
set_option linter.unusedVariables false
set_option linter.unusedSimpArgs false

theorem w64 {x : Int} (h0 : -9223372036854775808 ≤ x) (h1 : x < 9223372036854775808) : wrap64 x = x := by unfold wrap64; omega
def conv1 (x : S31) : S38 := ⟨x.f0, x.f1, x.f2⟩
/-- The reference's table that has the same. -/
def conv (s : AR51) : AR39 := ⟨conv1 s.e0, conv1 s.e1, conv1 s.e2, conv1 s.e3, conv1 s.e4, conv1 s.e5, conv1 s.e6, conv1 s.e7⟩
theorem rd_conv (s : AR51) (j : Int) : (conv s).rd j = conv1 (s.rd j) := by
  unfold AR39.rd AR51.rd conv
  repeat' split
  all_goals rfl
theorem up_conv (s : AR51) (j : Int) (b : S31) : conv (s.up j b) = (conv s).up j (conv1 b) := by
  unfold AR39.up AR51.up conv
  repeat' split
  all_goals rfl
theorem rd_up (s : AR51) (j i : Int) (b : S31) (h0 : 0 ≤ j) (h8 : j < 8) (i0 : 0 ≤ i) (i8 : i < 8) : (s.up j b).rd i = if i = j then b else s.rd i := by
  rcases AR51.cases j h0 h8 with rfl | rfl | rfl | rfl | rfl | rfl | rfl | rfl <;> rcases AR51.cases i i0 i8 with rfl | rfl | rfl | rfl | rfl | rfl | rfl | rfl <;> rfl

/-! ### the first that is as asked for -/
def from_ (p : S31 → Bool) (s : AR51) : Nat → Nat → Int
  | 0, _ => -1
  | d + 1, i => if p (s.rd (i : Int)) = true then (i : Int) else from_ p s d (i + 1)
theorem arIdx_from (p : S31 → Bool) (s : AR51) : arIdx p s = from_ p s 8 0 := by
  show (if p s.e0 = true then (0 : Int) else if p s.e1 = true then 1 else if p s.e2 = true then 2 else if p s.e3 = true then 3 else if p s.e4 = true then 4 else if p s.e5 = true then 5 else if p s.e6 = true then 6 else if p s.e7 = true then 7 else -1) = _
  rfl
theorem from_spec (p : S31 → Bool) (s : AR51) : ∀ (d i : Nat), (from_ p s d i = -1 ∧ ∀ j : Nat, i ≤ j → j < i + d → p (s.rd (j : Int)) = false) ∨
    (∃ j : Nat, i ≤ j ∧ j < i + d ∧ from_ p s d i = (j : Int) ∧ p (s.rd (j : Int)) = true ∧ ∀ q : Nat, i ≤ q → q < j → p (s.rd (q : Int)) = false) := by
  intro d
  induction d with
  | zero => intro i; exact .inl ⟨rfl, fun j h1 h2 => by omega⟩
  | succ d ih =>
    intro i
    unfold from_
    by_cases h : p (s.rd (i : Int)) = true
    · rw [if_pos h]
      exact .inr ⟨i, Nat.le_refl _, by omega, rfl, h, fun q h1 h2 => by omega⟩
    · rw [if_neg h]
      rcases ih (i + 1) with ⟨e, a⟩ | ⟨j, h1, h2, e, hp, a⟩
      · exact .inl ⟨e, fun j h1 h2 => by
          by_cases q : j = i
          · subst q; simpa using h
          · exact a j (by omega) (by omega)⟩
      · exact .inr ⟨j, by omega, by omega, e, hp, fun q h3 h4 => by
          by_cases z : q = i
          · subst z; simpa using h
          · exact a q (by omega) (by omega)⟩
/-- What find tells: nothing, or the first. -/
theorem idx_spec (p : S31 → Bool) (s : AR51) : (arIdx p s = -1 ∧ ∀ j : Int, 0 ≤ j → j < 8 → p (s.rd j) = false) ∨
    (0 ≤ arIdx p s ∧ arIdx p s < 8 ∧ p (s.rd (arIdx p s)) = true ∧ ∀ j : Int, 0 ≤ j → j < arIdx p s → p (s.rd j) = false) := by
  rw [arIdx_from]
  rcases from_spec p s 8 0 with ⟨e, a⟩ | ⟨j, h1, h2, e, hp, a⟩
  · refine .inl ⟨e, fun j h0 h8 => ?_⟩
    have := a j.toNat (by omega) (by omega)
    rwa [show ((j.toNat : Nat) : Int) = j by omega] at this
  · refine .inr ⟨by omega, by omega, by rw [e]; exact hp, fun q h0 hq => ?_⟩
    have := a q.toNat (by omega) (by omega)
    rwa [show ((q.toNat : Nat) : Int) = q by omega] at this

/-- A gate without an owner has nothing. -/
def Good (s : AR51) : Prop := ∀ j : Int, 0 ≤ j → j < 8 → (s.rd j).f1 = 0 → isZ (s.rd j) = true
theorem isZ_f1 {x : S31} (h : isZ x = true) : x.f1 = 0 := by
  unfold isZ at h
  simp only [Bool.and_eq_true, beq_iff_eq] at h
  exact h.2.1
theorem isZ_z : isZ ⟨(⟨#[]⟩ : ByteArray), 0, 0⟩ = true := by decide +kernel
theorem good_z : Good AR51.z := fun j h0 h8 _ => by
  rcases AR51.cases j h0 h8 with rfl | rfl | rfl | rfl | rfl | rfl | rfl | rfl <;> exact isZ_z
theorem good_up {s : AR51} (h : Good s) {j : Int} (h0 : 0 ≤ j) (h8 : j < 8) {b : S31} (hb : b.f1 = 0 → isZ b = true) : Good (s.up j b) := fun i i0 i8 => by
  rw [rd_up s j i b h0 h8 i0 i8]
  split
  · exact hb
  · exact h i i0 i8

/-! ### the reference's loops -/
theorem place_l0 (s : AR51) (hs : Good s) (m : ByteArray) : ∀ (d i : Nat), i + d = 8 → Ev (fun k => budwoodref18_Table_place.l0 k m (i : Int) (conv s)) (from_ (pOf m) s d i) := by
  intro d
  induction d with
  | zero =>
    intro i hi
    refine Ev.step (fun k => by rw [budwoodref18_Table_place.l0]) ?_
    simp only [if_neg (show ¬ (i : Int) < 8 by omega), from_]
    exact Ev.now _
  | succ d ih =>
    intro i hi
    refine Ev.step (fun k => by rw [budwoodref18_Table_place.l0]) ?_
    simp only [if_pos (show (i : Int) < 8 by omega), if_pos (show 0 ≤ (i : Int) by omega), rd_conv, conv1, w64 (x := (i : Int) + 1) (by omega) (by omega), from_]
    have hn := ih (i + 1) (by omega)
    rw [show (((i + 1 : Nat)) : Int) = (i : Int) + 1 by omega] at hn
    by_cases h : (s.rd (i : Int)).f1 = 0
    · have hz := hs (i : Int) (by omega) (by omega) h
      have hp : ¬ pOf m (s.rd (i : Int)) = true := by unfold pOf; simp [hz]
      simp only [if_pos h, if_neg hp]
      exact hn
    · have hz : isZ (s.rd (i : Int)) = false := by
        cases hq : isZ (s.rd (i : Int)) with
        | false => rfl
        | true => exact absurd (isZ_f1 hq) h
      simp only [if_neg h]
      by_cases hm : (s.rd (i : Int)).f0.toList = m.toList
      · have hp : pOf m (s.rd (i : Int)) = true := by unfold pOf; simp [hz, hm]
        simp only [if_pos hm, if_pos hp]
        exact Ev.now _
      · have hp : ¬ pOf m (s.rd (i : Int)) = true := by unfold pOf; simp [hm]
        simp only [if_neg hm, if_neg hp]
        exact hn
theorem place_ev (s : AR51) (hs : Good s) (m : ByteArray) : Ev (fun k => budwoodref18_Table_place.f k (conv s) m) (arIdx (pOf m) s) := by
  rw [arIdx_from]
  exact place_l0 s hs m 8 0 (by omega)
theorem owned_l0 (s : AR51) (o : Int) : ∀ (d i : Nat), i + d = 8 → Ev (fun k => budwoodref18_Table_owned.l0 k o (i : Int) (conv s)) (decide (from_ (pOwned o) s d i ≥ 0)) := by
  intro d
  induction d with
  | zero =>
    intro i hi
    refine Ev.step (fun k => by rw [budwoodref18_Table_owned.l0]) ?_
    simp only [if_neg (show ¬ (i : Int) < 8 by omega), from_]
    exact Ev.now _
  | succ d ih =>
    intro i hi
    refine Ev.step (fun k => by rw [budwoodref18_Table_owned.l0]) ?_
    simp only [if_pos (show (i : Int) < 8 by omega), if_pos (show 0 ≤ (i : Int) by omega), rd_conv, conv1, w64 (x := (i : Int) + 1) (by omega) (by omega), from_]
    have hn := ih (i + 1) (by omega)
    rw [show (((i + 1 : Nat)) : Int) = (i : Int) + 1 by omega] at hn
    by_cases h : (s.rd (i : Int)).f1 = o
    · have hp : pOwned o (s.rd (i : Int)) = true := by unfold pOwned; simp [h]
      simp only [if_pos h, if_pos hp, decide_eq_true (show (i : Int) ≥ 0 by omega)]
      exact Ev.now _
    · have hp : ¬ pOwned o (s.rd (i : Int)) = true := by unfold pOwned; simp [h]
      simp only [if_neg h, if_neg hp]
      exact hn
theorem owned_ev (s : AR51) (o : Int) : Ev (fun k => budwoodref18_Table_owned.f k (conv s) o) (decide (arIdx (pOwned o) s ≥ 0)) := by
  rw [arIdx_from]
  exact owned_l0 s o 8 0 (by omega)

/-! ### opening -/
def openR (s : AR51) (b : S31) : Int × Int × AR51 :=
  if Nm.chk b.f0 = 0 then
    if b.f1 = 0 ∨ b.f2 = 0 then (0, 2, s)
    else if arIdx (pOf b.f0) s ≥ 0 ∨ arIdx (pOwned b.f1) s ≥ 0 then (0, 9, s)
    else if arIdx isZ s < 0 then (0, 28, s) else (arIdx isZ s, 0, s.up (arIdx isZ s) b)
  else (0, 6, s)
theorem of_f (s : AR51) (m : ByteArray) : gate_Table_of.f s m = some (arIdx (pOf m) s, s) := rfl
theorem owned_f (s : AR51) (o : Int) : gate_Table_owned.f s o = some (decide (arIdx (pOwned o) s ≥ 0), s) := rfl
theorem free_f (s : AR51) : gt_free.f s = some (arIdx isZ s, s) := rfl
theorem zero_f (b : S31) : gate_zero.f b.f0 b.f1 b.f2 = some (decide (b.f1 = 0 ∨ b.f2 = 0)) := by
  unfold gate_zero.f
  by_cases h : b.f1 = 0
  · simp [h]
  · by_cases h2 : b.f2 = 0 <;> simp [h, h2]
theorem idx_lt (p : S31 → Bool) (s : AR51) (h : ¬ arIdx p s < 0) : 0 ≤ arIdx p s ∧ arIdx p s < 8 := by
  rcases idx_spec p s with ⟨e, _⟩ | ⟨h0, h8, _⟩
  · omega
  · exact ⟨h0, h8⟩
theorem open_ev (s : AR51) (b : S31) (hb : b.f0.size < 4294967281) : Ev (fun k => gate_Table_Open.f k s b.f0 b.f1 b.f2) (openR s b) := by
  unfold gate_Table_Open.f openR
  refine Ev.bind (Nm.check_ev b.f0 hb) ?_
  by_cases h : Nm.chk b.f0 = 0
  · simp only [if_pos h, zero_f, Option.bind_some]
    by_cases hz : b.f1 = 0 ∨ b.f2 = 0
    · simp only [if_pos hz, decide_eq_true hz, if_true]
      exact Ev.now _
    · simp only [if_neg hz, decide_eq_false hz, Bool.false_eq_true, if_false, of_f, owned_f, Option.bind_some]
      by_cases h1 : arIdx (pOf b.f0) s ≥ 0
      · simp only [if_pos h1, if_pos (show arIdx (pOf b.f0) s ≥ 0 ∨ arIdx (pOwned b.f1) s ≥ 0 from .inl h1)]
        refine Ev.step (fun k => by rw [gate_Table_Open.j0]) ?_
        simp only [if_true]
        exact Ev.now _
      · simp only [if_neg h1]
        by_cases h2 : arIdx (pOwned b.f1) s ≥ 0
        · simp only [decide_eq_true h2, if_pos (show arIdx (pOf b.f0) s ≥ 0 ∨ arIdx (pOwned b.f1) s ≥ 0 from .inr h2)]
          refine Ev.step (fun k => by rw [gate_Table_Open.j0]) ?_
          simp only [if_true]
          exact Ev.now _
        · simp only [decide_eq_false h2, if_neg (show ¬ (arIdx (pOf b.f0) s ≥ 0 ∨ arIdx (pOwned b.f1) s ≥ 0) from fun z => z.elim h1 h2)]
          refine Ev.step (fun k => by rw [gate_Table_Open.j0]) ?_
          simp only [Bool.false_eq_true, if_false, free_f, Option.bind_some]
          by_cases h3 : arIdx isZ s < 0
          · simp only [if_pos h3]
            exact Ev.now _
          · obtain ⟨g0, g8⟩ := idx_lt isZ s h3
            simp only [if_neg h3, if_pos g0, if_pos g8]
            exact Ev.now _
  · simp only [if_neg h]
    exact Ev.now _
theorem refOpen_l0 (s : AR51) (hs : Good s) (b : S31) : ∀ (d i : Nat), i + d = 8 →
    Ev (fun k => budwoodref18_Table_Open.l0 k (i : Int) (conv s) b.f0 b.f1 b.f2) (if from_ isZ s d i < 0 then (conv s, 0, 28) else (conv (s.up (from_ isZ s d i) b), from_ isZ s d i, 0)) := by
  intro d
  induction d with
  | zero =>
    intro i hi
    refine Ev.step (fun k => by rw [budwoodref18_Table_Open.l0]) ?_
    simp only [if_neg (show ¬ (i : Int) < 8 by omega), from_]
    exact Ev.now _
  | succ d ih =>
    intro i hi
    refine Ev.step (fun k => by rw [budwoodref18_Table_Open.l0]) ?_
    simp only [if_pos (show (i : Int) < 8 by omega), if_pos (show 0 ≤ (i : Int) by omega), rd_conv, conv1, w64 (x := (i : Int) + 1) (by omega) (by omega), from_]
    have hn := ih (i + 1) (by omega)
    rw [show (((i + 1 : Nat)) : Int) = (i : Int) + 1 by omega] at hn
    by_cases h : (s.rd (i : Int)).f1 = 0
    · have hz := hs (i : Int) (by omega) (by omega) h
      simp only [if_pos h, if_pos hz, if_neg (show ¬ (i : Int) < 0 by omega), up_conv]
      exact Ev.now _
    · have hz : ¬ isZ (s.rd (i : Int)) = true := fun hq => h (isZ_f1 hq)
      simp only [if_neg h, if_neg hz]
      exact hn
theorem refOpen_ev (s : AR51) (hs : Good s) (b : S31) (hb : b.f0.size < 4294967281) : Ev (fun k => budwoodref18_Table_Open.f k (conv s) b.f0 b.f1 b.f2) (conv (openR s b).2.2, (openR s b).1, (openR s b).2.1) := by
  unfold budwoodref18_Table_Open.f openR
  refine Ev.bind (Nm.refCheck_ev b.f0 (by omega)) ?_
  by_cases h : Nm.chk b.f0 = 0
  · simp only [if_pos h]
    have j0t : Ev (fun k => budwoodref18_Table_Open.j0 k true (conv s) b.f0 b.f1 b.f2) (conv s, 0, 2) := by
      refine Ev.step (fun k => by rw [budwoodref18_Table_Open.j0]) ?_
      simp only [if_true]
      exact Ev.now _
    by_cases h1 : b.f1 = 0
    · simp only [if_pos h1, if_pos (show b.f1 = 0 ∨ b.f2 = 0 from .inl h1)]
      exact j0t
    · simp only [if_neg h1]
      by_cases h2 : b.f2 = 0
      · simp only [if_pos (show b.f1 = 0 ∨ b.f2 = 0 from .inr h2), beq_iff_eq.mpr h2]
        exact j0t
      · simp only [if_neg (show ¬ (b.f1 = 0 ∨ b.f2 = 0) from fun z => z.elim h1 h2), beq_eq_false_iff_ne.mpr h2]
        refine Ev.step (fun k => by rw [budwoodref18_Table_Open.j0]) ?_
        simp only [Bool.false_eq_true, if_false]
        refine Ev.bind (place_ev s hs b.f0) ?_
        by_cases h3 : arIdx (pOf b.f0) s ≥ 0
        · simp only [if_pos h3, if_pos (show arIdx (pOf b.f0) s ≥ 0 ∨ arIdx (pOwned b.f1) s ≥ 0 from .inl h3)]
          exact Ev.now _
        · simp only [if_neg h3]
          refine Ev.bind (owned_ev s b.f1) ?_
          by_cases h4 : arIdx (pOwned b.f1) s ≥ 0
          · simp only [decide_eq_true h4, if_true, if_pos (show arIdx (pOf b.f0) s ≥ 0 ∨ arIdx (pOwned b.f1) s ≥ 0 from .inr h4)]
            exact Ev.now _
          · simp only [decide_eq_false h4, Bool.false_eq_true, if_false, if_neg (show ¬ (arIdx (pOf b.f0) s ≥ 0 ∨ arIdx (pOwned b.f1) s ≥ 0) from fun z => z.elim h3 h4)]
            have := refOpen_l0 s hs b 8 0 (by omega)
            rw [← arIdx_from] at this
            by_cases h5 : arIdx isZ s < 0
            · simp only [if_pos h5] at this ⊢
              exact this
            · simp only [if_neg h5] at this ⊢
              exact this
  · simp only [if_neg h]
    exact Ev.now _

/-! ### turning, finding, closing -/
def turnR (s : AR51) (b : S31) : Int × ByteArray × Int × Int × Int × AR51 :=
  if b.f1 = 0 ∨ b.f2 = 0 then (0, (⟨#[]⟩ : ByteArray), 0, 0, 2, s)
  else if arIdx (pOf b.f0) s < 0 then (0, (⟨#[]⟩ : ByteArray), 0, 0, 8, s)
  else if arIdx (pOwned b.f1) s ≥ 0 then (0, (⟨#[]⟩ : ByteArray), 0, 0, 9, s)
  else (arIdx (pOf b.f0) s, (s.rd (arIdx (pOf b.f0) s)).f0, (s.rd (arIdx (pOf b.f0) s)).f1, (s.rd (arIdx (pOf b.f0) s)).f2, 0, s.up (arIdx (pOf b.f0) s) b)
theorem turn_ev (s : AR51) (b : S31) : Ev (fun k => gate_Table_Turn.f k s b.f0 b.f1 b.f2) (turnR s b) := by
  unfold gate_Table_Turn.f turnR
  simp only [zero_f, Option.bind_some]
  refine Ev.step (fun k => by rw [gate_Table_Turn.j0]) ?_
  by_cases hz : b.f1 = 0 ∨ b.f2 = 0
  · simp only [if_pos hz, decide_eq_true hz, if_true]
    exact Ev.now _
  · simp only [if_neg hz, decide_eq_false hz, Bool.false_eq_true, if_false, of_f, Option.bind_some]
    by_cases h1 : arIdx (pOf b.f0) s < 0
    · simp only [if_pos h1]
      exact Ev.now _
    · obtain ⟨g0, g8⟩ := idx_lt _ s h1
      simp only [if_neg h1, owned_f, Option.bind_some]
      by_cases h2 : arIdx (pOwned b.f1) s ≥ 0
      · simp only [decide_eq_true h2, if_true, if_pos h2]
        exact Ev.now _
      · simp only [decide_eq_false h2, Bool.false_eq_true, if_false, if_neg h2, if_pos g0, if_pos g8]
        exact Ev.now _
theorem refTurn_ev (s : AR51) (hs : Good s) (b : S31) : Ev (fun k => budwoodref18_Table_Turn.f k (conv s) b.f0 b.f1 b.f2) (conv (turnR s b).2.2.2.2.2, (turnR s b).1, (turnR s b).2.1, (turnR s b).2.2.1, (turnR s b).2.2.2.1, (turnR s b).2.2.2.2.1) := by
  unfold budwoodref18_Table_Turn.f turnR
  refine Ev.bind (place_ev s hs b.f0) ?_
  have j0t : Ev (fun k => budwoodref18_Table_Turn.j0 k (arIdx (pOf b.f0) s) true (conv s) b.f0 b.f1 b.f2) (conv s, 0, (⟨#[]⟩ : ByteArray), 0, 0, 2) := by
    refine Ev.step (fun k => by rw [budwoodref18_Table_Turn.j0]) ?_
    simp only [if_true]
    exact Ev.now _
  by_cases h1 : b.f1 = 0
  · simp only [if_pos h1, if_pos (show b.f1 = 0 ∨ b.f2 = 0 from .inl h1)]
    exact j0t
  · simp only [if_neg h1]
    by_cases h2 : b.f2 = 0
    · simp only [if_pos (show b.f1 = 0 ∨ b.f2 = 0 from .inr h2), beq_iff_eq.mpr h2]
      exact j0t
    · simp only [if_neg (show ¬ (b.f1 = 0 ∨ b.f2 = 0) from fun z => z.elim h1 h2), beq_eq_false_iff_ne.mpr h2]
      refine Ev.step (fun k => by rw [budwoodref18_Table_Turn.j0]) ?_
      simp only [Bool.false_eq_true, if_false]
      by_cases h3 : arIdx (pOf b.f0) s < 0
      · simp only [if_pos h3]
        exact Ev.now _
      · obtain ⟨g0, g8⟩ := idx_lt _ s h3
        simp only [if_neg h3]
        refine Ev.bind (owned_ev s b.f1) ?_
        by_cases h4 : arIdx (pOwned b.f1) s ≥ 0
        · simp only [decide_eq_true h4, if_true, if_pos h4]
          exact Ev.now _
        · simp only [decide_eq_false h4, Bool.false_eq_true, if_false, if_neg h4, if_pos g0, if_pos g8, rd_conv, conv1, up_conv]
          exact Ev.now _
def findR (s : AR51) (m : ByteArray) : Int × ByteArray × Int × Int × Int :=
  if arIdx (pOf m) s < 0 then (0, (⟨#[]⟩ : ByteArray), 0, 0, 8) else (arIdx (pOf m) s, (s.rd (arIdx (pOf m) s)).f0, (s.rd (arIdx (pOf m) s)).f1, (s.rd (arIdx (pOf m) s)).f2, 0)
theorem find_f (s : AR51) (m : ByteArray) : gate_Table_Find.f s m = some ((findR s m).1, (findR s m).2.1, (findR s m).2.2.1, (findR s m).2.2.2.1, (findR s m).2.2.2.2, s) := by
  unfold gate_Table_Find.f findR
  simp only [of_f, Option.bind_some]
  by_cases h : arIdx (pOf m) s < 0
  · simp only [if_pos h]
  · obtain ⟨g0, g8⟩ := idx_lt _ s h
    simp only [if_neg h, if_pos g0, if_pos g8]
theorem refFind_ev (s : AR51) (hs : Good s) (m : ByteArray) : Ev (fun k => budwoodref18_Table_Find.f k (conv s) m) (findR s m) := by
  unfold budwoodref18_Table_Find.f findR
  refine Ev.bind (place_ev s hs m) ?_
  by_cases h : arIdx (pOf m) s < 0
  · simp only [if_pos h]
    exact Ev.now _
  · obtain ⟨g0, g8⟩ := idx_lt _ s h
    simp only [if_neg h, if_pos g0, if_pos g8, rd_conv, conv1]
    exact Ev.now _
def closeR (s : AR51) (m : ByteArray) : AR51 := if arIdx (pOf m) s < 0 then s else s.up (arIdx (pOf m) s) ⟨(⟨#[]⟩ : ByteArray), 0, 0⟩
theorem close_f (s : AR51) (m : ByteArray) : gate_Table_Close.f s m = some ((findR s m).1, (findR s m).2.1, (findR s m).2.2.1, (findR s m).2.2.2.1, (findR s m).2.2.2.2, closeR s m) := by
  unfold gate_Table_Close.f closeR
  simp only [find_f, Option.bind_some]
  unfold findR
  by_cases h : arIdx (pOf m) s < 0
  · simp only [if_pos h, if_neg (show ¬ (8 : Int) = 0 by decide)]
  · obtain ⟨g0, g8⟩ := idx_lt _ s h
    simp only [if_neg h, if_true, if_pos g0, if_pos g8]
theorem refClose_ev (s : AR51) (hs : Good s) (m : ByteArray) : Ev (fun k => budwoodref18_Table_Close.f k (conv s) m) (conv (closeR s m), (findR s m).1, (findR s m).2.1, (findR s m).2.2.1, (findR s m).2.2.2.1, (findR s m).2.2.2.2) := by
  unfold budwoodref18_Table_Close.f closeR
  refine Ev.bind (refFind_ev s hs m) ?_
  unfold findR
  by_cases h : arIdx (pOf m) s < 0
  · simp only [if_pos h, if_neg (show ¬ (8 : Int) = 0 by decide)]
    exact Ev.now _
  · obtain ⟨g0, g8⟩ := idx_lt _ s h
    simp only [if_neg h, if_true, if_pos g0, if_pos g8, up_conv]
    exact Ev.now _

/-! ### how many are free, what each has -/
def cnt (s : AR51) : Nat → Nat → Nat
  | 0, _ => 0
  | d + 1, i => (if isZ (s.rd (i : Int)) = true then 1 else 0) + cnt s d (i + 1)
theorem cnt_le (s : AR51) : ∀ d i, cnt s d i ≤ d := by
  intro d
  induction d with
  | zero => intro i; exact Nat.le_refl _
  | succ d ih => intro i; unfold cnt; have := ih (i + 1); split <;> omega
theorem free_l0 (s : AR51) : ∀ (d i : Nat) (n : Nat), i + d = 8 → n ≤ i → Ev (fun k => gate_Table_Free.l0 k (n : Int) s (i : Int) s) (((n + cnt s d i : Nat) : Int), s) := by
  intro d
  induction d with
  | zero =>
    intro i n hi hn
    refine Ev.step (fun k => by rw [gate_Table_Free.l0]) ?_
    simp only [if_neg (show ¬ (i : Int) < 8 by omega), cnt]
    exact Ev.now _
  | succ d ih =>
    intro i n hi hn
    refine Ev.step (fun k => by rw [gate_Table_Free.l0]) ?_
    simp only [if_pos (show (i : Int) < 8 by omega), if_pos (show 0 ≤ (i : Int) by omega), w64 (x := (i : Int) + 1) (by omega) (by omega), w64 (x := (n : Int) + 1) (by omega) (by omega), cnt]
    by_cases h : isZ (s.rd (i : Int)) = true
    · simp only [if_pos h]
      have := ih (i + 1) (n + 1) (by omega) (by omega)
      rw [show n + 1 + cnt s d (i + 1) = n + (1 + cnt s d (i + 1)) by omega] at this
      have h' : ((s.rd (i : Int)).f0.toList == ([] : List UInt8) && ((s.rd (i : Int)).f1 == 0 && ((s.rd (i : Int)).f2 == 0))) = true := h
      simp only [if_pos h']
      exact this
    · simp only [if_neg h]
      have := ih (i + 1) n (by omega) (by omega)
      rw [show n + cnt s d (i + 1) = n + (0 + cnt s d (i + 1)) by omega] at this
      have h' : ¬ ((s.rd (i : Int)).f0.toList == ([] : List UInt8) && ((s.rd (i : Int)).f1 == 0 && ((s.rd (i : Int)).f2 == 0))) = true := h
      simp only [if_neg h']
      exact this
def freeR (s : AR51) : Nat := cnt s 8 0
theorem free_ev (s : AR51) : Ev (fun k => gate_Table_Free.f k s) (((freeR s : Nat) : Int), s) := by
  have := free_l0 s 8 0 0 (by omega) (by omega)
  rwa [Nat.zero_add] at this
theorem refFree_l0 (s : AR51) (hs : Good s) : ∀ (d i : Nat) (n : Nat), i + d = 8 → n ≤ i → Ev (fun k => budwoodref18_Table_Free.l0 k (n : Int) (i : Int) (conv s)) ((n + cnt s d i : Nat) : Int) := by
  intro d
  induction d with
  | zero =>
    intro i n hi hn
    refine Ev.step (fun k => by rw [budwoodref18_Table_Free.l0]) ?_
    simp only [if_neg (show ¬ (i : Int) < 8 by omega), cnt]
    exact Ev.now _
  | succ d ih =>
    intro i n hi hn
    refine Ev.step (fun k => by rw [budwoodref18_Table_Free.l0]) ?_
    simp only [if_pos (show (i : Int) < 8 by omega), if_pos (show 0 ≤ (i : Int) by omega), rd_conv, conv1, w64 (x := (i : Int) + 1) (by omega) (by omega), w64 (x := (n : Int) + 1) (by omega) (by omega), cnt]
    by_cases h : (s.rd (i : Int)).f1 = 0
    · simp only [if_pos h, if_pos (hs (i : Int) (by omega) (by omega) h)]
      have := ih (i + 1) (n + 1) (by omega) (by omega)
      rw [show n + 1 + cnt s d (i + 1) = n + (1 + cnt s d (i + 1)) by omega] at this
      exact this
    · simp only [if_neg h, if_neg (show ¬ isZ (s.rd (i : Int)) = true from fun z => h (isZ_f1 z))]
      have := ih (i + 1) n (by omega) (by omega)
      rw [show n + cnt s d (i + 1) = n + (0 + cnt s d (i + 1)) by omega] at this
      exact this
theorem refFree_ev (s : AR51) (hs : Good s) : Ev (fun k => budwoodref18_Table_Free.f k (conv s)) ((freeR s : Nat) : Int) := by
  have := refFree_l0 s hs 8 0 0 (by omega) (by omega)
  rwa [Nat.zero_add] at this
def getR (s : AR51) (j : Int) : S31 := if j < 0 ∨ j ≥ 8 then ⟨(⟨#[]⟩ : ByteArray), 0, 0⟩ else s.rd j
theorem get_f (s : AR51) (j : Int) : gate_Table_Get.f s j = some ((getR s j).f0, (getR s j).f1, (getR s j).f2, s) := by
  unfold gate_Table_Get.f getR
  by_cases h0 : j < 0
  · simp only [if_pos h0, if_pos (show j < 0 ∨ j ≥ 8 from .inl h0)]
  · by_cases h8 : j ≥ 8
    · simp only [if_neg h0, if_pos h8, if_pos (show j < 0 ∨ j ≥ 8 from .inr h8)]
    · simp only [if_neg h0, if_neg h8, if_neg (show ¬ (j < 0 ∨ j ≥ 8) by omega), if_pos (show 0 ≤ j by omega), if_pos (show j < 8 by omega)]
theorem refGet_f (s : AR51) (j : Int) : budwoodref18_Table_Get.f (conv s) j = some ((getR s j).f0, (getR s j).f1, (getR s j).f2) := by
  unfold budwoodref18_Table_Get.f getR
  by_cases h0 : j < 0
  · simp only [if_pos h0, if_pos (show j < 0 ∨ j ≥ 8 from .inl h0)]
  · by_cases h8 : j ≥ 8
    · simp only [if_neg h0, if_pos (show j > 7 by omega), if_pos (show j < 0 ∨ j ≥ 8 from .inr h8)]
    · simp only [if_neg h0, if_neg (show ¬ j > 7 by omega), if_neg (show ¬ (j < 0 ∨ j ≥ 8) by omega), if_pos (show 0 ≤ j by omega), if_pos (show j < 8 by omega), rd_conv, conv1]
theorem same_l0 (s : AR51) (hs : Good s) : ∀ (d : Nat) (i : Int), -1 ≤ i → i + d = 9 → Ev (fun k => budwoodlaw18_same.l0 k i s (conv s)) (true, s) := by
  intro d
  induction d with
  | zero =>
    intro i h1 hi
    refine Ev.step (fun k => by rw [budwoodlaw18_same.l0]) ?_
    simp only [if_neg (show ¬ i ≤ 8 by omega)]
    refine Ev.bind (free_ev s) (Ev.bind (refFree_ev s hs) ?_)
    simp only [beq_self_eq_true]
    exact Ev.now _
  | succ d ih =>
    intro i h1 hi
    refine Ev.step (fun k => by rw [budwoodlaw18_same.l0]) ?_
    simp only [if_pos (show i ≤ 8 by omega), get_f, refGet_f, Option.bind_some, beq_self_eq_true, Bool.not_true, Bool.or_self, Bool.false_eq_true, if_false, w64 (x := i + 1) (by omega) (by omega)]
    exact ih (i + 1) (by omega) (by omega)
theorem same_ev (s : AR51) (hs : Good s) : Ev (fun k => budwoodlaw18_same.f k s (conv s)) (true, s) := same_l0 s hs 10 (-1) (by omega) (by omega)

/-! ### a call on both -/
def doR (s : AR51) (kind : Int) (b : S31) : AR51 :=
  if Int.tmod kind 5 = 2 then (turnR s b).2.2.2.2.2 else if Int.tmod kind 5 = 3 then closeR s b.f0 else if Int.tmod kind 5 = 4 then s else (openR s b).2.2
theorem do_ev (s : AR51) (hs : Good s) (kind : Int) (b : S31) (hb : b.f0.size < 4294967281) : Ev (fun k => budwoodlaw18_do.f k s (conv s) kind b.f0 b.f1 b.f2) (conv (doR s kind b), true, doR s kind b) := by
  unfold budwoodlaw18_do.f doR
  by_cases h2 : Int.tmod kind 5 = 2
  · simp only [if_pos h2]
    refine Ev.bind (turn_ev s b) (Ev.bind (refTurn_ev s hs b) ?_)
    simp only [if_true, beq_self_eq_true, Bool.and_self]
    refine Ev.step (fun k => by rw [budwoodlaw18_do.j0]) ?_
    exact Ev.now _
  by_cases h3 : Int.tmod kind 5 = 3
  · simp only [if_neg h2, if_pos h3, close_f, Option.bind_some]
    refine Ev.bind (refClose_ev s hs b.f0) ?_
    simp only [if_true, beq_self_eq_true, Bool.and_self]
    refine Ev.step (fun k => by rw [budwoodlaw18_do.j1]) ?_
    exact Ev.now _
  by_cases h4 : Int.tmod kind 5 = 4
  · simp only [if_neg h2, if_neg h3, if_pos h4, find_f, Option.bind_some]
    refine Ev.bind (refFind_ev s hs b.f0) ?_
    simp only [if_true, beq_self_eq_true, Bool.and_self]
    refine Ev.step (fun k => by rw [budwoodlaw18_do.j2]) ?_
    exact Ev.now _
  simp only [if_neg h2, if_neg h3, if_neg h4]
  refine Ev.bind (open_ev s b hb) (Ev.bind (refOpen_ev s hs b hb) ?_)
  simp only [if_true, beq_self_eq_true]
  refine Ev.step (fun k => by rw [budwoodlaw18_do.j3]) ?_
  exact Ev.now _
theorem good_open {s : AR51} (hs : Good s) (b : S31) : Good (openR s b).2.2 := by
  unfold openR
  split
  · split
    · exact hs
    · rename_i hz
      split
      · exact hs
      · split
        · exact hs
        · rename_i h3
          obtain ⟨g0, g8⟩ := idx_lt _ s h3
          exact good_up hs g0 g8 (fun z => absurd (.inl z) hz)
  · exact hs
theorem good_turn {s : AR51} (hs : Good s) (b : S31) : Good (turnR s b).2.2.2.2.2 := by
  unfold turnR
  split
  · exact hs
  · rename_i hz
    split
    · exact hs
    · rename_i h3
      split
      · exact hs
      · obtain ⟨g0, g8⟩ := idx_lt _ s h3
        exact good_up hs g0 g8 (fun z => absurd (.inl z) hz)
theorem good_close {s : AR51} (hs : Good s) (m : ByteArray) : Good (closeR s m) := by
  unfold closeR
  split
  · exact hs
  · rename_i h3
    obtain ⟨g0, g8⟩ := idx_lt _ s h3
    exact good_up hs g0 g8 (fun _ => isZ_z)
theorem good_do {s : AR51} (hs : Good s) (kind : Int) (b : S31) : Good (doR s kind b) := by
  unfold doR
  split
  · exact good_turn hs b
  · split
    · exact good_close hs b.f0
    · split
      · exact hs
      · exact good_open hs b
end Go.Proofs.YtlgmboaoemlnpaaDoor.Gt
