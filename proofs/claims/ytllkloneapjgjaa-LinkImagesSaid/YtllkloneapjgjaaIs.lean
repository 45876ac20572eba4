import Derived.Test.YtllkloneapjgjaaWdf
/- Instructions, pure: both sides' Uses, Check, Encode, Decode are one. -/
namespace Go.Proofs.Ytllkloneapjgjaa.Wd
open Go.Lib Go.RowKit Go.Proofs.YtllkloneapjgjaaW.PrintWords Go.Proofs.YtllkloneapjgjaaW.PrintMore Go.Proofs.Ytllkloneapjgjaa.P
set_option linter.unusedVariables false
set_option linter.unusedSimpArgs false

theorem ev_of {α : Type} {X : Option α} {r : α} (h : X = some r) : Ev (fun _ => X) r := ⟨0, fun _ _ => h⟩
/-- Which parts an operation uses. -/
def usesR (o : Int) : Bool × Bool × Bool × Bool :=
  if 3 ≤ o ∧ o ≤ 10 then (true, true, true, false) else if o = 11 ∨ o = 12 ∨ o = 13 ∨ o = 15 ∨ o = 16 then (true, true, false, true) else if o = 2 then (true, false, false, true)
  else if o = 14 ∨ o = 17 ∨ o = 21 then (false, false, false, true) else if o = 19 then (false, true, false, false) else (false, false, false, false)
theorem op_cases (o : Int) : o < 0 ∨ o = 0 ∨ o = 1 ∨ o = 2 ∨ o = 3 ∨ o = 4 ∨ o = 5 ∨ o = 6 ∨ o = 7 ∨ o = 8 ∨ o = 9 ∨ o = 10 ∨ o = 11 ∨ o = 12 ∨ o = 13 ∨ o = 14 ∨ o = 15 ∨ o = 16 ∨ o = 17 ∨ o = 18 ∨ o = 19 ∨ o = 20 ∨ o = 21 ∨ 21 < o := by omega
theorem uses_ev (o : Int) : Ev (fun k => isa_Uses.f k o) (usesR o) := by
  refine ⟨4, fun k hk => ?_⟩
  obtain ⟨k, rfl⟩ : ∃ m, k = m + 3 := ⟨k - 3, by omega⟩
  rcases op_cases o with h | h | h | h | h | h | h | h | h | h | h | h | h | h | h | h | h | h | h | h | h | h | h | h
  all_goals first
    | (subst h; simp [isa_Uses.f, isa_Uses.j0, isa_Uses.j1, isa_Uses.j2, usesR]; done)
    | (have e0 : ¬ 3 ≤ o ∨ 10 < o := by omega
       simp [isa_Uses.f, isa_Uses.j0, isa_Uses.j1, isa_Uses.j2, usesR, show ¬ o ≤ 10 ∨ o < 3 by omega, show o ≠ 2 by omega, show o ≠ 11 by omega, show o ≠ 12 by omega, show o ≠ 13 by omega, show o ≠ 14 by omega, show o ≠ 15 by omega, show o ≠ 16 by omega, show o ≠ 17 by omega, show o ≠ 19 by omega, show o ≠ 21 by omega]
       repeat' split
       all_goals first | rfl | omega | (simp at *; omega))
theorem refUses_ev (o : Int) : Ev (fun k => budwoodref04_Uses.f k o) (usesR o) := by
  refine ⟨4, fun k hk => ?_⟩
  obtain ⟨k, rfl⟩ : ∃ m, k = m + 3 := ⟨k - 3, by omega⟩
  rcases op_cases o with h | h | h | h | h | h | h | h | h | h | h | h | h | h | h | h | h | h | h | h | h | h | h | h
  all_goals first
    | (subst h; simp [budwoodref04_Uses.f, budwoodref04_Uses.j0, budwoodref04_Uses.j1, budwoodref04_Uses.j2, usesR]; done)
    | (simp [budwoodref04_Uses.f, budwoodref04_Uses.j0, budwoodref04_Uses.j1, budwoodref04_Uses.j2, usesR, show o ≠ 2 by omega, show o ≠ 3 by omega, show o ≠ 4 by omega, show o ≠ 5 by omega, show o ≠ 6 by omega, show o ≠ 7 by omega, show o ≠ 8 by omega, show o ≠ 9 by omega, show o ≠ 10 by omega, show o ≠ 11 by omega, show o ≠ 12 by omega, show o ≠ 13 by omega, show o ≠ 14 by omega, show o ≠ 15 by omega, show o ≠ 16 by omega, show o ≠ 17 by omega, show o ≠ 19 by omega, show o ≠ 21 by omega]
       repeat' split
       all_goals first | rfl | omega | (simp at *; omega))
/-- May a register's number stand there? -/
def regR (r : Int) (u : Bool) : Bool := decide (r = 0) || (u && decide (r < 8))
theorem reg_f (r : Int) (u : Bool) : isa_Check_1.f r u = some (regR r u) := by
  unfold isa_Check_1.f regR
  by_cases h : r = 0
  · simp [h]
  · cases u <;> simp [h]
/-- Is something wrong with the parts? -/
def badR (o d a b i : Int) : Bool :=
  decide (21 < o) || !(regR d (usesR o).1) || !(regR a (usesR o).2.1) || !(regR b (usesR o).2.2.1) || (!(usesR o).2.2.2 && decide (i ≠ 0))
/-- What Check tells. -/
def checkR (o d a b i : Int) : Int :=
  if badR o d a b i = true then 10 else if fits21 i = false then 11 else if o = 17 ∧ i < 0 then 11 else if o = 21 ∧ (i < 0 ∨ 63 < i) then 11 else 0
theorem check_ev (o d a b i : Int) (hi : -2147483648 ≤ i ∧ i < 2147483648) : Ev (fun k => isa_Check.f k o d a b i) (checkR o d a b i) := by
  have j0 : ∀ x : Bool, Ev (fun k => isa_Check.j0 k x o d a b i) (if x = true then 10 else if fits21 i = false then 11 else if o = 17 ∧ i < 0 then 11 else if o = 21 ∧ (i < 0 ∨ 63 < i) then 11 else 0) := fun x => by
    refine Ev.step (fun k => by rw [isa_Check.j0]) ?_
    cases x
    · simp only [Bool.false_eq_true, if_false, w64 (show -9223372036854775808 ≤ i by omega) (show i < 9223372036854775808 by omega), fits_f i (by omega) (by omega), Option.bind_some]
      cases fits21 i
      · simp only [Bool.false_eq_true, if_false, if_true]
        exact Ev.now _
      · simp only [if_true, Bool.true_eq_false, if_false]
        have j1 : ∀ y : Bool, Ev (fun k => isa_Check.j1 k y o d a b i) (if y = true then 11 else if o = 21 ∧ (i < 0 ∨ 63 < i) then 11 else 0) := fun y => by
          refine Ev.step (fun k => by rw [isa_Check.j1]) ?_
          cases y
          · simp only [Bool.false_eq_true, if_false]
            by_cases h : o = 21
            · by_cases h1 : i < 0
              · simp only [if_pos h, if_pos h1, h, h1, true_or, and_self, if_true]; exact Ev.now _
              · by_cases h2 : i > 63
                · simp only [if_pos h, if_neg h1, if_pos h2]; rw [if_pos ⟨h, .inr h2⟩]; exact Ev.now _
                · simp only [if_pos h, if_neg h1, if_neg h2]; rw [if_neg (fun hc => by rcases hc.2 with hc | hc <;> omega)]; exact Ev.now _
            · simp only [if_neg h]; rw [if_neg (fun hc => h hc.1)]; exact Ev.now _
          · simp only [if_true]; exact Ev.now _
        by_cases h : o = 17
        · simp only [if_pos h]
          have := j1 (decide (i < 0))
          by_cases h1 : i < 0
          · rw [if_pos ⟨h, h1⟩]; simp only [decide_eq_true h1, if_true] at this ⊢; exact this
          · rw [if_neg (fun hc => h1 hc.2)]; simp only [decide_eq_false h1, Bool.false_eq_true, if_false] at this ⊢; exact this
        · simp only [if_neg h]
          rw [if_neg (fun hc => h hc.1)]
          have := j1 false
          simp only [Bool.false_eq_true, if_false] at this
          exact this
    · simp only [if_true]
      exact Ev.now _
  unfold isa_Check.f checkR
  refine Ev.bind (uses_ev o) ?_
  unfold badR
  obtain ⟨ud, ua, ub, ui⟩ := usesR o
  simp only [reg_f, Option.bind_some]
  by_cases h : o > 21
  · simp only [if_pos h, decide_eq_true (show 21 < o from h), Bool.true_or]
    exact j0 true
  · simp only [if_neg h, decide_eq_false (show ¬ 21 < o from h), Bool.false_or]
    cases regR d ud
    · simp only [Bool.false_eq_true, if_false, Bool.not_false, Bool.true_or]
      exact j0 true
    · simp only [if_true, Bool.not_true, Bool.false_or]
      cases regR a ua
      · simp only [Bool.false_eq_true, if_false, Bool.not_false, Bool.true_or]
        exact j0 true
      · simp only [if_true, Bool.not_true, Bool.false_or]
        cases regR b ub
        · simp only [Bool.false_eq_true, if_false, Bool.not_false, Bool.true_or]
          exact j0 true
        · simp only [if_true, Bool.not_true, Bool.false_or]
          cases ui
          · simp only [Bool.false_eq_true, if_false, Bool.not_false, Bool.true_and]
            have := j0 (i != 0)
            by_cases hz : i = 0
            · rw [hz] at this ⊢; simpa using this
            · rw [show (i != 0) = true from bne_iff_ne.mpr hz] at this ⊢; simpa [hz] using this
          · simp only [if_true, Bool.not_true, Bool.false_and]
            exact j0 false
theorem refCheck_ev (o d a b i : Int) (h0 : 0 ≤ d ∧ 0 ≤ a ∧ 0 ≤ b) (hi : -2147483648 ≤ i ∧ i < 2147483648) : Ev (fun k => budwoodref04_Check.f k o d a b i) (checkR o d a b i) := by
  have j1 : ∀ x : Bool, Ev (fun k => budwoodref04_Check.j1 k x o d a b i) (if x = true then 10 else if fits21 i = false then 11 else if o = 17 ∧ i < 0 then 11 else if o = 21 ∧ (i < 0 ∨ 63 < i) then 11 else 0) := fun x => by
    refine Ev.step (fun k => by rw [budwoodref04_Check.j1]) ?_
    cases x
    · simp only [Bool.false_eq_true, if_false, refFits_f, w64 (show -9223372036854775808 ≤ i by omega) (show i < 9223372036854775808 by omega), Option.bind_some]
      cases fits21 i
      · simp only [Bool.false_eq_true, if_false, if_true]
        exact Ev.now _
      · simp only [if_true, Bool.true_eq_false, if_false]
        refine ⟨0, fun k _ => ?_⟩
        dsimp only
        repeat' split
        all_goals first | rfl | (exfalso; omega)
    · simp only [if_true]
      exact Ev.now _
  unfold budwoodref04_Check.f checkR
  refine Ev.bind (refUses_ev o) ?_
  unfold badR regR
  obtain ⟨ud, ua, ub, ui⟩ := usesR o
  dsimp only
  have j0t : Ev (fun k => budwoodref04_Check.j0 k true o d a b i ud ua ub ui) 10 := by
    refine Ev.step (fun k => by rw [budwoodref04_Check.j0]) ?_
    simp only [if_true]
    exact Ev.now _
  by_cases h : o > 21
  · simp only [if_pos h, decide_eq_true (show 21 < o from h), Bool.true_or, if_true]
    exact j0t
  · simp only [if_neg h, decide_eq_false (show ¬ 21 < o from h), Bool.false_or]
    by_cases hd : d > 7
    · simp only [if_pos hd, decide_eq_false (show ¬ d = 0 by omega), decide_eq_false (show ¬ d < 8 by omega), Bool.and_false, Bool.or_false, Bool.not_false, Bool.true_or, if_true]
      exact j0t
    · simp only [if_neg hd, decide_eq_true (show d < 8 by omega), Bool.and_true]
      by_cases ha : a > 7
      · simp only [if_pos ha, decide_eq_false (show ¬ a = 0 by omega), decide_eq_false (show ¬ a < 8 by omega), Bool.and_false, Bool.or_false, Bool.not_false, Bool.true_or, Bool.or_true, if_true]
        exact j0t
      · simp only [if_neg ha, decide_eq_true (show a < 8 by omega), Bool.and_true]
        by_cases hb : b > 7
        · simp only [decide_eq_true hb, decide_eq_false (show ¬ b = 0 by omega), decide_eq_false (show ¬ b < 8 by omega), Bool.and_false, Bool.or_false, Bool.not_false, Bool.true_or, Bool.or_true, if_true]
          exact j0t
        · simp only [decide_eq_false hb, decide_eq_true (show b < 8 by omega), Bool.and_true]
          refine Ev.step (fun k => by rw [budwoodref04_Check.j0]) ?_
          simp only [Bool.false_eq_true, if_false]
          have jt := j1 true
          have jf := j1 false
          have ji := j1 (i != 0)
          simp only [if_true, Bool.false_eq_true, if_false] at jt jf
          have ei : (i != 0) = decide (i ≠ 0) := by by_cases hz : i = 0 <;> simp [hz]
          rw [ei] at ji
          cases ud <;> cases ua <;> cases ub <;> cases ui
          all_goals by_cases d0 : d = 0
          all_goals by_cases a0 : a = 0
          all_goals by_cases b0 : b = 0
          all_goals simp only [d0, a0, b0, ei, if_true, if_false, Bool.false_eq_true, decide_true, decide_false, Bool.true_or, Bool.or_true, Bool.false_or, Bool.or_false, Bool.not_true, Bool.not_false, Bool.true_and, Bool.false_and]
          all_goals try simp only [d0, a0, b0] at jt jf ji
          all_goals first | exact jt | exact jf | exact ji

/-! ### encoding -/
/-- An instruction's word, its parts being what they may be. -/
def encN (o d a b : Nat) (i : Int) : Nat := withN (withN (withN (cutN i ||| b) 27 5 o) 24 3 d) 21 3 a
theorem u8_mod {x : Int} (h0 : 0 ≤ x) (h1 : x < 256) : x % 4294967296 = ((x.toNat : Nat) : Int) ∧ x.toNat < 2 ^ 32 := by omega
/-- What Encode tells. -/
def encR (o d a b i : Int) : Int × Int := if checkR o d a b i = 0 then (((encN o.toNat d.toNat a.toNat b.toNat i : Nat) : Int), 0) else (0, checkR o d a b i)
theorem encode_ev (o d a b i : Int) (ho : 0 ≤ o ∧ o < 256) (hd : 0 ≤ d ∧ d < 256) (ha : 0 ≤ a ∧ a < 256) (hb : 0 ≤ b ∧ b < 256) (hi : -2147483648 ≤ i ∧ i < 2147483648) :
    Ev (fun k => isa_Encode.f k o d a b i) (encR o d a b i) := by
  unfold isa_Encode.f encR
  refine Ev.bind (check_ev o d a b i hi) ?_
  by_cases h : checkR o d a b i = 0
  · obtain ⟨e1, f1⟩ := u8_mod ho.1 ho.2
    obtain ⟨e2, f2⟩ := u8_mod hd.1 hd.2
    obtain ⟨e3, f3⟩ := u8_mod ha.1 ha.2
    obtain ⟨e4, f4⟩ := u8_mod hb.1 hb.2
    have hc := cutN_lt i
    have hl : cutN i ||| b.toNat < 2 ^ 32 := or_lt _ _ _ (by omega) f4
    have w1 := with_f (cutN i ||| b.toNat) 27 5 o.toNat hl f1 (by decide)
    have w2 := with_f (withN (cutN i ||| b.toNat) 27 5 o.toNat) 24 3 d.toNat (withN_lt _ _ _ _) f2 (by decide)
    have w3 := with_f (withN (withN (cutN i ||| b.toNat) 27 5 o.toNat) 24 3 d.toNat) 21 3 a.toNat (withN_lt _ _ _ _) f3 (by decide)
    simp only [if_pos h, cut_f, Option.bind_some, e1, e2, e3, e4]
    rw [or_nat _ _ (by omega) f4]
    refine ev_of ?_
    rw [show word_With.f ((cutN i ||| b.toNat : Nat) : Int) 27 5 (o.toNat : Int) = _ from w1]
    simp only [Option.bind_some]
    rw [show word_With.f ((withN (cutN i ||| b.toNat) 27 5 o.toNat : Nat) : Int) 24 3 (d.toNat : Int) = _ from w2]
    simp only [Option.bind_some]
    rw [show word_With.f ((withN (withN (cutN i ||| b.toNat) 27 5 o.toNat) 24 3 d.toNat : Nat) : Int) 21 3 (a.toNat : Int) = _ from w3]
    rfl
  · simp only [if_neg h]
    exact Ev.now _
theorem check_zero {o d a b i : Int} (h : checkR o d a b i = 0) : o ≤ 21 ∧ regR d (usesR o).1 = true ∧ regR a (usesR o).2.1 = true ∧ regR b (usesR o).2.2.1 = true ∧ ((usesR o).2.2.2 = true ∨ i = 0) ∧ fits21 i = true ∧ (o = 17 → 0 ≤ i) := by
  unfold checkR at h
  by_cases hb : badR o d a b i = true
  · rw [if_pos hb] at h; omega
  · rw [if_neg hb] at h
    replace hb := Bool.eq_false_iff.mpr hb
    unfold badR at hb
    simp only [Bool.or_eq_false_iff, decide_eq_false_iff_not, Bool.not_eq_false'] at hb
    obtain ⟨⟨⟨⟨h1, h2⟩, h3⟩, h4⟩, h5⟩ := hb
    refine ⟨by omega, h2, h3, h4, ?_, ?_, ?_⟩
    · cases hu : (usesR o).2.2.2
      · rw [hu] at h5; simp at h5; exact .inr h5
      · exact .inl rfl
    · cases hf : fits21 i
      · rw [hf] at h; simp at h
      · rfl
    · intro h17
      cases hf : fits21 i
      · rw [hf] at h; simp at h
      · rw [hf] at h
        by_cases hi : i < 0
        · rw [if_neg (by simp), if_pos ⟨h17, hi⟩] at h; omega
        · omega
theorem reg_lt {r : Int} {u : Bool} (h0 : 0 ≤ r) (h : regR r u = true) : r < 8 ∧ (u = false → r = 0) := by
  unfold regR at h
  cases u
  · simp at h; exact ⟨by omega, fun _ => h⟩
  · simp at h; exact ⟨by omega, fun h => by cases h⟩
theorem usesB (o : Int) (h : (usesR o).2.2.1 = true) : (usesR o).2.2.2 = false := by
  unfold usesR at h ⊢
  repeat' split at h
  all_goals first | (simp at h; done) | skip
  all_goals simp [*]
theorem refEncode_ev (o d a b i : Int) (ho : 0 ≤ o ∧ o < 256) (hd : 0 ≤ d ∧ d < 256) (ha : 0 ≤ a ∧ a < 256) (hb : 0 ≤ b ∧ b < 256) (hi : -2147483648 ≤ i ∧ i < 2147483648) :
    Ev (fun k => budwoodref04_Encode.f k o d a b i) (encR o d a b i) := by
  unfold budwoodref04_Encode.f encR
  refine Ev.bind (refCheck_ev o d a b i ⟨hd.1, ha.1, hb.1⟩ hi) ?_
  by_cases h : checkR o d a b i = 0
  · obtain ⟨e1, f1⟩ := u8_mod ho.1 ho.2
    obtain ⟨e2, f2⟩ := u8_mod hd.1 hd.2
    obtain ⟨e3, f3⟩ := u8_mod ha.1 ha.2
    obtain ⟨e4, f4⟩ := u8_mod hb.1 hb.2
    obtain ⟨c1, c2, c3, c4, c5, c6, c7⟩ := check_zero h
    have hc := cutN_lt i
    simp only [if_pos h, e1, e2, e3, e4]
    refine Ev.bind (refWith_ev 0 27 5 o.toNat (by decide) f1 (by decide)) (Ev.bind (refWith_ev _ 24 3 d.toNat (withN_lt _ _ _ _) f2 (by decide)) (Ev.bind (refWith_ev _ 21 3 a.toNat (withN_lt _ _ _ _) f3 (by decide)) (Ev.bind (refUses_ev o) ?_)))
    have key : ∀ low : Nat, low < 2 ^ 21 → cutN i ||| b.toNat = low → withN (withN (withN (withN 0 27 5 o.toNat) 24 3 d.toNat) 21 3 a.toNat) 0 21 low = encN o.toNat d.toNat a.toNat b.toNat i := fun low hl e => by
      unfold encN
      rw [e]
      have hl2 : low < 2 ^ 32 := by omega
      refine word_ext (withN_lt _ _ _ _) (withN_lt _ _ _ _) fun j hj => ?_
      rw [withN_bit _ _ _ _ _ (withN_lt _ _ _ _) (by decide) hj, withN_bit _ _ _ _ _ (withN_lt _ _ _ _) (by decide) hj, withN_bit _ _ _ _ _ (withN_lt _ _ _ _) (by decide) hj, withN_bit _ _ _ _ _ (by decide) (by decide) hj,
        withN_bit _ _ _ _ _ (withN_lt _ _ _ _) (by decide) hj, withN_bit _ _ _ _ _ (withN_lt _ _ _ _) (by decide) hj, withN_bit _ _ _ _ _ hl2 (by decide) hj]
      repeat' split
      all_goals first | rfl | (exfalso; omega) | (simp; done) | skip
      all_goals (have hz := bit_out hl (i := j) (by omega); simp [hz])
    cases hu : (usesR o).2.2.1
    · simp only [Bool.false_eq_true, if_false]
      have hb0 : b = 0 := (reg_lt hb.1 c4).2 hu
      refine Ev.bind (refCut_ev i) ?_
      refine Ev.bind (refWith_ev _ 0 21 (cutN i) (withN_lt _ _ _ _) (by omega) (by decide)) ?_
      rw [key (cutN i) hc (by rw [hb0]; simp)]
      exact Ev.now _
    · simp only [if_true]
      have hi0 : i = 0 := by
        rcases c5 with h5 | h5
        · rw [usesB o hu] at h5; cases h5
        · exact h5
      have hb8 := (reg_lt hb.1 c4).1
      refine Ev.bind (refWith_ev _ 0 21 b.toNat (withN_lt _ _ _ _) f4 (by decide)) ?_
      rw [key b.toNat (by omega) (by rw [hi0]; simp [cutN])]
      exact Ev.now _
  · simp only [if_neg h]
    exact Ev.now _

/-! ### decoding -/
def opN (w : Nat) : Int := ((bitsN w 27 5 : Nat) : Int)
def dN (w : Nat) : Int := ((bitsN w 24 3 : Nat) : Int)
def aN (w : Nat) : Int := ((bitsN w 21 3 : Nat) : Int)
def bN (w : Nat) : Int := if (usesR (opN w)).2.2.1 = true then ((bitsN w 0 3 : Nat) : Int) else 0
def iN (w : Nat) : Int := if (usesR (opN w)).2.2.1 = true then 0 else signN w
/-- Is the word an instruction's? -/
def isIns (w : Nat) : Bool := decide (encR (opN w) (dN w) (aN w) (bN w) (iN w) = ((w : Int), 0))
/-- What Decode tells. -/
def decR (w : Nat) : Int × Int × Int × Int × Int × Int := if isIns w = true then (opN w, dN w, aN w, bN w, iN w, 0) else (0, 0, 0, 0, 0, 10)
theorem opN_lt (w : Nat) : 0 ≤ opN w ∧ opN w < 256 := by unfold opN; have := bitsN_lt w 27 5; omega
theorem dN_lt (w : Nat) : 0 ≤ dN w ∧ dN w < 256 := by unfold dN; have := bitsN_lt w 24 3; omega
theorem aN_lt (w : Nat) : 0 ≤ aN w ∧ aN w < 256 := by unfold aN; have := bitsN_lt w 21 3; omega
theorem bN_lt (w : Nat) : 0 ≤ bN w ∧ bN w < 256 := by unfold bN; have := bitsN_lt w 0 3; split <;> omega
theorem signN_lt (w : Nat) : -2147483648 ≤ signN w ∧ signN w < 2147483648 := by unfold signN; split <;> omega
theorem iN_lt (w : Nat) : -2147483648 ≤ iN w ∧ iN w < 2147483648 := by unfold iN; have := signN_lt w; split <;> omega
theorem mod256 {x : Int} (h0 : 0 ≤ x ∧ x < 256) : x % 256 = x := by omega
theorem dec_end (w : Nat) (o d a b i : Int) (r : Int × Int) (hr : r = encR (opN w) (dN w) (aN w) (bN w) (iN w)) (ho : o = opN w) (hd : d = dN w) (ha : a = aN w) (hb : b = bN w) (hi : i = iN w) :
    (if r.2 = 0 then (if r.1 = (w : Int) then (some (o, d, a, b, i, (0 : Int))) else (some (0, 0, 0, 0, 0, 10))) else (some (0, 0, 0, 0, 0, 10))) = some (decR w) := by
  subst hr ho hd ha hb hi
  unfold decR isIns
  by_cases h2 : (encR (opN w) (dN w) (aN w) (bN w) (iN w)).2 = 0
  · by_cases h1 : (encR (opN w) (dN w) (aN w) (bN w) (iN w)).1 = (w : Int)
    · rw [if_pos h2, if_pos h1, decide_eq_true (Prod.ext h1 h2)]; rfl
    · rw [if_pos h2, if_neg h1, decide_eq_false (fun hc => h1 (by rw [hc]))]; rfl
  · rw [if_neg h2, decide_eq_false (fun hc => h2 (by rw [hc]))]; rfl
theorem decode_ev (w : Nat) (hw : w < 2 ^ 32) : Ev (fun k => isa_Decode.f k (w : Int)) (decR w) := by
  unfold isa_Decode.f
  have b1 : word_Bits.f (w : Int) 27 5 = some (opN w) := bits_f w 27 5 hw (by decide)
  have b2 : word_Bits.f (w : Int) 24 3 = some (dN w) := bits_f w 24 3 hw (by decide)
  have b3 : word_Bits.f (w : Int) 21 3 = some (aN w) := bits_f w 21 3 hw (by decide)
  have b4 : word_Bits.f (w : Int) 0 3 = some ((bitsN w 0 3 : Nat) : Int) := bits_f w 0 3 hw (by decide)
  have hl := bitsN_lt w 0 3
  simp only [b1, b2, b3, b4, Option.bind_some, mod256 (opN_lt w), mod256 (dN_lt w), mod256 (aN_lt w), mod256 (x := ((bitsN w 0 3 : Nat) : Int)) (by omega)]
  refine Ev.bind (uses_ev (opN w)) ?_
  cases hu : (usesR (opN w)).2.2.1
  · simp only [Bool.false_eq_true, if_false, signed_f w hw, Option.bind_some]
    have eb : bN w = 0 := by unfold bN; rw [hu]; rfl
    have ei : iN w = signN w := by unfold iN; rw [hu]; rfl
    refine Ev.bind (encode_ev _ _ _ _ _ (opN_lt w) (dN_lt w) (aN_lt w) (by omega) (signN_lt w)) ?_
    exact ev_of (dec_end w _ _ _ _ _ _ (by rw [eb, ei]) rfl rfl rfl eb.symm ei.symm)
  · simp only [if_true]
    have eb : bN w = ((bitsN w 0 3 : Nat) : Int) := by unfold bN; rw [hu]; rfl
    have ei : iN w = 0 := by unfold iN; rw [hu]; rfl
    refine Ev.bind (encode_ev _ _ _ _ _ (opN_lt w) (dN_lt w) (aN_lt w) (by omega) (by omega)) ?_
    exact ev_of (dec_end w _ _ _ _ _ _ (by rw [eb, ei]) rfl rfl rfl eb.symm ei.symm)
theorem refDecode_ev (w : Nat) (hw : w < 2 ^ 32) : Ev (fun k => budwoodref04_Decode.f k (w : Int)) (decR w) := by
  unfold budwoodref04_Decode.f
  have hl := bitsN_lt w 0 3
  refine Ev.bind (a := opN w) (refBits_ev w 27 5 hw (by decide)) (Ev.bind (a := dN w) (refBits_ev w 24 3 hw (by decide)) (Ev.bind (a := aN w) (refBits_ev w 21 3 hw (by decide)) ?_))
  simp only [mod256 (opN_lt w), mod256 (dN_lt w), mod256 (aN_lt w)]
  refine Ev.bind (refUses_ev (opN w)) ?_
  cases hu : (usesR (opN w)).2.2.1
  · simp only [Bool.false_eq_true, if_false]
    have eb : bN w = 0 := by unfold bN; rw [hu]; rfl
    have ei : iN w = signN w := by unfold iN; rw [hu]; rfl
    refine Ev.bind (refSigned_ev w hw) (Ev.bind (refEncode_ev _ _ _ _ _ (opN_lt w) (dN_lt w) (aN_lt w) (by omega) (signN_lt w)) ?_)
    exact ev_of (dec_end w _ _ _ _ _ _ (by rw [eb, ei]) rfl rfl rfl eb.symm ei.symm)
  · simp only [if_true]
    have eb : bN w = ((bitsN w 0 3 : Nat) : Int) := by unfold bN; rw [hu]; rfl
    have ei : iN w = 0 := by unfold iN; rw [hu]; rfl
    refine Ev.bind (a := ((bitsN w 0 3 : Nat) : Int)) (refBits_ev w 0 3 hw (by decide)) ?_
    simp only [mod256 (x := ((bitsN w 0 3 : Nat) : Int)) (by omega)]
    refine Ev.bind (refEncode_ev _ _ _ _ _ (opN_lt w) (dN_lt w) (aN_lt w) (by omega) (by omega)) ?_
    exact ev_of (dec_end w _ _ _ _ _ _ (by rw [eb, ei]) rfl rfl rfl eb.symm ei.symm)
/-- What Decode tells of an instruction's word has the form that Check asks for. -/
theorem dec_check (w : Nat) (h : isIns w = true) : checkR (opN w) (dN w) (aN w) (bN w) (iN w) = 0 := by
  have h1 := of_decide_eq_true h
  unfold encR at h1
  by_cases hc : checkR (opN w) (dN w) (aN w) (bN w) (iN w) = 0
  · exact hc
  · rw [if_neg hc] at h1
    have := congrArg Prod.snd h1
    exact absurd this hc
end Go.Proofs.Ytllkloneapjgjaa.Wd
