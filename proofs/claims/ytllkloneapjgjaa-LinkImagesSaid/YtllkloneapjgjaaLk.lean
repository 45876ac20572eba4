import Derived.Test.YtllkloneapjgjaaIs
/- Link, pure: both sides' Value, Apply, Spot, Raw, Word are one. -/
namespace Go.Proofs.Ytllkloneapjgjaa.Wd
open Go.Lib Go.RowKit Go.Proofs.YtllkloneapjgjaaW.PrintWords Go.Proofs.YtllkloneapjgjaaW.PrintMore Go.Proofs.Ytllkloneapjgjaa.P
set_option linter.unusedVariables false
set_option linter.unusedSimpArgs false

/-! ### relocations -/
def isImp (k : Int) : Bool := k == 0 || k == 1 || k == 4
def inData (k : Int) : Bool := k == 2 || k == 5
/-- What Value tells. -/
def valR (k q code data : Int) (slots : List Int) : Int × Int :=
  if k > 7 then (0, 2) else if isImp k = true then (if q ≥ (slots.length : Int) then (0, 2) else (rd slots q, 0)) else if inData k = true then ((data + q) % 4294967296, 0) else ((code + q) % 4294967296, 0)
theorem kind_cases (k : Int) (h : 0 ≤ k) : k = 0 ∨ k = 1 ∨ k = 2 ∨ k = 3 ∨ k = 4 ∨ k = 5 ∨ k = 6 ∨ k = 7 ∨ 7 < k := by omega
theorem value_ev (k a q code data : Int) (slots : List Int) (hk : 0 ≤ k) (hq : 0 ≤ q ∧ q < 65536) : Ev (fun n => reloc_Value.f n k a q code data slots) (valR k q code data slots) := by
  refine ⟨4, fun n hn => ?_⟩
  obtain ⟨n, rfl⟩ : ∃ m, n = m + 3 := ⟨n - 3, by omega⟩
  have e1 : wrap64 q = q := w64 (by omega) (by omega)
  have e2 : q % 4294967296 = q := by omega
  rcases kind_cases k hk with h | h | h | h | h | h | h | h | h
  all_goals by_cases hs : (slots.length : Int) ≤ q
  all_goals first
    | (subst h; simp [reloc_Value.f, reloc_Value.j0, reloc_Value.j1, reloc_Value.j2, valR, isImp, inData, e1, e2, hs, hq.1, show ¬ ((slots.length : Int) ≤ q) ↔ q < (slots.length : Int) by omega, Int.not_le.mp]; done)
    | (subst h
       have hs2 : q < (slots.length : Int) := by omega
       simp [reloc_Value.f, reloc_Value.j0, reloc_Value.j1, reloc_Value.j2, valR, isImp, inData, e1, e2, hs, hs2, hq.1]; done)
    | (simp [reloc_Value.f, reloc_Value.j0, reloc_Value.j1, reloc_Value.j2, valR, isImp, inData, e1, e2, h, show k ≠ 0 by omega, show k ≠ 1 by omega, show k ≠ 2 by omega, show k ≠ 3 by omega, show k ≠ 4 by omega, show k ≠ 5 by omega, show k ≠ 6 by omega, show k ≠ 7 by omega]; done)
theorem refValue_ev (k a q code data : Int) (slots : List Int) (hk : 0 ≤ k) (hq : 0 ≤ q ∧ q < 65536) : Ev (fun n => budwoodref15_Value.f n k a q code data slots) (valR k q code data slots) := by
  refine ⟨4, fun n hn => ?_⟩
  obtain ⟨n, rfl⟩ : ∃ m, n = m + 3 := ⟨n - 3, by omega⟩
  have e1 : wrap64 q = q := w64 (by omega) (by omega)
  have e2 : q % 4294967296 = q := by omega
  rcases kind_cases k hk with h | h | h | h | h | h | h | h | h
  all_goals by_cases hs : (slots.length : Int) ≤ q
  all_goals first
    | (subst h
       have hs2 : ¬ q < (slots.length : Int) := by omega
       simp [budwoodref15_Value.f, budwoodref15_Value.j0, budwoodref15_Import.f, valR, isImp, inData, e1, e2, hs, hs2, hq.1]; done)
    | (subst h
       have hs2 : q < (slots.length : Int) := by omega
       simp [budwoodref15_Value.f, budwoodref15_Value.j0, budwoodref15_Import.f, valR, isImp, inData, e1, e2, hs, hs2, hq.1]; done)
    | (simp [budwoodref15_Value.f, budwoodref15_Value.j0, budwoodref15_Import.f, valR, isImp, inData, e1, e2, h]; done)
theorem valR_lt (k q code data : Int) (slots : List Int) (hs : ∀ x ∈ slots, 0 ≤ x ∧ x < 4294967296) : 0 ≤ (valR k q code data slots).1 ∧ (valR k q code data slots).1 < 4294967296 := by
  have hr : 0 ≤ rd slots q ∧ rd slots q < 4294967296 := by
    unfold rd
    rw [List.getD_eq_getElem?_getD]
    cases h : slots[q.toNat]? with
    | none => simp
    | some x => exact hs x (List.mem_of_getElem? h)
  unfold valR
  repeat' split
  all_goals first | exact hr | (dsimp only; omega)
/-- The operation that a kind of relocation in code goes to. -/
def opR (k : Int) : Int := if k = 0 ∨ k = 7 then 17 else 2
/-- What Apply tells. -/
def applyR (w : Nat) (k v : Int) : Int × Int :=
  if k > 7 then (0, 2) else if k = 4 ∨ k = 5 ∨ k = 6 then (v, 0) else
    if isIns w = true ∧ opN w = opR k ∧ iN w = 0 then (if v > 1048575 then (0, 30) else encR (opN w) (dN w) (aN w) (bN w) v) else (0, 10)
theorem apply_j0 (k v : Int) (o d a b : Int) (w : Nat) (x : Bool) (hv : 0 ≤ v ∧ v < 4294967296) (h : x = false → o = opN w ∧ d = dN w ∧ a = aN w ∧ b = bN w) :
    Ev (fun n => reloc_Apply.j0 n v x o d a b 0) (if x = true then (0, 10) else if v > 1048575 then (0, 30) else encR (opN w) (dN w) (aN w) (bN w) v) := by
  refine Ev.step (fun n => by rw [reloc_Apply.j0]) ?_
  cases x
  · obtain ⟨rfl, rfl, rfl, rfl⟩ := h rfl
    simp only [Bool.false_eq_true, if_false, w64 (show -9223372036854775808 ≤ v by omega) (by omega), fits_f v (by omega) (by omega), Option.bind_some]
    unfold fits21
    by_cases h1 : v > 1048575
    · rw [decide_eq_false (by omega), if_pos h1]
      simp only [Bool.false_eq_true, if_false]
      exact Ev.now _
    · rw [decide_eq_true (by omega), if_neg h1, show wrap32 v = v by unfold wrap32; omega]
      simp only [if_true]
      exact Ev.bind (encode_ev _ _ _ _ _ (opN_lt w) (dN_lt w) (aN_lt w) (bN_lt w) (by omega)) (Ev.now _)
  · simp only [if_true]
    exact Ev.now _
theorem call_regs (w : Nat) (h : isIns w = true) (h17 : opN w = 17) : dN w = 0 ∧ aN w = 0 ∧ bN w = 0 := by
  obtain ⟨c1, c2, c3, c4, _⟩ := check_zero (dec_check w h)
  rw [h17] at c2 c3 c4
  exact ⟨(reg_lt (dN_lt w).1 c2).2 (by decide), (reg_lt (aN_lt w).1 c3).2 (by decide), (reg_lt (bN_lt w).1 c4).2 (by decide)⟩
/-- What blank tells. -/
def blankR (w : Nat) (k : Int) : Int × Int × Int × Int × Int × Int × Int := if isIns w = true ∧ opN w = opR k then (opN w, dN w, aN w, bN w, 0, iN w, 0) else (0, 0, 0, 0, 0, 0, 10)
theorem blank_ev (w : Nat) (k : Int) (hw : w < 2 ^ 32) : Ev (fun n => reloc_blank.f n (w : Int) k) (blankR w k) := by
  unfold reloc_blank.f
  refine Ev.bind (decode_ev w hw) (ev_of ?_)
  unfold blankR decR opR
  by_cases hi : isIns w = true
  · have hr := call_regs w hi
    by_cases h0 : k = 0
    · by_cases h17 : opN w = 17
      · obtain ⟨r1, r2, r3⟩ := hr h17
        simp [hi, h0, h17, r1, r2, r3]
      · simp [hi, h0, h17]
    · by_cases h7 : k = 7
      · by_cases h17 : opN w = 17
        · obtain ⟨r1, r2, r3⟩ := hr h17
          simp [hi, h7, h17, r1, r2, r3]
        · simp [hi, h7, h17]
      · by_cases h2 : opN w = 2
        · simp [hi, h0, h7, h2]
        · simp [hi, h0, h7, h2]
  · simp [hi]
theorem apply_ev (w : Nat) (k v : Int) (hw : w < 2 ^ 32) (hk : 0 ≤ k) (hv : 0 ≤ v ∧ v < 4294967296) : Ev (fun n => reloc_Apply.f n (w : Int) k v) (applyR w k v) := by
  unfold reloc_Apply.f applyR
  by_cases h4 : k = 4
  · subst h4; simp; exact Ev.now _
  by_cases h5 : k = 5
  · subst h5; simp; exact Ev.now _
  by_cases h6 : k = 6
  · subst h6; simp; exact Ev.now _
  by_cases h7 : k > 7
  · simp only [if_neg h4, if_neg h5, if_neg h6, if_pos h7]
    exact Ev.now _
  simp only [if_neg h4, if_neg h5, if_neg h6, if_neg h7]
  rw [if_neg (show ¬ (k = 4 ∨ k = 5 ∨ k = 6) by omega)]
  refine Ev.bind (blank_ev w k hw) ?_
  unfold blankR
  by_cases hb : isIns w = true ∧ opN w = opR k
  · simp only [if_pos hb, if_true]
    have := apply_j0 k v (opN w) (dN w) (aN w) (bN w) w (iN w != 0) hv (fun _ => ⟨rfl, rfl, rfl, rfl⟩)
    by_cases hz : iN w = 0
    · rw [if_pos ⟨hb.1, hb.2, hz⟩]
      rw [hz] at this ⊢
      simpa using this
    · rw [if_neg (fun hc => hz hc.2.2)]
      rw [show (iN w != 0) = true from bne_iff_ne.mpr hz] at this ⊢
      simpa using this
  · simp only [if_neg hb]
    rw [if_neg (fun hc => hb ⟨hc.1, hc.2.1⟩)]
    have := apply_j0 k v 0 0 0 0 w true hv (fun h => by cases h)
    simpa using this
theorem refApply_ev (w : Nat) (k v : Int) (hw : w < 2 ^ 32) (hk : 0 ≤ k) (hv : 0 ≤ v ∧ v < 4294967296) : Ev (fun n => budwoodref15_Apply.f n (w : Int) k v) (applyR w k v) := by
  have j0 : ∀ (x : Bool) (o d a b i : Int), (x = false → o = opN w ∧ d = dN w ∧ a = aN w ∧ b = bN w) → (k = 0 ∨ k = 1 ∨ k = 2 ∨ k = 3 ∨ k = 7) →
      Ev (fun n => budwoodref15_Apply.j0 n k v x o d a b i) (if x = true then (0, 10) else if v > 1048575 then (0, 30) else encR (opN w) (dN w) (aN w) (bN w) v) := fun x o d a b i h hin => by
    refine Ev.step (fun n => by rw [budwoodref15_Apply.j0]) ?_
    cases x
    · obtain ⟨rfl, rfl, rfl, rfl⟩ := h rfl
      have hre : budwoodref15_Reach.f k = some 1048575 := by
        unfold budwoodref15_Reach.f budwoodref11_InCode.f
        rcases hin with h | h | h | h | h <;> subst h <;> simp
      simp only [Bool.false_eq_true, if_false, hre, Option.bind_some]
      by_cases h1 : v > 1048575
      · simp only [if_pos h1]
        exact Ev.now _
      · simp only [if_neg h1, show wrap32 v = v by unfold wrap32; omega]
        exact Ev.bind (refEncode_ev _ _ _ _ _ (opN_lt w) (dN_lt w) (aN_lt w) (bN_lt w) (by omega)) (Ev.now _)
    · simp only [if_true]
      exact Ev.now _
  unfold budwoodref15_Apply.f applyR
  by_cases h7 : k > 7
  · simp only [if_pos h7]
    exact Ev.now _
  simp only [if_neg h7]
  by_cases hd : k = 4 ∨ k = 5 ∨ k = 6
  · rw [if_pos hd]
    have : budwoodref11_InCode.f k = some false := by
      unfold budwoodref11_InCode.f
      rcases hd with h | h | h <;> subst h <;> simp
    simp only [this, Option.bind_some, Bool.false_eq_true, if_false]
    exact Ev.now _
  · have hin : k = 0 ∨ k = 1 ∨ k = 2 ∨ k = 3 ∨ k = 7 := by omega
    rw [if_neg hd]
    have : budwoodref11_InCode.f k = some true := by
      unfold budwoodref11_InCode.f
      rcases hin with h | h | h | h | h <;> subst h <;> simp
    have hop : budwoodref15_op.f k = some (opR k) := by
      unfold budwoodref15_op.f opR
      rcases hin with h | h | h | h | h <;> subst h <;> simp
    simp only [this, Option.bind_some, if_true]
    refine Ev.bind (refDecode_ev w hw) ?_
    unfold decR
    by_cases hi : isIns w = true
    · simp only [if_pos hi, if_true, hop, Option.bind_some]
      by_cases ho : opN w = opR k
      · simp only [if_pos ho]
        have := j0 (iN w != 0) (opN w) (dN w) (aN w) (bN w) (iN w) (fun _ => ⟨rfl, rfl, rfl, rfl⟩) hin
        by_cases hz : iN w = 0
        · rw [if_pos ⟨hi, ho, hz⟩]
          rw [hz] at this ⊢
          simpa using this
        · rw [if_neg (fun hc => hz hc.2.2)]
          rw [show (iN w != 0) = true from bne_iff_ne.mpr hz] at this ⊢
          simpa using this
      · simp only [if_neg ho]
        rw [if_neg (fun hc => ho hc.2.1)]
        have := j0 true (opN w) (dN w) (aN w) (bN w) (iN w) (fun h => by cases h) hin
        simpa using this
    · simp only [if_neg hi]
      rw [if_neg (fun hc => hi hc.1)]
      have := j0 true 0 0 0 0 0 (fun h => by cases h) hin
      simpa using this
end Go.Proofs.Ytllkloneapjgjaa.Wd
