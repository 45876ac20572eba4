import Derived.Test.YtllkloneapjgjaaLk
/- Link, pure: Spot, Raw, Word, the size; the law of words. -/
namespace Go.Proofs.Ytllkloneapjgjaa.Wd
open Go.Lib Go.RowKit Go.Proofs.YtllkloneapjgjaaW.PrintWords Go.Proofs.YtllkloneapjgjaaW.PrintMore Go.Proofs.Ytllkloneapjgjaa.P
set_option linter.unusedVariables false
set_option linter.unusedSimpArgs false

/-! ### where a word stands -/
/-- How many pages so many words have. -/
def pagesR (n : Nat) : Nat := (n + 15) / 16
theorem up_f (n : Nat) (h : n < 4611686018427387904) : layout_up.f (n : Int) = some ((pagesR n : Nat) : Int) := by
  unfold layout_up.f pagesR
  rw [w64 (x := (n : Int) + 16) (by omega) (by omega), w64 (x := (n : Int) + 16 - 1) (by omega) (by omega), Int.tdiv_eq_ediv_of_nonneg (by omega), w64 (by omega) (by omega)]
  congr 1
  omega
theorem refPages_f (n : Nat) (h : n < 4611686018427387904) : budwoodref12_pages.f (n : Int) = some ((pagesR n : Nat) : Int) := by
  unfold budwoodref12_pages.f pagesR mn
  rw [Int.tdiv_eq_ediv_of_nonneg (by omega), Int.tmod_eq_emod_of_nonneg (by omega), w64 (x := (n : Int) / 16) (by omega) (by omega)]
  congr 1
  split <;> rw [w64 (by omega) (by omega)] <;> omega
/-- Where word i stands: in code or in data, at which place, and whether it is one of the module's own. -/
def spotR (c d : Nat) (i : Int) : Bool × Int × Bool :=
  if 0 ≤ i ∧ i < c then (true, i, true) else if 16 * (pagesR c : Int) ≤ i ∧ i - 16 * (pagesR c : Int) < d then (false, i - 16 * (pagesR c : Int), true) else (false, 0, false)
theorem spot_f (nm : ByteArray) (ex im : List ByteArray) (code data : List Int) (re : List S53) (i : Int) (hc : code.length < 4611686018427387904) (hi : -9223372036854775808 ≤ i ∧ i < 9223372036854775808) :
    layout_Spot.f nm ex im code data re i = some (spotR code.length data.length i) := by
  unfold layout_Spot.f spotR
  rw [up_f _ hc]
  simp only [Option.bind_some]
  have hp : 16 * pagesR code.length < code.length + 16 ∧ code.length ≤ 16 * pagesR code.length := by unfold pagesR; omega
  generalize pagesR code.length = p at hp
  by_cases h1 : i < 0
  · rw [if_pos h1, if_neg (by omega), if_neg (by omega)]
  · rw [if_neg h1]
    by_cases h2 : i < (code.length : Int)
    · rw [if_pos h2, if_pos (by omega)]
    · rw [if_neg h2, if_neg (show ¬ (0 ≤ i ∧ i < (code.length : Int)) by omega), w64 (x := (p : Int) * 16) (by omega) (by omega), w64 (x := i - (p : Int) * 16) (by omega) (by omega)]
      by_cases h3 : i - (p : Int) * 16 < 0
      · rw [if_pos h3, if_neg (by omega)]
      · rw [if_neg h3]
        by_cases h4 : i - (p : Int) * 16 ≥ (data.length : Int)
        · rw [if_pos h4, if_neg (by omega)]
        · rw [if_neg h4, if_pos (by omega), show i - (p : Int) * 16 = i - 16 * (p : Int) by omega]
theorem refSpot_ev (nm : ByteArray) (ex im : List ByteArray) (code data : List Int) (re : List S53) (i : Int) (hc : code.length < 4611686018427387904) (hi : -9223372036854775808 ≤ i ∧ i < 9223372036854775808) :
    Ev (fun k => budwoodref12_Spot.f k nm ex im code data re i) (spotR code.length data.length i) := by
  unfold budwoodref12_Spot.f spotR
  simp only [refPages_f _ hc, Option.bind_some]
  have hp : 16 * pagesR code.length < code.length + 16 ∧ code.length ≤ 16 * pagesR code.length := by unfold pagesR; omega
  generalize pagesR code.length = p at hp
  rw [w64 (x := 16 * (p : Int)) (by omega) (by omega)]
  have j0 : ∀ x : Bool, Ev (fun k => budwoodref12_Spot.j0 k i (16 * (p : Int)) x nm ex im code data re) (if x = true then (true, i, true) else if 16 * (p : Int) ≤ i ∧ i - 16 * (p : Int) < data.length then (false, i - 16 * (p : Int), true) else (false, 0, false)) := fun x => by
    refine Ev.step (fun k => by rw [budwoodref12_Spot.j0]) ?_
    cases x
    · simp only [Bool.false_eq_true, if_false]
      by_cases h : i ≥ 16 * (p : Int)
      · simp only [if_pos h, w64 (x := i - 16 * (p : Int)) (by omega) (by omega)]
        by_cases h2 : i - 16 * (p : Int) < (data.length : Int)
        · simp only [if_pos h2]; rw [if_pos ⟨h, h2⟩]; exact Ev.now _
        · simp only [if_neg h2]; rw [if_neg (fun hc => h2 hc.2)]; exact Ev.now _
      · simp only [if_neg h]; rw [if_neg (fun hc => h hc.1)]; exact Ev.now _
    · simp only [if_true]; exact Ev.now _
  by_cases h1 : i ≥ 0
  · simp only [if_pos h1]
    have := j0 (decide (i < (code.length : Int)))
    by_cases h2 : i < (code.length : Int)
    · rw [if_pos ⟨h1, h2⟩]; simp only [decide_eq_true h2, if_true] at this ⊢; exact this
    · rw [if_neg (fun hc => h2 hc.2)]; simp only [decide_eq_false h2, Bool.false_eq_true, if_false] at this ⊢; exact this
  · simp only [if_neg h1]
    rw [if_neg (fun hc => h1 hc.1)]
    have := j0 false
    simp only [Bool.false_eq_true, if_false] at this
    exact this
/-- The word that stands there, ahead of linking. -/
def rawR (code data : List Int) (i : Int) : Int := if (spotR code.length data.length i).2.2 = true then (if (spotR code.length data.length i).1 = true then rd code (spotR code.length data.length i).2.1 else rd data (spotR code.length data.length i).2.1) else 0
theorem raw_core (code data : List Int) (i : Int) : (if (spotR code.length data.length i).2.2 = true then (if (spotR code.length data.length i).1 = true then (if 0 ≤ (spotR code.length data.length i).2.1 then (if (spotR code.length data.length i).2.1 < (code.length : Int) then (some (rd code (spotR code.length data.length i).2.1)) else (none)) else (none)) else (if 0 ≤ (spotR code.length data.length i).2.1 then (if (spotR code.length data.length i).2.1 < (data.length : Int) then (some (rd data (spotR code.length data.length i).2.1)) else (none)) else (none))) else (some 0)) = some (rawR code data i) := by
  unfold rawR spotR
  by_cases h1 : 0 ≤ i ∧ i < (code.length : Int)
  · simp [h1]
  · rw [if_neg h1]
    by_cases h2 : 16 * (pagesR code.length : Int) ≤ i ∧ i - 16 * (pagesR code.length : Int) < (data.length : Int)
    · simp only [if_pos h2, if_true, Bool.false_eq_true, if_false, if_pos (show 0 ≤ i - 16 * (pagesR code.length : Int) by omega)]
      rw [if_pos h2.2]
    · simp [h2]
theorem raw_f (nm : ByteArray) (ex im : List ByteArray) (code data : List Int) (re : List S53) (i : Int) (hc : code.length < 4611686018427387904) (hi : -9223372036854775808 ≤ i ∧ i < 9223372036854775808) :
    layout_Raw.f nm ex im code data re i = some (rawR code data i) := by
  unfold layout_Raw.f
  rw [spot_f nm ex im code data re i hc hi]
  simp only [Option.bind_some]
  exact raw_core code data i
theorem refRaw_ev (nm : ByteArray) (ex im : List ByteArray) (code data : List Int) (re : List S53) (i : Int) (hc : code.length < 4611686018427387904) (hi : -9223372036854775808 ≤ i ∧ i < 9223372036854775808) :
    Ev (fun k => budwoodref12_Raw.f k nm ex im code data re i) (rawR code data i) := by
  unfold budwoodref12_Raw.f
  exact Ev.bind (refSpot_ev nm ex im code data re i hc hi) (ev_of (raw_core code data i))
def RW (l : List Int) : Prop := ∀ x ∈ l, 0 ≤ x ∧ x < 4294967296
def RR (l : List S53) : Prop := ∀ x ∈ l, (0 ≤ x.f0 ∧ x.f0 < 256) ∧ (0 ≤ x.f1 ∧ x.f1 < 65536) ∧ (0 ≤ x.f2 ∧ x.f2 < 65536)
theorem rd_lt {l : List Int} (h : RW l) (i : Int) : 0 ≤ rd l i ∧ rd l i < 4294967296 := by
  unfold rd
  rw [List.getD_eq_getElem?_getD]
  cases hh : l[i.toNat]? with
  | none => simp
  | some x => exact h x (List.mem_of_getElem? hh)
theorem rawR_lt {code data : List Int} (hc : RW code) (hd : RW data) (i : Int) : 0 ≤ rawR code data i ∧ rawR code data i < 4294967296 := by
  unfold rawR
  repeat' split
  · exact rd_lt hc _
  · exact rd_lt hd _
  · omega
theorem rr_at {l : List S53} (h : RR l) (i : Int) : (0 ≤ (rd_T53 l i).f0 ∧ (rd_T53 l i).f0 < 256) ∧ (0 ≤ (rd_T53 l i).f1 ∧ (rd_T53 l i).f1 < 65536) ∧ (0 ≤ (rd_T53 l i).f2 ∧ (rd_T53 l i).f2 < 65536) := by
  unfold rd_T53
  rw [List.getD_eq_getElem?_getD]
  cases hh : l[i.toNat]? with
  | none => simp [z53]
  | some x => exact h x (List.mem_of_getElem? hh)

/-! ### a word, linked -/
/-- The word's relocation is put in. -/
def putR (w : Int) (r : S53) (code data : Int) (slots : List Int) : Int × Int :=
  if (valR r.f0 r.f2 code data slots).2 = 0 then applyR w.toNat r.f0 (valR r.f0 r.f2 code data slots).1 else (0, (valR r.f0 r.f2 code data slots).2)
/-- What Word tells. -/
def wordR (mc md : List Int) (re : List S53) (pc pd : Int) (slots : List Int) (i : Int) : Int × Int :=
  if (spotR mc.length md.length i).2.2 = true ∧ 0 ≤ Lib.idxBy (fun _ y => lkPred (spotR mc.length md.length i).2.1 (spotR mc.length md.length i).1 y) re z53 then
    putR (rawR mc md i) (rd_T53 re (Lib.idxBy (fun _ y => lkPred (spotR mc.length md.length i).2.1 (spotR mc.length md.length i).1 y) re z53)) pc pd slots
  else (rawR mc md i, 0)
theorem idxFrom_spec (p : S53 → Bool) : ∀ (l : List S53) (i : Nat), (Lib.idxByFrom (fun _ y => p y) z53 l i = -1) ∨ (∃ j, j < l.length ∧ Lib.idxByFrom (fun _ y => p y) z53 l i = ((i + j : Nat) : Int))
  | [], i => .inl rfl
  | y :: t, i => by
    unfold Lib.idxByFrom
    by_cases h : p y = true
    · rw [if_pos h]; exact .inr ⟨0, by simp, by simp⟩
    · rw [if_neg h]
      rcases idxFrom_spec p t (i + 1) with e | ⟨j, hj, e⟩
      · exact .inl e
      · exact .inr ⟨j + 1, by simp; omega, by rw [e]; congr 1; omega⟩
theorem word_ev (nm : ByteArray) (ex im : List ByteArray) (mc md : List Int) (re : List S53) (pc pd : Int) (slots : List Int) (i : Int) (hc : mc.length < 4611686018427387904) (hr : re.length < 4611686018427387904) (hi : -9223372036854775808 ≤ i ∧ i < 9223372036854775808)
    (h1 : RW mc) (h2 : RW md) (h3 : RR re) (h4 : RW slots) : Ev (fun k => link_Word.f k nm ex im mc md re pc pd slots i) (wordR mc md re pc pd slots i) := by
  unfold link_Word.f wordR
  simp only [raw_f nm ex im mc md re i hc hi, spot_f nm ex im mc md re i hc hi, Option.bind_some]
  generalize spotR mc.length md.length i = s
  have hix : idx_link_Word_1.f re s.2.1 s.1 = some (Lib.idxBy (fun _ y => lkPred s.2.1 s.1 y) re z53) := by unfold idx_link_Word_1.f; rw [if_pos (by omega)]
  simp only [hix, Option.bind_some]
  have hw := rawR_lt h1 h2 i
  have hsp := idxFrom_spec (lkPred s.2.1 s.1) re 0
  generalize hn : Lib.idxBy (fun _ y => lkPred s.2.1 s.1 y) re z53 = n
  have hn2 : Lib.idxByFrom (fun _ y => lkPred s.2.1 s.1 y) z53 re 0 = n := hn
  rw [hn2] at hsp
  have jt : Ev (fun k => link_Word.j0 k slots (rawR mc md i) n true nm ex im mc md re pc pd) (rawR mc md i, 0) := by
    refine Ev.step (fun k => by rw [link_Word.j0]) ?_
    simp only [if_true]
    exact Ev.now _
  cases hs : s.2.2
  · simp only [Bool.false_eq_true, if_false, false_and]
    exact jt
  · simp only [if_true, true_and]
    by_cases h0 : n < 0
    · simp only [decide_eq_true h0]
      rw [if_neg (by omega)]
      exact jt
    · simp only [decide_eq_false h0]
      rw [if_pos (by omega)]
      have hlt : n < (re.length : Int) := by
        rcases hsp with e | ⟨j, hj, e⟩
        · omega
        · omega
      refine Ev.step (fun k => by rw [link_Word.j0]) ?_
      obtain ⟨r0, r1, r2⟩ := rr_at h3 n
      simp only [Bool.false_eq_true, if_false, if_pos (show 0 ≤ n by omega), if_pos hlt]
      refine Ev.bind (value_ev _ _ _ _ _ _ r0.1 r2) ?_
      unfold putR
      have hv := valR_lt (rd_T53 re n).f0 (rd_T53 re n).f2 pc pd slots h4
      by_cases hz : (valR (rd_T53 re n).f0 (rd_T53 re n).f2 pc pd slots).2 = 0
      · simp only [if_pos hz]
        have ha := apply_ev (rawR mc md i).toNat (rd_T53 re n).f0 (valR (rd_T53 re n).f0 (rd_T53 re n).f2 pc pd slots).1 (by omega) r0.1 hv
        rw [Int.toNat_of_nonneg hw.1] at ha
        exact Ev.bind ha (Ev.now _)
      · simp only [if_neg hz]
        exact Ev.now _
theorem inCode_f (k : Int) (h : 0 ≤ k ∧ k ≤ 7) : budwoodref11_InCode.f k = some (!isData k) := by
  have hc : k = 0 ∨ k = 1 ∨ k = 2 ∨ k = 3 ∨ k = 4 ∨ k = 5 ∨ k = 6 ∨ k = 7 := by omega
  unfold budwoodref11_InCode.f isData
  rcases hc with h | h | h | h | h | h | h | h <;> subst h <;> simp
theorem inCode_some (k : Int) : ∃ b, budwoodref11_InCode.f k = some b := by
  unfold budwoodref11_InCode.f
  repeat' split
  all_goals exact ⟨_, rfl⟩
theorem refWord_l0 (nm : ByteArray) (ex im : List ByteArray) (mc md : List Int) (re : List S53) (pc pd : Int) (slots : List Int) (w : Int) (code : Bool) (at_ : Int) (hr : re.length < 4611686018427387904) (hw : 0 ≤ w ∧ w < 4294967296) (h3 : RR re) (h4 : RW slots) :
    ∀ (d i : Nat), i + d = re.length → Ev (fun k => budwoodref16_Word.l0 k slots w code at_ true (i : Int) nm ex im mc md re pc pd)
      (if 0 ≤ Lib.idxByFrom (fun _ y => lkPred at_ code y) z53 (re.drop i) i then putR w (rd_T53 re (Lib.idxByFrom (fun _ y => lkPred at_ code y) z53 (re.drop i) i)) pc pd slots else (w, 0)) := by
  intro d
  induction d with
  | zero =>
    intro i hi
    refine Ev.step (fun k => by rw [budwoodref16_Word.l0]) ?_
    simp only [if_neg (show ¬ (i : Int) < (re.length : Int) by omega)]
    rw [List.drop_of_length_le (by omega)]
    refine Ev.step (fun k => by rw [budwoodref16_Word.j1]) ?_
    simp only [Bool.false_eq_true, if_false]
    exact Ev.now _
  | succ d ih =>
    intro i hi
    have hlt : i < re.length := by omega
    refine Ev.step (fun k => by rw [budwoodref16_Word.l0]) ?_
    simp only [if_pos (show (i : Int) < (re.length : Int) by omega)]
    refine Ev.step (fun k => by rw [budwoodref16_Word.j1]) ?_
    obtain ⟨r0, r1, r2⟩ := rr_at h3 (i : Int)
    have hel : rd_T53 re (i : Int) = re[i] := by unfold rd_T53; rw [Int.toNat_natCast, List.getD_eq_getElem?_getD, List.getElem?_eq_getElem hlt]; rfl
    simp only [if_true, if_pos (show 0 ≤ (i : Int) by omega), if_pos (show (i : Int) < (re.length : Int) by omega)]
    have skip : ¬ lkPred at_ code re[i] = true → Ev (fun k => budwoodref16_Word.j2 k slots w code at_ true (i : Int) true nm ex im mc md re pc pd (rd_T53 re (i : Int)).f0 (rd_T53 re (i : Int)).f1 (rd_T53 re (i : Int)).f2)
        (if 0 ≤ Lib.idxByFrom (fun _ y => lkPred at_ code y) z53 (re.drop i) i then putR w (rd_T53 re (Lib.idxByFrom (fun _ y => lkPred at_ code y) z53 (re.drop i) i)) pc pd slots else (w, 0)) := fun hn => by
      refine Ev.step (fun k => by rw [budwoodref16_Word.j2]) ?_
      simp only [if_true, w64 (show -9223372036854775808 ≤ (i : Int) + 1 by omega) (by omega)]
      have := ih (i + 1) (by omega)
      rw [List.drop_eq_getElem_cons hlt]
      rw [show Lib.idxByFrom (fun _ y => lkPred at_ code y) z53 (re[i] :: re.drop (i + 1)) i = Lib.idxByFrom (fun _ y => lkPred at_ code y) z53 (re.drop (i + 1)) (i + 1) from if_neg hn]
      exact this
    obtain ⟨b, hb⟩ := inCode_some (rd_T53 re (i : Int)).f0
    by_cases c1 : wrap64 (rd_T53 re (i : Int)).f1 = at_
    · simp only [if_pos c1, hb, Option.bind_some]
      by_cases c2 : (b != code) = true
      · simp only [if_pos c2]
        refine skip fun hp => ?_
        unfold lkPred at hp
        rw [← hel] at hp
        simp only [Bool.and_eq_true, decide_eq_true_eq] at hp
        have := inCode_f _ ⟨r0.1, hp.2⟩
        rw [hb] at this
        have e := Option.some.inj this
        rw [e] at c2
        have c3 := hp.1.2
        revert c2 c3
        cases isData (rd_T53 re (i : Int)).f0 <;> cases code <;> simp
      · simp only [if_neg c2]
        by_cases c3 : (rd_T53 re (i : Int)).f0 > 7
        · simp only [decide_eq_true c3]
          refine skip fun hp => ?_
          unfold lkPred at hp
          rw [← hel] at hp
          simp only [Bool.and_eq_true, decide_eq_true_eq] at hp
          omega
        · simp only [decide_eq_false c3]
          have hin := inCode_f _ ⟨r0.1, by omega⟩
          rw [hb] at hin
          have e := Option.some.inj hin
          have hp : lkPred at_ code re[i] = true := by
            unfold lkPred
            rw [← hel]
            simp only [Bool.and_eq_true, decide_eq_true_eq]
            refine ⟨⟨beq_iff_eq.mpr c1, ?_⟩, by omega⟩
            rw [e] at c2
            revert c2
            cases isData (rd_T53 re (i : Int)).f0 <;> cases code <;> simp
          rw [List.drop_eq_getElem_cons hlt]
          rw [show Lib.idxByFrom (fun _ y => lkPred at_ code y) z53 (re[i] :: re.drop (i + 1)) i = (i : Int) from if_pos hp]
          rw [if_pos (show 0 ≤ (i : Int) by omega)]
          refine Ev.step (fun k => by rw [budwoodref16_Word.j2]) ?_
          simp only [Bool.false_eq_true, if_false]
          refine Ev.bind (refValue_ev _ _ _ _ _ _ r0.1 r2) ?_
          unfold putR
          have hv := valR_lt (rd_T53 re (i : Int)).f0 (rd_T53 re (i : Int)).f2 pc pd slots h4
          by_cases hz : (valR (rd_T53 re (i : Int)).f0 (rd_T53 re (i : Int)).f2 pc pd slots).2 = 0
          · simp only [if_pos hz]
            have ha := refApply_ev w.toNat (rd_T53 re (i : Int)).f0 (valR (rd_T53 re (i : Int)).f0 (rd_T53 re (i : Int)).f2 pc pd slots).1 (by omega) r0.1 hv
            rw [Int.toNat_of_nonneg hw.1] at ha
            exact Ev.bind ha (Ev.now _)
          · simp only [if_neg hz]
            exact Ev.now _
    · simp only [if_neg c1]
      refine skip fun hp => ?_
      unfold lkPred at hp
      rw [← hel] at hp
      simp only [Bool.and_eq_true, decide_eq_true_eq] at hp
      exact c1 (beq_iff_eq.mp hp.1.1)
theorem refWord_ev (nm : ByteArray) (ex im : List ByteArray) (mc md : List Int) (re : List S53) (pc pd : Int) (slots : List Int) (i : Int) (hc : mc.length < 4611686018427387904) (hr : re.length < 4611686018427387904) (hi : -9223372036854775808 ≤ i ∧ i < 9223372036854775808)
    (h1 : RW mc) (h2 : RW md) (h3 : RR re) (h4 : RW slots) : Ev (fun k => budwoodref16_Word.f k nm ex im mc md re pc pd slots i) (wordR mc md re pc pd slots i) := by
  unfold budwoodref16_Word.f wordR
  refine Ev.bind (refRaw_ev nm ex im mc md re i hc hi) (Ev.bind (refSpot_ev nm ex im mc md re i hc hi) ?_)
  have hw := rawR_lt h1 h2 i
  generalize spotR mc.length md.length i = s
  cases hs : s.2.2
  · simp only [Bool.false_eq_true, false_and, if_false]
    refine Ev.step (fun k => by rw [budwoodref16_Word.l0]) ?_
    have : ∀ k, (if (0 : Int) < (re.length : Int) then budwoodref16_Word.j1 k slots (rawR mc md i) s.1 s.2.1 false 0 false nm ex im mc md re pc pd else budwoodref16_Word.j1 k slots (rawR mc md i) s.1 s.2.1 false 0 false nm ex im mc md re pc pd) = budwoodref16_Word.j1 k slots (rawR mc md i) s.1 s.2.1 false 0 false nm ex im mc md re pc pd := fun k => by split <;> rfl
    simp only [this]
    refine Ev.step (fun k => by rw [budwoodref16_Word.j1]) ?_
    simp only [Bool.false_eq_true, if_false]
    exact Ev.now _
  · simp only [true_and]
    exact refWord_l0 nm ex im mc md re pc pd slots (rawR mc md i) s.1 s.2.1 hr hw h3 h4 re.length 0 (by omega)

/-! ### the size -/
theorem size_l0 (xs : List Int) (hx : ∀ x ∈ xs, 0 ≤ x) (hl : xs.length = 4) : ∀ (d i : Nat) (s : Int), i + d = 4 → 0 ≤ s →
    ∃ r, Ev (fun k => budwoodref10_Size.l0 k s xs (i : Int)) r ∧ s ≤ r ∧ (r ≤ 2000 → ∀ j, i ≤ j → j < 4 → rd xs (j : Int) ≤ 2000) := by
  intro d
  induction d with
  | zero =>
    intro i s hi hs
    refine ⟨s, ?_, Int.le_refl _, fun _ j h1 h2 => by omega⟩
    refine Ev.step (fun k => by rw [budwoodref10_Size.l0]) ?_
    simp only [if_neg (show ¬ (i : Int) < 4 by omega)]
    exact Ev.now _
  | succ d ih =>
    intro i s hi hs
    by_cases h : s ≤ 65536
    · have hx0 : 0 ≤ rd xs (i : Int) := by
        unfold rd
        rw [List.getD_eq_getElem?_getD]
        cases hh : xs[(i : Int).toNat]? with
        | none => simp
        | some x => exact hx x (List.mem_of_getElem? hh)
      have hm : 0 ≤ mn (rd xs (i : Int)) 65536 ∧ mn (rd xs (i : Int)) 65536 ≤ 65536 ∧ (mn (rd xs (i : Int)) 65536 ≤ 2000 → rd xs (i : Int) ≤ 2000) := by unfold mn; split <;> omega
      obtain ⟨r, e, hr1, hr2⟩ := ih (i + 1) (s + mn (rd xs (i : Int)) 65536) (by omega) (by omega)
      refine ⟨r, ?_, by omega, fun hle j h1 h2 => ?_⟩
      · refine Ev.step (fun k => by rw [budwoodref10_Size.l0]) ?_
        simp only [if_pos (show (i : Int) < 4 by omega), if_pos h, if_pos (show 0 ≤ (i : Int) by omega), hl, if_pos (show (i : Int) < ((4 : Nat) : Int) by omega),
          w64 (x := s + mn (rd xs (i : Int)) 65536) (by omega) (by omega), w64 (x := (i : Int) + 1) (by omega) (by omega)]
        exact e
      · by_cases hj : j = i
        · subst hj; exact hm.2.2 (by omega)
        · exact hr2 hle j (by omega) h2
    · refine ⟨s, ?_, Int.le_refl _, fun hle => by omega⟩
      refine Ev.step (fun k => by rw [budwoodref10_Size.l0]) ?_
      simp only [if_pos (show (i : Int) < 4 by omega), if_neg h]
      exact Ev.now _
theorem size_ev (nm : ByteArray) (ex im : List ByteArray) (mc md : List Int) (re : List S53) : ∃ r, Ev (fun k => budwoodref10_Size.f k nm ex im mc md re) r ∧ (r ≤ 2000 → mc.length ≤ 2000 ∧ md.length ≤ 2000 ∧ re.length ≤ 2000 ∧ ex.length ≤ 2000 ∧ im.length ≤ 2000) := by
  obtain ⟨r, e, h1, h2⟩ := size_l0 [(im.length : Int), (mc.length : Int), (md.length : Int), (re.length : Int)] (by simp) rfl 4 0 (ex.length : Int) (by omega) (by omega)
  refine ⟨r, e, fun hle => ?_⟩
  have a0 := h2 hle 0 (by omega) (by omega)
  have a1 := h2 hle 1 (by omega) (by omega)
  have a2 := h2 hle 2 (by omega) (by omega)
  have a3 := h2 hle 3 (by omega) (by omega)
  have b0 : (im.length : Int) ≤ 2000 := a0
  have b1 : (mc.length : Int) ≤ 2000 := a1
  have b2 : (md.length : Int) ≤ 2000 := a2
  have b3 : (re.length : Int) ≤ 2000 := a3
  omega
set_option maxRecDepth 100000 in
theorem awake_ev : Ev (fun k => budwoodlaw16_awake.f k) true := Ev.of (budwoodlaw16_awake.mono) (k := 60) (by decide +kernel)
theorem awake_end : Ev (fun k => (budwoodlaw16_awake.f k).bind fun t => some t) true := Ev.bind awake_ev (Ev.now _)
theorem words_ev (nm : ByteArray) (ex im : List ByteArray) (mc md : List Int) (re : List S53) (pc pd : Int) (slots : List Int) (i : Int) (hi : -9223372036854775808 ≤ i ∧ i < 9223372036854775808)
    (h1 : RW mc) (h2 : RW md) (h3 : RR re) (h4 : RW slots) : Ev (fun k => budwoodlaw16_LinkWords.f k nm ex im mc md re pc pd slots i) true := by
  unfold budwoodlaw16_LinkWords.f
  obtain ⟨r, e, hr⟩ := size_ev nm ex im mc md re
  refine Ev.bind e ?_
  by_cases h : r > 2000
  · simp only [if_pos h]
    exact awake_end
  · obtain ⟨l1, l2, l3, _⟩ := hr (by omega)
    simp only [if_neg h]
    refine Ev.bind (word_ev nm ex im mc md re pc pd slots i (by omega) (by omega) hi h1 h2 h3 h4) (Ev.bind (refWord_ev nm ex im mc md re pc pd slots i (by omega) (by omega) hi h1 h2 h3 h4) ?_)
    simp only [if_true]
    exact awake_end
end Go.Proofs.Ytllkloneapjgjaa.Wd
