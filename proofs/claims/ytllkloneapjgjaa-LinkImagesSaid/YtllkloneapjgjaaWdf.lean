import Derived.Test.YtllkloneapjgjaaWd
import Derived.Test.YtllkloneapjgjaaPxf
/- Words, pure: both sides' functions on bits tell one thing. -/
namespace Go.Proofs.Ytllkloneapjgjaa.Wd
open Go.Lib Go.RowKit Go.Proofs.YtllkloneapjgjaaW.PrintWords Go.Proofs.YtllkloneapjgjaaW.PrintMore Go.Proofs.Ytllkloneapjgjaa.P
set_option linter.unusedVariables false

theorem w64 {x : Int} (h₀ : -9223372036854775808 ≤ x) (h₁ : x < 9223372036854775808) : wrap64 x = x := by unfold wrap64; omega
theorem u64 {x : Int} (h₀ : 0 ≤ x) (h₁ : x < 18446744073709551616) : IntKind.u64.wrap x = x := by
  have : IntKind.u64.wrap x = x % 18446744073709551616 := by simp [IntKind.wrap, IntKind.bits, IntKind.signed]
  rw [this]; omega
theorem may_f (a n : Nat) (h : a + n ≤ 32) : word_may.f (a : Int) (n : Int) = some true := by
  unfold word_may.f
  rw [if_pos (by omega), if_pos (by omega), if_pos (by omega), w64 (by omega) (by omega), decide_eq_true (by omega)]
theorem refMay_f (a n : Nat) (h : a + n ≤ 32) : budwoodref01_May.f (a : Int) (n : Int) = some true := by
  unfold budwoodref01_May.f
  rw [if_pos (by omega), if_pos (by omega), if_pos (by omega), w64 (by omega) (by omega), decide_eq_true (by omega)]
theorem mask_f (n : Nat) (h : n ≤ 32) : word_mask.f (n : Int) = some ((maskN n : Nat) : Int) := by
  unfold word_mask.f
  rw [if_pos (by omega), show (1 : Int) = ((1 : Nat) : Int) from rfl, shl_nat 1 n h, Nat.one_shiftLeft]
  have h1 := Nat.pow_le_pow_right (n := 2) (by decide) h
  have h2 := Nat.two_pow_pos n
  unfold maskN
  congr 1
  rcases Nat.lt_or_ge n 32 with h3 | h3
  · have h4 := Nat.pow_lt_pow_right (a := 2) (by decide) h3
    rw [Nat.mod_eq_of_lt h4]
    omega
  · have : n = 32 := by omega
    subst this
    decide
theorem with_f (w at_ n v : Nat) (hw : w < 2 ^ 32) (hv : v < 2 ^ 32) (h : at_ + n ≤ 32) : word_With.f (w : Int) (at_ : Int) (n : Int) (v : Int) = some ((withN w at_ n v : Nat) : Int) := by
  unfold word_With.f withN
  have hm := maskN_lt n (by omega)
  rw [may_f at_ n h]
  simp only [Option.bind_some, if_true, mask_f n (by omega)]
  rw [if_pos (by omega), shl_nat _ _ (by omega), and_nat v _ hv hm, shl_nat _ _ (by omega), andNot_nat _ _ hw (Nat.mod_lt _ (by decide)), or_nat _ _ (ndN_lt _ _) (Nat.mod_lt _ (by decide))]
theorem bits_f (w at_ n : Nat) (hw : w < 2 ^ 32) (h : at_ + n ≤ 32) : word_Bits.f (w : Int) (at_ : Int) (n : Int) = some ((bitsN w at_ n : Nat) : Int) := by
  unfold word_Bits.f bitsN
  have hm := maskN_lt n (by omega)
  rw [may_f at_ n h]
  simp only [Option.bind_some, if_true, mask_f n (by omega)]
  have hs : w >>> at_ < 2 ^ 32 := by rw [Nat.shiftRight_eq_div_pow]; exact Nat.lt_of_le_of_lt (Nat.div_le_self _ _) hw
  rw [if_pos (by omega), shr_nat _ _ (by omega), and_nat _ _ hs hm]
theorem refBit_f (w i : Nat) (hw : w < 2 ^ 32) (hi : i < 32) : budwoodref01_bit.f (w : Int) (i : Int) = some ((w.testBit i).toNat : Int) := by
  unfold budwoodref01_bit.f
  have hs : w >>> i < 2 ^ 32 := by rw [Nat.shiftRight_eq_div_pow]; exact Nat.lt_of_le_of_lt (Nat.div_le_self _ _) hw
  rw [u64 (by omega) (by omega), if_pos (by omega), shr_nat _ _ (by omega), show (1 : Int) = ((1 : Nat) : Int) from rfl, and_nat _ _ hs (by decide), bit_one]
theorem put_f (acc i : Nat) (t : Bool) (h : acc < 2 ^ i) (hi : i < 32) : Go.bits .or .u32 (acc : Int) (shl .u32 ((t.toNat : Nat) : Int) (IntKind.u64.wrap (i : Int))) = ((acc ||| (t.toNat <<< i) : Nat) : Int) ∧ acc ||| (t.toNat <<< i) < 2 ^ (i + 1) := by
  have h2 : acc ||| (t.toNat <<< i) < 2 ^ (i + 1) := lt_of_bits fun j hj => by rw [put_bit acc i t j h, if_neg (by omega), bit_out h (by omega)]
  have h4 := Nat.pow_le_pow_right (n := 2) (by decide) (show i + 1 ≤ 32 by omega)
  have h5 := Nat.pow_le_pow_right (n := 2) (by decide) (show i ≤ 32 by omega)
  have h3 : t.toNat <<< i < 2 ^ 32 := Nat.lt_of_le_of_lt (Nat.right_le_or (n := acc)) (Nat.lt_of_lt_of_le h2 h4)
  rw [u64 (by omega) (by omega), shl_nat _ _ (by omega), Nat.mod_eq_of_lt h3, or_nat _ _ (by omega) h3]
  exact ⟨rfl, h2⟩
theorem refBits_l0 (w at_ n : Nat) (hw : w < 2 ^ 32) (h : at_ + n ≤ 32) : ∀ (d i acc : Nat), i + d = n → acc < 2 ^ i → (∀ j, acc.testBit j = (decide (j < i) && w.testBit (at_ + j))) →
    Ev (fun k => budwoodref01_Bits.l0 k (w : Int) (at_ : Int) (n : Int) (acc : Int) (i : Int)) ((bitsN w at_ n : Nat) : Int) := by
  intro d
  induction d with
  | zero =>
    intro i acc hi ha hb
    refine Ev.step (fun k => by rw [budwoodref01_Bits.l0]) ?_
    simp only [if_neg (show ¬ (i : Int) < (n : Int) by omega)]
    have : acc = bitsN w at_ n := Nat.eq_of_testBit_eq fun j => by rw [hb, bitsN_bit, show i = n by omega]
    rw [this]
    exact Ev.now _
  | succ d ih =>
    intro i acc hi ha hb
    refine Ev.step (fun k => by rw [budwoodref01_Bits.l0]) ?_
    obtain ⟨p1, p2⟩ := put_f acc i (w.testBit (at_ + i)) ha (by omega)
    have e : wrap64 ((at_ : Int) + (i : Int)) = ((at_ + i : Nat) : Int) := by rw [w64 (by omega) (by omega)]; simp
    simp only [if_pos (show (i : Int) < (n : Int) by omega), e, refBit_f w (at_ + i) hw (by omega), Option.bind_some, u64 (show (0 : Int) ≤ (i : Int) by omega) (by omega), if_pos (show (0 : Int) ≤ (i : Int) by omega)]
    rw [u64 (by omega) (by omega)] at p1
    simp only [p1, w64 (show -9223372036854775808 ≤ (i : Int) + 1 by omega) (by omega)]
    refine ih (i + 1) _ (by omega) p2 fun j => ?_
    rw [put_bit acc i _ j ha, hb]
    by_cases hj : j = i
    · subst hj; rw [if_pos rfl, decide_eq_true (show j < j + 1 by omega)]; rfl
    · rw [if_neg hj]
      by_cases h1 : j < i
      · rw [decide_eq_true h1, decide_eq_true (show j < i + 1 by omega)]
      · rw [decide_eq_false h1, decide_eq_false (show ¬ j < i + 1 by omega)]
theorem refBits_ev (w at_ n : Nat) (hw : w < 2 ^ 32) (h : at_ + n ≤ 32) : Ev (fun k => budwoodref01_Bits.f k (w : Int) (at_ : Int) (n : Int)) ((bitsN w at_ n : Nat) : Int) := by
  unfold budwoodref01_Bits.f
  rw [refMay_f at_ n h]
  simp only [Option.bind_some, if_true]
  exact refBits_l0 w at_ n hw h n 0 0 (by omega) (by decide) (fun j => by simp)
theorem refWith_l0 (w at_ n v : Nat) (hw : w < 2 ^ 32) (hv : v < 2 ^ 32) (h : at_ + n ≤ 32) : ∀ (d i acc : Nat), i + d = 32 → acc < 2 ^ i → (∀ j, acc.testBit j = (decide (j < i) && if at_ ≤ j ∧ j < at_ + n then v.testBit (j - at_) else w.testBit j)) →
    Ev (fun k => budwoodref01_With.l0 k (w : Int) (at_ : Int) (n : Int) (v : Int) (acc : Int) (i : Int)) ((withN w at_ n v : Nat) : Int) := by
  intro d
  induction d with
  | zero =>
    intro i acc hi ha hb
    refine Ev.step (fun k => by rw [budwoodref01_With.l0]) ?_
    simp only [if_neg (show ¬ (i : Int) < 32 by omega)]
    have hi2 : i = 32 := by omega
    subst hi2
    have : acc = withN w at_ n v := word_ext ha (withN_lt _ _ _ _) fun j hj => by rw [hb, withN_bit _ _ _ _ _ hw h hj, decide_eq_true hj, Bool.true_and]
    rw [this]
    exact Ev.now _
  | succ d ih =>
    intro i acc hi ha hb
    refine Ev.step (fun k => by rw [budwoodref01_With.l0]) ?_
    simp only [if_pos (show (i : Int) < 32 by omega), w64 (show -9223372036854775808 ≤ (at_ : Int) + (n : Int) by omega) (by omega)]
    have go : ∀ t : Bool, t = (if at_ ≤ i ∧ i < at_ + n then v.testBit (i - at_) else w.testBit i) →
        Ev (fun k => if 0 ≤ (IntKind.u64.wrap (i : Int)) then (budwoodref01_With.l0 k (w : Int) (at_ : Int) (n : Int) (v : Int) (Go.bits .or .u32 (acc : Int) (shl .u32 ((t.toNat : Nat) : Int) (IntKind.u64.wrap (i : Int)))) (wrap64 ((i : Int) + 1))) else none) ((withN w at_ n v : Nat) : Int) := fun t ht => by
      obtain ⟨p1, p2⟩ := put_f acc i t ha (by omega)
      simp only [p1, w64 (show -9223372036854775808 ≤ (i : Int) + 1 by omega) (show (i : Int) + 1 < 9223372036854775808 by omega), if_pos (show 0 ≤ IntKind.u64.wrap (i : Int) by rw [u64 (by omega) (by omega)]; omega)]
      refine ih (i + 1) _ (by omega) p2 fun j => ?_
      rw [put_bit acc i _ j ha, hb]
      by_cases hj : j = i
      · subst hj; rw [if_pos rfl, decide_eq_true (show j < j + 1 by omega), ht]; rfl
      · rw [if_neg hj]
        by_cases h1 : j < i
        · rw [decide_eq_true h1, decide_eq_true (show j < i + 1 by omega)]
        · rw [decide_eq_false h1, decide_eq_false (show ¬ j < i + 1 by omega), Bool.false_and]
    by_cases h1 : at_ ≤ i
    · simp only [if_pos (show (i : Int) ≥ (at_ : Int) by omega)]
      by_cases h2 : i < at_ + n
      · simp only [decide_eq_true (show (i : Int) < (at_ : Int) + (n : Int) by omega)]
        refine Ev.step (fun k => by rw [budwoodref01_With.j1]) ?_
        have e : wrap64 ((i : Int) - (at_ : Int)) = ((i - at_ : Nat) : Int) := by rw [w64 (by omega) (by omega)]; omega
        simp only [if_true, e, refBit_f v (i - at_) hv (by omega), Option.bind_some]
        exact go _ (by rw [if_pos ⟨h1, h2⟩])
      · simp only [decide_eq_false (show ¬ (i : Int) < (at_ : Int) + (n : Int) by omega)]
        refine Ev.step (fun k => by rw [budwoodref01_With.j1]) ?_
        simp only [Bool.false_eq_true, if_false, refBit_f w i hw (by omega), Option.bind_some]
        exact go _ (by rw [if_neg (fun h => h2 h.2)])
    · simp only [if_neg (show ¬ (i : Int) ≥ (at_ : Int) by omega)]
      refine Ev.step (fun k => by rw [budwoodref01_With.j1]) ?_
      simp only [Bool.false_eq_true, if_false, refBit_f w i hw (by omega), Option.bind_some]
      exact go _ (by rw [if_neg (fun h => h1 h.1)])
theorem refWith_ev (w at_ n v : Nat) (hw : w < 2 ^ 32) (hv : v < 2 ^ 32) (h : at_ + n ≤ 32) : Ev (fun k => budwoodref01_With.f k (w : Int) (at_ : Int) (n : Int) (v : Int)) ((withN w at_ n v : Nat) : Int) := by
  unfold budwoodref01_With.f
  rw [refMay_f at_ n h]
  simp only [Option.bind_some, if_true]
  exact refWith_l0 w at_ n v hw hv h 32 0 0 (by omega) (by decide) (fun j => by simp)
/-! ### numbers with a sign, their lowest bits -/
/-- The lowest 21 bits of a number. -/
def cutN (v : Int) : Nat := (v % 2097152).toNat
theorem cutN_lt (v : Int) : cutN v < 2 ^ 21 := by unfold cutN; omega
theorem low32 (v : Int) : v % 4294967296 = (((v % 4294967296).toNat : Nat) : Int) := by omega
theorem cut_bits (v : Int) : bitsN (v % 4294967296).toNat 0 21 = cutN v := by rw [bitsN_mod]; unfold cutN; omega
theorem cut_f (v : Int) : word_Cut.f v 21 = some ((cutN v : Nat) : Int) := by
  unfold word_Cut.f
  rw [if_neg (by omega), show mn 21 32 = ((21 : Nat) : Int) by decide, mask_f 21 (by decide)]
  simp only [Option.bind_some]
  have hl : (v % 4294967296).toNat < 2 ^ 32 := by omega
  rw [low32, and_nat _ _ hl (maskN_lt 21 (by decide)), ← cut_bits]
  rfl
theorem refCut_ev (v : Int) : Ev (fun k => budwoodref01_Cut.f k v 21) ((cutN v : Nat) : Int) := by
  unfold budwoodref01_Cut.f
  simp only [if_neg (show ¬ (21 : Int) < 1 by omega), show mn 21 32 = ((21 : Nat) : Int) by decide]
  rw [low32, ← cut_bits]
  exact Ev.bind (refBits_ev (v % 4294967296).toNat 0 21 (by omega) (by decide)) (Ev.now _)
/-- The lowest 21 bits of a word, as a number with a sign. -/
def signN (w : Nat) : Int := if w % 2097152 < 1048576 then ((w % 2097152 : Nat) : Int) else ((w % 2097152 : Nat) : Int) - 2097152
theorem signed_f (w : Nat) (hw : w < 2 ^ 32) : word_Signed.f (w : Int) 21 = some (signN w) := by
  unfold word_Signed.f
  have e : wrap64 (32 - 21) = ((11 : Nat) : Int) := by unfold wrap64; decide
  rw [if_neg (by omega), if_neg (by omega), e, if_pos (by omega), shl_nat _ _ (by decide)]
  congr 1
  unfold shr wrap32 signN
  rw [Int.toNat_natCast, show min 11 IntKind.i32.bits = 11 from rfl, Nat.shiftLeft_eq]
  split <;> omega
theorem bit20 (w : Nat) : (w.testBit 20).toNat = w % 2097152 / 1048576 := by
  rw [Nat.testBit_eq_decide_div_mod_eq]
  by_cases h : w / 2 ^ 20 % 2 = 1
  · rw [decide_eq_true h]; simp; omega
  · rw [decide_eq_false h]; simp; omega
theorem refSigned_ev (w : Nat) (hw : w < 2 ^ 32) : Ev (fun k => budwoodref01_Signed.f k (w : Int) 21) (signN w) := by
  unfold budwoodref01_Signed.f
  simp only [if_neg (show ¬ (21 : Int) < 1 by omega), decide_eq_false (show ¬ (21 : Int) > 32 by omega)]
  refine Ev.step (fun k => by rw [budwoodref01_Signed.j0]) ?_
  simp only [Bool.false_eq_true, if_false]
  refine Ev.bind (refBits_ev w 0 21 hw (by decide)) ?_
  have e : wrap64 (21 - 1) = ((20 : Nat) : Int) := by unfold wrap64; decide
  have hb := bit20 w
  simp only [e, refBit_f w 20 hw (by decide), Option.bind_some, u64 (show (0 : Int) ≤ 21 by omega) (by omega), bitsN_mod, hb]
  unfold signN
  have s21 : shl .i64 1 21 = 2097152 := by unfold shl; rw [IntKind.wrap_i64]; decide
  rw [s21]
  by_cases h : w % 2097152 < 1048576
  · rw [if_pos h]
    simp only [if_neg (show ¬ (((w % 2097152 / 1048576 : Nat)) : Int) = 1 by omega)]
    rw [w64 (by omega) (by omega), show wrap32 (((w % 2 ^ 21 : Nat)) : Int) = ((w % 2097152 : Nat) : Int) by unfold wrap32; omega]
    exact Ev.now _
  · rw [if_neg h]
    simp only [if_pos (show (((w % 2097152 / 1048576 : Nat)) : Int) = 1 by omega), if_pos (show (0 : Int) ≤ 21 by omega)]
    rw [w64 (x := (((w % 2 ^ 21 : Nat)) : Int)) (by omega) (by omega), w64 (by omega) (by omega), show wrap32 ((((w % 2 ^ 21 : Nat)) : Int) - 2097152) = ((w % 2097152 : Nat) : Int) - 2097152 by unfold wrap32; omega]
    exact Ev.now _
/-- Has a number 21 bits? -/
def fits21 (v : Int) : Bool := decide (-1048576 ≤ v ∧ v < 1048576)
theorem fits_f (v : Int) (h0 : -9223372036854775808 ≤ v) (h1 : v < 9223372036854775808) : word_Fits.f v 21 = some (fits21 v) := by
  unfold word_Fits.f
  have e : wrap64 (21 - 1) = 20 := by unfold wrap64; decide
  have s : shr .i64 v 20 = v / 1048576 := by unfold shr; rfl
  rw [if_neg (by omega), if_neg (by omega), e, if_pos (by omega), s]
  unfold fits21
  by_cases h : v / 1048576 = 0
  · rw [if_pos h, decide_eq_true (by omega)]
  · rw [if_neg h]
    congr 1
    rw [Bool.eq_iff_iff, beq_iff_eq, decide_eq_true_iff]
    omega
theorem refFits_f (v : Int) : budwoodref01_Fits.f v 21 = some (fits21 v) := by
  unfold budwoodref01_Fits.f
  have e : IntKind.u64.wrap (wrap64 (21 - 1)) = 20 := by rw [w64 (by omega) (by omega), u64 (by omega) (by omega)]; rfl
  have s : shl .i64 1 20 = 1048576 := by unfold shl; rw [IntKind.wrap_i64]; decide
  rw [if_neg (by omega), if_neg (by omega), e, if_pos (by omega), s, w64 (x := -1048576) (by omega) (by omega), w64 (x := 1048576 - 1) (by omega) (by omega)]
  unfold fits21
  by_cases h : v ≥ -1048576
  · rw [if_pos h]
    congr 1
    rw [Bool.eq_iff_iff, decide_eq_true_iff, decide_eq_true_iff]
    omega
  · rw [if_neg h, decide_eq_false (by omega)]
end Go.Proofs.Ytllkloneapjgjaa.Wd
