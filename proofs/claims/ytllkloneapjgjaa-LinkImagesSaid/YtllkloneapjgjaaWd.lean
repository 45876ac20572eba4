import Derived.Test.YtllkloneapjgjaaV
import Derived.Laws.BitsLemmas
import Derived.WalkKit
/- Words, pure: bits of numbers below 2^32, told by testBit. -/
namespace Go.Proofs.Ytllkloneapjgjaa.Wd
open Go.Lib Go.RowKit Go.Proofs.YtllkloneapjgjaaW.PrintWords Go.Proofs.YtllkloneapjgjaaW.PrintMore
set_option linter.unusedVariables false

theorem wraps_u32 (n : Int) (h₀ : 0 ≤ n) (h₁ : n < 2 ^ 32) : IntKind.u32.wrap n = n := by rw [IntKind.wrap_u32]; omega
theorem and_nat (a b : Nat) (ha : a < 2 ^ 32) (hb : b < 2 ^ 32) : Go.bits .and .u32 (a : Int) (b : Int) = ((a &&& b : Nat) : Int) := (bits_nat .u32 32 (by decide) wraps_u32 a b ha hb).1
theorem or_nat (a b : Nat) (ha : a < 2 ^ 32) (hb : b < 2 ^ 32) : Go.bits .or .u32 (a : Int) (b : Int) = ((a ||| b : Nat) : Int) := (bits_nat .u32 32 (by decide) wraps_u32 a b ha hb).2
/-- What stands in a and not in b. -/
def ndN (a b : Nat) : Nat := (BitVec.ofNat 32 a &&& ~~~ BitVec.ofNat 32 b).toNat
theorem ndN_lt (a b : Nat) : ndN a b < 2 ^ 32 := BitVec.isLt _
theorem andNot_nat (a b : Nat) (ha : a < 2 ^ 32) (hb : b < 2 ^ 32) : Go.bits .andNot .u32 (a : Int) (b : Int) = ((ndN a b : Nat) : Int) := by
  have h : Go.bits .andNot .u32 (a : Int) (b : Int) = IntKind.u32.wrap ((ndN a b : Nat) : Int) := by
    show IntKind.u32.wrap _ = _
    rw [BitVec.ofInt_natCast, BitVec.ofInt_natCast]
    rfl
  rw [h]
  have := ndN_lt a b
  exact wraps_u32 _ (Int.natCast_nonneg _) (by exact_mod_cast this)
theorem ndN_bit (a b : Nat) (ha : a < 2 ^ 32) (hb : b < 2 ^ 32) (i : Nat) (hi : i < 32) : (ndN a b).testBit i = (a.testBit i && !b.testBit i) := by
  unfold ndN
  rw [BitVec.toNat_and, Nat.testBit_and, BitVec.toNat_not, BitVec.toNat_ofNat, BitVec.toNat_ofNat, Nat.mod_eq_of_lt ha, Nat.mod_eq_of_lt hb, show 2 ^ 32 - 1 - b = 2 ^ 32 - (b + 1) by omega, Nat.testBit_two_pow_sub_succ hb]
  simp [hi]
theorem shl_nat (a n : Nat) (hn : n ≤ 32) : shl .u32 (a : Int) (n : Int) = (((a <<< n) % 2 ^ 32 : Nat) : Int) := by
  unfold shl
  rw [Int.toNat_natCast, show min n IntKind.u32.bits = n from Nat.min_eq_left hn, IntKind.wrap_u32, Nat.shiftLeft_eq]
  simp
theorem shr_nat (a n : Nat) (hn : n ≤ 32) : shr .u32 (a : Int) (n : Int) = ((a >>> n : Nat) : Int) := by
  unfold shr
  rw [Int.toNat_natCast, show min n IntKind.u32.bits = n from Nat.min_eq_left hn, Nat.shiftRight_eq_div_pow]
  simp
theorem lt_of_bits {a n : Nat} (h : ∀ i, n ≤ i → a.testBit i = false) : a < 2 ^ n := Nat.lt_pow_two_of_testBit a h
theorem bit_out {a n i : Nat} (h : a < 2 ^ n) (hi : n ≤ i) : a.testBit i = false := Nat.testBit_lt_two_pow (Nat.lt_of_lt_of_le h (Nat.pow_le_pow_right (by decide) hi))
def maskN (n : Nat) : Nat := 2 ^ n - 1
theorem maskN_bit (n i : Nat) : (maskN n).testBit i = decide (i < n) := Nat.testBit_two_pow_sub_one n i
theorem maskN_lt (n : Nat) (h : n ≤ 32) : maskN n < 2 ^ 32 := by
  have := Nat.pow_le_pow_right (n := 2) (by decide) h
  have := Nat.two_pow_pos n
  unfold maskN; omega
theorem and_lt (a b n : Nat) (h : b < 2 ^ n) : a &&& b < 2 ^ n := Nat.and_lt_two_pow a h
theorem or_lt (a b n : Nat) (ha : a < 2 ^ n) (h : b < 2 ^ n) : a ||| b < 2 ^ n := Nat.or_lt_two_pow ha h
/-- A part of a word. -/
def bitsN (w at_ n : Nat) : Nat := (w >>> at_) &&& maskN n
theorem bitsN_bit (w at_ n i : Nat) : (bitsN w at_ n).testBit i = (decide (i < n) && w.testBit (at_ + i)) := by
  unfold bitsN
  rw [Nat.testBit_and, Nat.testBit_shiftRight, maskN_bit, Bool.and_comm]
theorem bitsN_lt (w at_ n : Nat) : bitsN w at_ n < 2 ^ n := lt_of_bits fun i hi => by rw [bitsN_bit, decide_eq_false (by omega)]; rfl
theorem bitsN_mod (w n : Nat) : bitsN w 0 n = w % 2 ^ n := by unfold bitsN maskN; rw [Nat.and_two_pow_sub_one_eq_mod]; rfl
/-- A part put into a word. -/
def withN (w at_ n v : Nat) : Nat := ndN w ((maskN n <<< at_) % 2 ^ 32) ||| (((v &&& maskN n) <<< at_) % 2 ^ 32)
theorem withN_lt (w at_ n v : Nat) : withN w at_ n v < 2 ^ 32 := or_lt _ _ _ (ndN_lt _ _) (Nat.mod_lt _ (by decide))
theorem withN_bit (w at_ n v i : Nat) (hw : w < 2 ^ 32) (h : at_ + n ≤ 32) (hi : i < 32) : (withN w at_ n v).testBit i = if at_ ≤ i ∧ i < at_ + n then v.testBit (i - at_) else w.testBit i := by
  unfold withN
  rw [Nat.testBit_or, ndN_bit _ _ hw (Nat.mod_lt _ (by decide)) _ hi, Nat.testBit_mod_two_pow, Nat.testBit_mod_two_pow, Nat.testBit_shiftLeft, Nat.testBit_shiftLeft, Nat.testBit_and, maskN_bit]
  rw [decide_eq_true hi]
  by_cases h1 : at_ ≤ i
  · by_cases h2 : i < at_ + n
    · rw [if_pos ⟨h1, h2⟩, decide_eq_true (show i ≥ at_ from h1), decide_eq_true (show i - at_ < n by omega)]
      simp
    · rw [if_neg (fun h => h2 h.2), decide_eq_true (show i ≥ at_ from h1), decide_eq_false (show ¬ i - at_ < n by omega)]
      simp
  · rw [if_neg (fun h => h1 h.1), decide_eq_false (show ¬ i ≥ at_ from h1)]
    simp
theorem word_ext {a b : Nat} (ha : a < 2 ^ 32) (hb : b < 2 ^ 32) (h : ∀ i, i < 32 → a.testBit i = b.testBit i) : a = b := by
  refine Nat.eq_of_testBit_eq fun i => ?_
  by_cases hi : i < 32
  · exact h i hi
  · rw [bit_out ha (by omega), bit_out hb (by omega)]
/-- Bit i set by or, above all that stand. -/
theorem put_bit (acc i : Nat) (t : Bool) (j : Nat) (h : acc < 2 ^ i) : (acc ||| ((t.toNat <<< i))).testBit j = if j = i then t else acc.testBit j := by
  rw [Nat.testBit_or, Nat.testBit_shiftLeft]
  by_cases hj : j = i
  · subst hj
    rw [if_pos rfl, bit_out h (Nat.le_refl _), Nat.sub_self]
    cases t <;> simp
  · rw [if_neg hj]
    by_cases h1 : j ≥ i
    · obtain ⟨d, hd⟩ : ∃ d, j - i = d + 1 := ⟨j - i - 1, by omega⟩
      rw [hd, decide_eq_true h1]
      cases t <;> simp [Nat.testBit_succ]
    · rw [decide_eq_false h1]; simp
theorem bit_one (w i : Nat) : (w >>> i) &&& 1 = (w.testBit i).toNat := by
  rw [Nat.testBit, Nat.and_comm]
  have : 1 &&& (w >>> i) = (w >>> i) % 2 := by rw [Nat.and_comm, show (1 : Nat) = 2 ^ 1 - 1 from rfl, Nat.and_two_pow_sub_one_eq_mod]
  rw [this]
  rcases Nat.mod_two_eq_zero_or_one (w >>> i) with h | h <;> rw [h] <;> rfl
end Go.Proofs.Ytllkloneapjgjaa.Wd
