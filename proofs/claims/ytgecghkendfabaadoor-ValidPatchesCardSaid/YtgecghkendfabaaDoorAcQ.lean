import Derived.Laws.BitsLemmas
import Derived.WalkKit
import Derived.RowKit
/- Words and instructions, pure. No program. -/
namespace Go.Wd
open Go.RowKit
set_option linter.unusedVariables false
def shl (k : IntKind) (x y : Int) : Int := k.wrap (x * 2 ^ min y.toNat k.bits)
def shr (k : IntKind) (x y : Int) : Int := x / 2 ^ min y.toNat k.bits
theorem wraps_u32 (n : Int) (h₀ : 0 ≤ n) (h₁ : n < 2 ^ 32) : IntKind.u32.wrap n = n := by rw [IntKind.wrap_u32]; omega
theorem and_nat (a b : Nat) (ha : a < 2 ^ 32) (hb : b < 2 ^ 32) : Go.bits .and .u32 (a : Int) (b : Int) = ((a &&& b : Nat) : Int) := (bits_nat .u32 32 (by decide) wraps_u32 a b ha hb).1
theorem or_nat (a b : Nat) (ha : a < 2 ^ 32) (hb : b < 2 ^ 32) : Go.bits .or .u32 (a : Int) (b : Int) = ((a ||| b : Nat) : Int) := (bits_nat .u32 32 (by decide) wraps_u32 a b ha hb).2
/-- What stands in a and not in b. -/
def ndN (a b : Nat) : Nat := (BitVec.ofNat 32 a &&& ~~~ BitVec.ofNat 32 b).toNat
theorem ndN_lt (a b : Nat) : ndN a b < 2 ^ 32 := BitVec.isLt _
theorem andNot_nat (a b : Nat) (ha : a < 2 ^ 32) (hb : b < 2 ^ 32) : Go.bits .andNot .u32 (a : Int) (b : Int) = ((ndN a b : Nat) : Int) := by
  have h : Go.bits .andNot .u32 (a : Int) (b : Int) = IntKind.u32.wrap ((ndN a b : Nat) : Int) := by
    show IntKind.u32.wrap _ = _
    rw [BitVec.ofInt_natCast, BitVec.ofInt_natCast]
    rfl
  rw [h]
  have := ndN_lt a b
  exact wraps_u32 _ (Int.natCast_nonneg _) (by exact_mod_cast this)
theorem ndN_bit (a b : Nat) (ha : a < 2 ^ 32) (hb : b < 2 ^ 32) (i : Nat) (hi : i < 32) : (ndN a b).testBit i = (a.testBit i && !b.testBit i) := by
  unfold ndN
  rw [BitVec.toNat_and, Nat.testBit_and, BitVec.toNat_not, BitVec.toNat_ofNat, BitVec.toNat_ofNat, Nat.mod_eq_of_lt ha, Nat.mod_eq_of_lt hb, show 2 ^ 32 - 1 - b = 2 ^ 32 - (b + 1) by omega, Nat.testBit_two_pow_sub_succ hb]
  simp [hi]
theorem shl_nat (a n : Nat) (hn : n ≤ 32) : shl .u32 (a : Int) (n : Int) = (((a <<< n) % 2 ^ 32 : Nat) : Int) := by
  unfold shl
  rw [Int.toNat_natCast, show min n IntKind.u32.bits = n from Nat.min_eq_left hn, IntKind.wrap_u32, Nat.shiftLeft_eq]
  simp
theorem shr_nat (a n : Nat) (hn : n ≤ 32) : shr .u32 (a : Int) (n : Int) = ((a >>> n : Nat) : Int) := by
  unfold shr
  rw [Int.toNat_natCast, show min n IntKind.u32.bits = n from Nat.min_eq_left hn, Nat.shiftRight_eq_div_pow]
  simp
theorem lt_of_bits {a n : Nat} (h : ∀ i, n ≤ i → a.testBit i = false) : a < 2 ^ n := Nat.lt_pow_two_of_testBit a h
theorem bit_out {a n i : Nat} (h : a < 2 ^ n) (hi : n ≤ i) : a.testBit i = false := Nat.testBit_lt_two_pow (Nat.lt_of_lt_of_le h (Nat.pow_le_pow_right (by decide) hi))
def maskN (n : Nat) : Nat := 2 ^ n - 1
theorem maskN_bit (n i : Nat) : (maskN n).testBit i = decide (i < n) := Nat.testBit_two_pow_sub_one n i
theorem maskN_lt (n : Nat) (h : n ≤ 32) : maskN n < 2 ^ 32 := by
  have := Nat.pow_le_pow_right (n := 2) (by decide) h
  have := Nat.two_pow_pos n
  unfold maskN; omega
theorem and_lt (a b n : Nat) (h : b < 2 ^ n) : a &&& b < 2 ^ n := Nat.and_lt_two_pow a h
theorem or_lt (a b n : Nat) (ha : a < 2 ^ n) (h : b < 2 ^ n) : a ||| b < 2 ^ n := Nat.or_lt_two_pow ha h
/-- A part of a word. -/
def bitsN (w at_ n : Nat) : Nat := (w >>> at_) &&& maskN n
theorem bitsN_bit (w at_ n i : Nat) : (bitsN w at_ n).testBit i = (decide (i < n) && w.testBit (at_ + i)) := by
  unfold bitsN
  rw [Nat.testBit_and, Nat.testBit_shiftRight, maskN_bit, Bool.and_comm]
theorem bitsN_lt (w at_ n : Nat) : bitsN w at_ n < 2 ^ n := lt_of_bits fun i hi => by rw [bitsN_bit, decide_eq_false (by omega)]; rfl
theorem bitsN_mod (w n : Nat) : bitsN w 0 n = w % 2 ^ n := by unfold bitsN maskN; rw [Nat.and_two_pow_sub_one_eq_mod]; rfl
/-- A part put into a word. -/
def withN (w at_ n v : Nat) : Nat := ndN w ((maskN n <<< at_) % 2 ^ 32) ||| (((v &&& maskN n) <<< at_) % 2 ^ 32)
theorem withN_lt (w at_ n v : Nat) : withN w at_ n v < 2 ^ 32 := or_lt _ _ _ (ndN_lt _ _) (Nat.mod_lt _ (by decide))
theorem withN_bit (w at_ n v i : Nat) (hw : w < 2 ^ 32) (h : at_ + n ≤ 32) (hi : i < 32) : (withN w at_ n v).testBit i = if at_ ≤ i ∧ i < at_ + n then v.testBit (i - at_) else w.testBit i := by
  unfold withN
  rw [Nat.testBit_or, ndN_bit _ _ hw (Nat.mod_lt _ (by decide)) _ hi, Nat.testBit_mod_two_pow, Nat.testBit_mod_two_pow, Nat.testBit_shiftLeft, Nat.testBit_shiftLeft, Nat.testBit_and, maskN_bit]
  rw [decide_eq_true hi]
  by_cases h1 : at_ ≤ i
  · by_cases h2 : i < at_ + n
    · rw [if_pos ⟨h1, h2⟩, decide_eq_true (show i ≥ at_ from h1), decide_eq_true (show i - at_ < n by omega)]
      simp
    · rw [if_neg (fun h => h2 h.2), decide_eq_true (show i ≥ at_ from h1), decide_eq_false (show ¬ i - at_ < n by omega)]
      simp
  · rw [if_neg (fun h => h1 h.1), decide_eq_false (show ¬ i ≥ at_ from h1)]
    simp
theorem word_ext {a b : Nat} (ha : a < 2 ^ 32) (hb : b < 2 ^ 32) (h : ∀ i, i < 32 → a.testBit i = b.testBit i) : a = b := by
  refine Nat.eq_of_testBit_eq fun i => ?_
  by_cases hi : i < 32
  · exact h i hi
  · rw [bit_out ha (by omega), bit_out hb (by omega)]
/-- Bit i set by or, above all that stand. -/
theorem put_bit (acc i : Nat) (t : Bool) (j : Nat) (h : acc < 2 ^ i) : (acc ||| ((t.toNat <<< i))).testBit j = if j = i then t else acc.testBit j := by
  rw [Nat.testBit_or, Nat.testBit_shiftLeft]
  by_cases hj : j = i
  · subst hj
    rw [if_pos rfl, bit_out h (Nat.le_refl _), Nat.sub_self]
    cases t <;> simp
  · rw [if_neg hj]
    by_cases h1 : j ≥ i
    · obtain ⟨d, hd⟩ : ∃ d, j - i = d + 1 := ⟨j - i - 1, by omega⟩
      rw [hd, decide_eq_true h1]
      cases t <;> simp [Nat.testBit_succ]
    · rw [decide_eq_false h1]; simp
theorem bit_one (w i : Nat) : (w >>> i) &&& 1 = (w.testBit i).toNat := by
  rw [Nat.testBit, Nat.and_comm]
  have : 1 &&& (w >>> i) = (w >>> i) % 2 := by rw [Nat.and_comm, show (1 : Nat) = 2 ^ 1 - 1 from rfl, Nat.and_two_pow_sub_one_eq_mod]
  rw [this]
  rcases Nat.mod_two_eq_zero_or_one (w >>> i) with h | h <;> rw [h] <;> rfl
/-- The lowest 21 bits of a number. -/
def cutN (v : Int) : Nat := (v % 2097152).toNat
theorem cutN_lt (v : Int) : cutN v < 2 ^ 21 := by unfold cutN; omega
theorem low32 (v : Int) : v % 4294967296 = (((v % 4294967296).toNat : Nat) : Int) := by omega
theorem cut_bits (v : Int) : bitsN (v % 4294967296).toNat 0 21 = cutN v := by rw [bitsN_mod]; unfold cutN; omega
/-- The lowest 21 bits of a word, as a number with a sign. -/
def signN (w : Nat) : Int := if w % 2097152 < 1048576 then ((w % 2097152 : Nat) : Int) else ((w % 2097152 : Nat) : Int) - 2097152
theorem bit20 (w : Nat) : (w.testBit 20).toNat = w % 2097152 / 1048576 := by
  rw [Nat.testBit_eq_decide_div_mod_eq]
  by_cases h : w / 2 ^ 20 % 2 = 1
  · rw [decide_eq_true h]; simp; omega
  · rw [decide_eq_false h]; simp; omega
/-- Has a number 21 bits? -/
def fits21 (v : Int) : Bool := decide (-1048576 ≤ v ∧ v < 1048576)
/-- Which parts an operation uses. -/
def usesR (o : Int) : Bool × Bool × Bool × Bool :=
  if 3 ≤ o ∧ o ≤ 10 then (true, true, true, false) else if o = 11 ∨ o = 12 ∨ o = 13 ∨ o = 15 ∨ o = 16 then (true, true, false, true) else if o = 2 then (true, false, false, true)
  else if o = 14 ∨ o = 17 ∨ o = 21 then (false, false, false, true) else if o = 19 then (false, true, false, false) else (false, false, false, false)
theorem op_cases (o : Int) : o < 0 ∨ o = 0 ∨ o = 1 ∨ o = 2 ∨ o = 3 ∨ o = 4 ∨ o = 5 ∨ o = 6 ∨ o = 7 ∨ o = 8 ∨ o = 9 ∨ o = 10 ∨ o = 11 ∨ o = 12 ∨ o = 13 ∨ o = 14 ∨ o = 15 ∨ o = 16 ∨ o = 17 ∨ o = 18 ∨ o = 19 ∨ o = 20 ∨ o = 21 ∨ 21 < o := by omega
/-- May a register's number stand there? -/
def regR (r : Int) (u : Bool) : Bool := decide (r = 0) || (u && decide (r < 8))
/-- Is something wrong with the parts? -/
def badR (o d a b i : Int) : Bool :=
  decide (21 < o) || !(regR d (usesR o).1) || !(regR a (usesR o).2.1) || !(regR b (usesR o).2.2.1) || (!(usesR o).2.2.2 && decide (i ≠ 0))
/-- What Check tells. -/
def checkR (o d a b i : Int) : Int :=
  if badR o d a b i = true then 10 else if fits21 i = false then 11 else if o = 17 ∧ i < 0 then 11 else if o = 21 ∧ (i < 0 ∨ 63 < i) then 11 else 0
/-- An instruction's word, its parts being what they may be. -/
def encN (o d a b : Nat) (i : Int) : Nat := withN (withN (withN (cutN i ||| b) 27 5 o) 24 3 d) 21 3 a
theorem u8_mod {x : Int} (h0 : 0 ≤ x) (h1 : x < 256) : x % 4294967296 = ((x.toNat : Nat) : Int) ∧ x.toNat < 2 ^ 32 := by omega
/-- What Encode tells. -/
def encR (o d a b i : Int) : Int × Int := if checkR o d a b i = 0 then (((encN o.toNat d.toNat a.toNat b.toNat i : Nat) : Int), 0) else (0, checkR o d a b i)
theorem check_zero {o d a b i : Int} (h : checkR o d a b i = 0) : o ≤ 21 ∧ regR d (usesR o).1 = true ∧ regR a (usesR o).2.1 = true ∧ regR b (usesR o).2.2.1 = true ∧ ((usesR o).2.2.2 = true ∨ i = 0) ∧ fits21 i = true ∧ (o = 17 → 0 ≤ i) := by
  unfold checkR at h
  by_cases hb : badR o d a b i = true
  · rw [if_pos hb] at h; omega
  · rw [if_neg hb] at h
    replace hb := Bool.eq_false_iff.mpr hb
    unfold badR at hb
    simp only [Bool.or_eq_false_iff, decide_eq_false_iff_not, Bool.not_eq_false'] at hb
    obtain ⟨⟨⟨⟨h1, h2⟩, h3⟩, h4⟩, h5⟩ := hb
    refine ⟨by omega, h2, h3, h4, ?_, ?_, ?_⟩
    · cases hu : (usesR o).2.2.2
      · rw [hu] at h5; simp at h5; exact .inr h5
      · exact .inl rfl
    · cases hf : fits21 i
      · rw [hf] at h; simp at h
      · rfl
    · intro h17
      cases hf : fits21 i
      · rw [hf] at h; simp at h
      · rw [hf] at h
        by_cases hi : i < 0
        · rw [if_neg (by simp), if_pos ⟨h17, hi⟩] at h; omega
        · omega
theorem reg_lt {r : Int} {u : Bool} (h0 : 0 ≤ r) (h : regR r u = true) : r < 8 ∧ (u = false → r = 0) := by
  unfold regR at h
  cases u
  · simp at h; exact ⟨by omega, fun _ => h⟩
  · simp at h; exact ⟨by omega, fun h => by cases h⟩
theorem usesB (o : Int) (h : (usesR o).2.2.1 = true) : (usesR o).2.2.2 = false := by
  unfold usesR at h ⊢
  repeat' split at h
  all_goals first | (simp at h; done) | skip
  all_goals simp [*]
def opN (w : Nat) : Int := ((bitsN w 27 5 : Nat) : Int)
def dN (w : Nat) : Int := ((bitsN w 24 3 : Nat) : Int)
def aN (w : Nat) : Int := ((bitsN w 21 3 : Nat) : Int)
def bN (w : Nat) : Int := if (usesR (opN w)).2.2.1 = true then ((bitsN w 0 3 : Nat) : Int) else 0
def iN (w : Nat) : Int := if (usesR (opN w)).2.2.1 = true then 0 else signN w
/-- Is the word an instruction's? -/
def isIns (w : Nat) : Bool := decide (encR (opN w) (dN w) (aN w) (bN w) (iN w) = ((w : Int), 0))
/-- What Decode tells. -/
def decR (w : Nat) : Int × Int × Int × Int × Int × Int := if isIns w = true then (opN w, dN w, aN w, bN w, iN w, 0) else (0, 0, 0, 0, 0, 10)
theorem opN_lt (w : Nat) : 0 ≤ opN w ∧ opN w < 256 := by unfold opN; have := bitsN_lt w 27 5; omega
theorem dN_lt (w : Nat) : 0 ≤ dN w ∧ dN w < 256 := by unfold dN; have := bitsN_lt w 24 3; omega
theorem aN_lt (w : Nat) : 0 ≤ aN w ∧ aN w < 256 := by unfold aN; have := bitsN_lt w 21 3; omega
theorem bN_lt (w : Nat) : 0 ≤ bN w ∧ bN w < 256 := by unfold bN; have := bitsN_lt w 0 3; split <;> omega
theorem signN_lt (w : Nat) : -2147483648 ≤ signN w ∧ signN w < 2147483648 := by unfold signN; split <;> omega
theorem iN_lt (w : Nat) : -2147483648 ≤ iN w ∧ iN w < 2147483648 := by unfold iN; have := signN_lt w; split <;> omega
theorem mod256 {x : Int} (h0 : 0 ≤ x ∧ x < 256) : x % 256 = x := by omega
/-- What Decode tells of an instruction's word has the form that Check asks for. -/
theorem dec_check (w : Nat) (h : isIns w = true) : checkR (opN w) (dN w) (aN w) (bN w) (iN w) = 0 := by
  have h1 := of_decide_eq_true h
  unfold encR at h1
  by_cases hc : checkR (opN w) (dN w) (aN w) (bN w) (iN w) = 0
  · exact hc
  · rw [if_neg hc] at h1
    have := congrArg Prod.snd h1
    exact absurd this hc
end Go.Wd
