import Derived.Laws.BitsLemmas
import Derived.WalkKit
import Derived.RowKit
import Derived.Test.YtoeplpkmjfecgaaGreatDoorAbT
import Derived.Test.YtoeplpkmjfecgaaGreatDoorAb17
import Derived.Test.YtoeplpkmjfecgaaGreatDoorShelf
/- Words and instructions, pure. No program. -/
namespace Go.Wd
open Go.RowKit
set_option linter.unusedVariables false
def shl (k : IntKind) (x y : Int) : Int := k.wrap (x * 2 ^ min y.toNat k.bits)
def shr (k : IntKind) (x y : Int) : Int := x / 2 ^ min y.toNat k.bits
theorem wraps_u32 (n : Int) (h₀ : 0 ≤ n) (h₁ : n < 2 ^ 32) : IntKind.u32.wrap n = n := by rw [IntKind.wrap_u32]; omega
theorem and_nat (a b : Nat) (ha : a < 2 ^ 32) (hb : b < 2 ^ 32) : Go.bits .and .u32 (a : Int) (b : Int) = ((a &&& b : Nat) : Int) := (bits_nat .u32 32 (by decide) wraps_u32 a b ha hb).1
theorem or_nat (a b : Nat) (ha : a < 2 ^ 32) (hb : b < 2 ^ 32) : Go.bits .or .u32 (a : Int) (b : Int) = ((a ||| b : Nat) : Int) := (bits_nat .u32 32 (by decide) wraps_u32 a b ha hb).2
/-- What stands in a and not in b. -/
def ndN (a b : Nat) : Nat := (BitVec.ofNat 32 a &&& ~~~ BitVec.ofNat 32 b).toNat
theorem ndN_lt (a b : Nat) : ndN a b < 2 ^ 32 := BitVec.isLt _
theorem andNot_nat (a b : Nat) (ha : a < 2 ^ 32) (hb : b < 2 ^ 32) : Go.bits .andNot .u32 (a : Int) (b : Int) = ((ndN a b : Nat) : Int) := by
  have h : Go.bits .andNot .u32 (a : Int) (b : Int) = IntKind.u32.wrap ((ndN a b : Nat) : Int) := by
    show IntKind.u32.wrap _ = _
    rw [BitVec.ofInt_natCast, BitVec.ofInt_natCast]
    rfl
  rw [h]
  have := ndN_lt a b
  exact wraps_u32 _ (Int.natCast_nonneg _) (by exact_mod_cast this)
theorem ndN_bit (a b : Nat) (ha : a < 2 ^ 32) (hb : b < 2 ^ 32) (i : Nat) (hi : i < 32) : (ndN a b).testBit i = (a.testBit i && !b.testBit i) := by
  unfold ndN
  rw [BitVec.toNat_and, Nat.testBit_and, BitVec.toNat_not, BitVec.toNat_ofNat, BitVec.toNat_ofNat, Nat.mod_eq_of_lt ha, Nat.mod_eq_of_lt hb, show 2 ^ 32 - 1 - b = 2 ^ 32 - (b + 1) by omega, Nat.testBit_two_pow_sub_succ hb]
  simp [hi]
theorem shl_nat (a n : Nat) (hn : n ≤ 32) : shl .u32 (a : Int) (n : Int) = (((a <<< n) % 2 ^ 32 : Nat) : Int) := by
  unfold shl
  rw [Int.toNat_natCast, show min n IntKind.u32.bits = n from Nat.min_eq_left hn, IntKind.wrap_u32, Nat.shiftLeft_eq]
  simp
theorem shr_nat (a n : Nat) (hn : n ≤ 32) : shr .u32 (a : Int) (n : Int) = ((a >>> n : Nat) : Int) := by
  unfold shr
  rw [Int.toNat_natCast, show min n IntKind.u32.bits = n from Nat.min_eq_left hn, Nat.shiftRight_eq_div_pow]
  simp
theorem lt_of_bits {a n : Nat} (h : ∀ i, n ≤ i → a.testBit i = false) : a < 2 ^ n := Nat.lt_pow_two_of_testBit a h
theorem bit_out {a n i : Nat} (h : a < 2 ^ n) (hi : n ≤ i) : a.testBit i = false := Nat.testBit_lt_two_pow (Nat.lt_of_lt_of_le h (Nat.pow_le_pow_right (by decide) hi))
def maskN (n : Nat) : Nat := 2 ^ n - 1
theorem maskN_bit (n i : Nat) : (maskN n).testBit i = decide (i < n) := Nat.testBit_two_pow_sub_one n i
theorem maskN_lt (n : Nat) (h : n ≤ 32) : maskN n < 2 ^ 32 := by
  have := Nat.pow_le_pow_right (n := 2) (by decide) h
  have := Nat.two_pow_pos n
  unfold maskN; omega
theorem and_lt (a b n : Nat) (h : b < 2 ^ n) : a &&& b < 2 ^ n := Nat.and_lt_two_pow a h
theorem or_lt (a b n : Nat) (ha : a < 2 ^ n) (h : b < 2 ^ n) : a ||| b < 2 ^ n := Nat.or_lt_two_pow ha h
/-- A part of a word. -/
def bitsN (w at_ n : Nat) : Nat := (w >>> at_) &&& maskN n
theorem bitsN_bit (w at_ n i : Nat) : (bitsN w at_ n).testBit i = (decide (i < n) && w.testBit (at_ + i)) := by
  unfold bitsN
  rw [Nat.testBit_and, Nat.testBit_shiftRight, maskN_bit, Bool.and_comm]
theorem bitsN_lt (w at_ n : Nat) : bitsN w at_ n < 2 ^ n := lt_of_bits fun i hi => by rw [bitsN_bit, decide_eq_false (by omega)]; rfl
theorem bitsN_mod (w n : Nat) : bitsN w 0 n = w % 2 ^ n := by unfold bitsN maskN; rw [Nat.and_two_pow_sub_one_eq_mod]; rfl
/-- A part put into a word. -/
def withN (w at_ n v : Nat) : Nat := ndN w ((maskN n <<< at_) % 2 ^ 32) ||| (((v &&& maskN n) <<< at_) % 2 ^ 32)
theorem withN_lt (w at_ n v : Nat) : withN w at_ n v < 2 ^ 32 := or_lt _ _ _ (ndN_lt _ _) (Nat.mod_lt _ (by decide))
theorem withN_bit (w at_ n v i : Nat) (hw : w < 2 ^ 32) (h : at_ + n ≤ 32) (hi : i < 32) : (withN w at_ n v).testBit i = if at_ ≤ i ∧ i < at_ + n then v.testBit (i - at_) else w.testBit i := by
  unfold withN
  rw [Nat.testBit_or, ndN_bit _ _ hw (Nat.mod_lt _ (by decide)) _ hi, Nat.testBit_mod_two_pow, Nat.testBit_mod_two_pow, Nat.testBit_shiftLeft, Nat.testBit_shiftLeft, Nat.testBit_and, maskN_bit]
  rw [decide_eq_true hi]
  by_cases h1 : at_ ≤ i
  · by_cases h2 : i < at_ + n
    · rw [if_pos ⟨h1, h2⟩, decide_eq_true (show i ≥ at_ from h1), decide_eq_true (show i - at_ < n by omega)]
      simp
    · rw [if_neg (fun h => h2 h.2), decide_eq_true (show i ≥ at_ from h1), decide_eq_false (show ¬ i - at_ < n by omega)]
      simp
  · rw [if_neg (fun h => h1 h.1), decide_eq_false (show ¬ i ≥ at_ from h1)]
    simp
theorem word_ext {a b : Nat} (ha : a < 2 ^ 32) (hb : b < 2 ^ 32) (h : ∀ i, i < 32 → a.testBit i = b.testBit i) : a = b := by
  refine Nat.eq_of_testBit_eq fun i => ?_
  by_cases hi : i < 32
  · exact h i hi
  · rw [bit_out ha (by omega), bit_out hb (by omega)]
/-- Bit i set by or, above all that stand. -/
theorem put_bit (acc i : Nat) (t : Bool) (j : Nat) (h : acc < 2 ^ i) : (acc ||| ((t.toNat <<< i))).testBit j = if j = i then t else acc.testBit j := by
  rw [Nat.testBit_or, Nat.testBit_shiftLeft]
  by_cases hj : j = i
  · subst hj
    rw [if_pos rfl, bit_out h (Nat.le_refl _), Nat.sub_self]
    cases t <;> simp
  · rw [if_neg hj]
    by_cases h1 : j ≥ i
    · obtain ⟨d, hd⟩ : ∃ d, j - i = d + 1 := ⟨j - i - 1, by omega⟩
      rw [hd, decide_eq_true h1]
      cases t <;> simp [Nat.testBit_succ]
    · rw [decide_eq_false h1]; simp
theorem bit_one (w i : Nat) : (w >>> i) &&& 1 = (w.testBit i).toNat := by
  rw [Nat.testBit, Nat.and_comm]
  have : 1 &&& (w >>> i) = (w >>> i) % 2 := by rw [Nat.and_comm, show (1 : Nat) = 2 ^ 1 - 1 from rfl, Nat.and_two_pow_sub_one_eq_mod]
  rw [this]
  rcases Nat.mod_two_eq_zero_or_one (w >>> i) with h | h <;> rw [h] <;> rfl
/-- The lowest 21 bits of a number. -/
def cutN (v : Int) : Nat := (v % 2097152).toNat
theorem cutN_lt (v : Int) : cutN v < 2 ^ 21 := by unfold cutN; omega
theorem low32 (v : Int) : v % 4294967296 = (((v % 4294967296).toNat : Nat) : Int) := by omega
theorem cut_bits (v : Int) : bitsN (v % 4294967296).toNat 0 21 = cutN v := by rw [bitsN_mod]; unfold cutN; omega
/-- The lowest 21 bits of a word, as a number with a sign. -/
def signN (w : Nat) : Int := if w % 2097152 < 1048576 then ((w % 2097152 : Nat) : Int) else ((w % 2097152 : Nat) : Int) - 2097152
theorem bit20 (w : Nat) : (w.testBit 20).toNat = w % 2097152 / 1048576 := by
  rw [Nat.testBit_eq_decide_div_mod_eq]
  by_cases h : w / 2 ^ 20 % 2 = 1
  · rw [decide_eq_true h]; simp; omega
  · rw [decide_eq_false h]; simp; omega
/-- Has a number 21 bits? -/
def fits21 (v : Int) : Bool := decide (-1048576 ≤ v ∧ v < 1048576)
/-- Which parts an operation uses. -/
def usesR (o : Int) : Bool × Bool × Bool × Bool :=
  if 3 ≤ o ∧ o ≤ 10 then (true, true, true, false) else if o = 11 ∨ o = 12 ∨ o = 13 ∨ o = 15 ∨ o = 16 then (true, true, false, true) else if o = 2 then (true, false, false, true)
  else if o = 14 ∨ o = 17 ∨ o = 21 then (false, false, false, true) else if o = 19 then (false, true, false, false) else (false, false, false, false)
theorem op_cases (o : Int) : o < 0 ∨ o = 0 ∨ o = 1 ∨ o = 2 ∨ o = 3 ∨ o = 4 ∨ o = 5 ∨ o = 6 ∨ o = 7 ∨ o = 8 ∨ o = 9 ∨ o = 10 ∨ o = 11 ∨ o = 12 ∨ o = 13 ∨ o = 14 ∨ o = 15 ∨ o = 16 ∨ o = 17 ∨ o = 18 ∨ o = 19 ∨ o = 20 ∨ o = 21 ∨ 21 < o := by omega
/-- May a register's number stand there? -/
def regR (r : Int) (u : Bool) : Bool := decide (r = 0) || (u && decide (r < 8))
/-- Is something wrong with the parts? -/
def badR (o d a b i : Int) : Bool :=
  decide (21 < o) || !(regR d (usesR o).1) || !(regR a (usesR o).2.1) || !(regR b (usesR o).2.2.1) || (!(usesR o).2.2.2 && decide (i ≠ 0))
/-- What Check tells. -/
def checkR (o d a b i : Int) : Int :=
  if badR o d a b i = true then 10 else if fits21 i = false then 11 else if o = 17 ∧ i < 0 then 11 else if o = 21 ∧ (i < 0 ∨ 63 < i) then 11 else 0
/-- An instruction's word, its parts being what they may be. -/
def encN (o d a b : Nat) (i : Int) : Nat := withN (withN (withN (cutN i ||| b) 27 5 o) 24 3 d) 21 3 a
theorem u8_mod {x : Int} (h0 : 0 ≤ x) (h1 : x < 256) : x % 4294967296 = ((x.toNat : Nat) : Int) ∧ x.toNat < 2 ^ 32 := by omega
/-- What Encode tells. -/
def encR (o d a b i : Int) : Int × Int := if checkR o d a b i = 0 then (((encN o.toNat d.toNat a.toNat b.toNat i : Nat) : Int), 0) else (0, checkR o d a b i)
theorem check_zero {o d a b i : Int} (h : checkR o d a b i = 0) : o ≤ 21 ∧ regR d (usesR o).1 = true ∧ regR a (usesR o).2.1 = true ∧ regR b (usesR o).2.2.1 = true ∧ ((usesR o).2.2.2 = true ∨ i = 0) ∧ fits21 i = true ∧ (o = 17 → 0 ≤ i) := by
  unfold checkR at h
  by_cases hb : badR o d a b i = true
  · rw [if_pos hb] at h; omega
  · rw [if_neg hb] at h
    replace hb := Bool.eq_false_iff.mpr hb
    unfold badR at hb
    simp only [Bool.or_eq_false_iff, decide_eq_false_iff_not, Bool.not_eq_false'] at hb
    obtain ⟨⟨⟨⟨h1, h2⟩, h3⟩, h4⟩, h5⟩ := hb
    refine ⟨by omega, h2, h3, h4, ?_, ?_, ?_⟩
    · cases hu : (usesR o).2.2.2
      · rw [hu] at h5; simp at h5; exact .inr h5
      · exact .inl rfl
    · cases hf : fits21 i
      · rw [hf] at h; simp at h
      · rfl
    · intro h17
      cases hf : fits21 i
      · rw [hf] at h; simp at h
      · rw [hf] at h
        by_cases hi : i < 0
        · rw [if_neg (by simp), if_pos ⟨h17, hi⟩] at h; omega
        · omega
theorem reg_lt {r : Int} {u : Bool} (h0 : 0 ≤ r) (h : regR r u = true) : r < 8 ∧ (u = false → r = 0) := by
  unfold regR at h
  cases u
  · simp at h; exact ⟨by omega, fun _ => h⟩
  · simp at h; exact ⟨by omega, fun h => by cases h⟩
theorem usesB (o : Int) (h : (usesR o).2.2.1 = true) : (usesR o).2.2.2 = false := by
  unfold usesR at h ⊢
  repeat' split at h
  all_goals first | (simp at h; done) | skip
  all_goals simp [*]
def opN (w : Nat) : Int := ((bitsN w 27 5 : Nat) : Int)
def dN (w : Nat) : Int := ((bitsN w 24 3 : Nat) : Int)
def aN (w : Nat) : Int := ((bitsN w 21 3 : Nat) : Int)
def bN (w : Nat) : Int := if (usesR (opN w)).2.2.1 = true then ((bitsN w 0 3 : Nat) : Int) else 0
def iN (w : Nat) : Int := if (usesR (opN w)).2.2.1 = true then 0 else signN w
/-- Is the word an instruction's? -/
def isIns (w : Nat) : Bool := decide (encR (opN w) (dN w) (aN w) (bN w) (iN w) = ((w : Int), 0))
/-- What Decode tells. -/
def decR (w : Nat) : Int × Int × Int × Int × Int × Int := if isIns w = true then (opN w, dN w, aN w, bN w, iN w, 0) else (0, 0, 0, 0, 0, 10)
theorem opN_lt (w : Nat) : 0 ≤ opN w ∧ opN w < 256 := by unfold opN; have := bitsN_lt w 27 5; omega
theorem dN_lt (w : Nat) : 0 ≤ dN w ∧ dN w < 256 := by unfold dN; have := bitsN_lt w 24 3; omega
theorem aN_lt (w : Nat) : 0 ≤ aN w ∧ aN w < 256 := by unfold aN; have := bitsN_lt w 21 3; omega
theorem bN_lt (w : Nat) : 0 ≤ bN w ∧ bN w < 256 := by unfold bN; have := bitsN_lt w 0 3; split <;> omega
theorem signN_lt (w : Nat) : -2147483648 ≤ signN w ∧ signN w < 2147483648 := by unfold signN; split <;> omega
theorem iN_lt (w : Nat) : -2147483648 ≤ iN w ∧ iN w < 2147483648 := by unfold iN; have := signN_lt w; split <;> omega
theorem mod256 {x : Int} (h0 : 0 ≤ x ∧ x < 256) : x % 256 = x := by omega
/-- What Decode tells of an instruction's word has the form that Check asks for. -/
theorem dec_check (w : Nat) (h : isIns w = true) : checkR (opN w) (dN w) (aN w) (bN w) (iN w) = 0 := by
  have h1 := of_decide_eq_true h
  unfold encR at h1
  by_cases hc : checkR (opN w) (dN w) (aN w) (bN w) (iN w) = 0
  · exact hc
  · rw [if_neg hc] at h1
    have := congrArg Prod.snd h1
    exact absurd this hc
end Go.Wd
/- Words and instructions: what the program's functions make. -/
namespace Go.Abs
set_option linter.unusedSimpArgs false
set_option linter.unusedVariables false
set_option maxHeartbeats 4000000
open Go.Proofs Go.Wd
set_option linter.unusedVariables false
set_option maxRecDepth 8000
theorem mixed : Tryz.prog.follows .mixedOrders = true := by kernel_rfl
variable {H : Heap}
theorem w32 {x : Int} (h0 : 0 ≤ x) (h1 : x < 4294967296) : IntKind.u32.wrap x = x := by rw [IntKind.wrap_u32]; omega
theorem w8 {x : Int} (h0 : 0 ≤ x) (h1 : x < 256) : IntKind.u8.wrap x = x := by rw [IntKind.wrap_u8]; omega
theorem wi64 {x : Int} (h0 : -9223372036854775808 ≤ x) (h1 : x < 9223372036854775808) : IntKind.i64.wrap x = x := by rw [IntKind.wrap_i64]; omega
theorem may_c {a n : Nat} (h : a + n ≤ 32) : AC Tryz.prog 66 [.s (.int .i64 a), .s (.int .i64 n)] H (fun r H' => r = .s (.bool true) ∧ H' = H) := by
  refine AC.body Tryz.func66 rfl rfl (n := 21) (res := [.tmp 4]) rfl rfl (by simp) ?_
  simp only [ent]
  have h1 : (a : Int) ≤ 32 := by omega
  have hw : IntKind.i64.wrap (32 - (a : Int)) = 32 - a := wi64 (by omega) (by omega)
  have h2 : (n : Int) ≤ 32 - a := by omega
  (repeat' (first | refine wk ?_ | refine wk2 ?_ ?_ | with_reducible refine wkF fun _ _ _ => ?_ | with_reducible intro _ | exact ag | fail))
  exact fin0
theorem mask_c {n : Nat} (h : n ≤ 32) : AC Tryz.prog 67 [.s (.int .i64 n)] H (fun r H' => r = .s (.int .u32 (maskN n : Nat)) ∧ H' = H) := by
  refine AC.body Tryz.func67 rfl rfl (n := 6) (res := [.tmp 2]) rfl rfl (by simp) ?_
  simp only [ent]
  have hm := maskN_lt n h
  have hv : IntKind.u32.wrap (shlK .u32 1 n - 1) = (maskN n : Nat) := by
    unfold shlK
    have h1 : min ((n : Int).toNat) IntKind.u32.bits = n := by rw [Int.toNat_natCast]; exact Nat.min_eq_left h
    rw [h1, IntKind.wrap_u32, IntKind.wrap_u32]
    have hp : ((2 : Int) ^ n) = ((2 ^ n : Nat) : Int) := by simp
    have h2 : (2 : Nat) ^ n ≤ 2 ^ 32 := Nat.pow_le_pow_right (by decide) h
    have h3 := Nat.two_pow_pos n
    have e : maskN n = 2 ^ n - 1 := rfl
    rw [Int.one_mul, hp, e]
    generalize 2 ^ n = p at *
    omega
  (repeat' (first | refine wk ?_ | refine wk2 ?_ ?_ | with_reducible refine wkF fun _ _ _ => ?_ | with_reducible intro _ | exact ag | fail))
  exact fin0
theorem wshl {a n : Nat} (hn : n ≤ 32) : shlK .u32 a n = (((a <<< n) % 2 ^ 32 : Nat) : Int) := shl_nat a n hn
theorem wshr {a n : Nat} (hn : n ≤ 32) : shrK .u32 a n = ((a >>> n : Nat) : Int) := by
  unfold shrK; rw [Int.fdiv_eq_ediv_of_nonneg _ (Int.le_of_lt (Int.pow_pos (by decide)))]; exact shr_nat a n hn
theorem shr_lt {a : Nat} (n : Nat) (h : a < 2 ^ 32) : a >>> n < 2 ^ 32 := by rw [Nat.shiftRight_eq_div_pow]; exact Nat.lt_of_le_of_lt (Nat.div_le_self _ _) h
theorem bits_c {w a n : Nat} (hw : w < 2 ^ 32) (h : a + n ≤ 32) : AC Tryz.prog 47 [.s (.int .u32 w), .s (.int .i64 a), .s (.int .i64 n)] H (fun r H' => r = .s (.int .u32 (bitsN w a n : Nat)) ∧ H' = H) := by
  refine AC.body Tryz.func47 rfl rfl (n := 17) (res := [.tmp 6]) rfl rfl (by simp) ?_
  simp only [ent]
  have e1 := wshr (a := w) (n := a) (by omega)
  have e2 := and_nat _ _ (shr_lt a hw) (maskN_lt n (by omega))
  (repeat' (first | refine wk ?_ | refine wk2 ?_ ?_ | with_reducible refine wkF fun _ _ _ => ?_ | with_reducible intro _ | refine Calling.eq (may_c h) ?_ | exact ag | fail))
  refine ARun.drawB mixed [([], [0, 1, 2, 3], some 4), ([0, 1, 2], [5, 6], none)] (by kernel_rfl) (by rfl) ?_
  (repeat' (first | refine wk ?_ | refine wk2 ?_ ?_ | with_reducible refine wkF fun _ _ _ => ?_ | with_reducible intro _ | refine Calling.eq (mask_c (by omega)) ?_ | exact ag | fail))
  exact fin0
theorem with_c {w a n v : Nat} (hw : w < 2 ^ 32) (hv : v < 2 ^ 32) (h : a + n ≤ 32) : AC Tryz.prog 68 [.s (.int .u32 w), .s (.int .i64 a), .s (.int .i64 n), .s (.int .u32 v)] H (fun r H' => r = .s (.int .u32 (withN w a n v : Nat)) ∧ H' = H) := by
  refine AC.body Tryz.func68 rfl rfl (n := 27) (res := [.tmp 8]) rfl rfl (by simp) ?_
  simp only [ent]
  have hm := maskN_lt n (by omega)
  have e1 := wshl (a := maskN n) (n := a) (by omega)
  have e2 := andNot_nat w ((maskN n <<< a) % 2 ^ 32) hw (Nat.mod_lt _ (by decide))
  have e3 := and_nat _ _ hv hm
  have e4 := wshl (a := v &&& maskN n) (n := a) (by omega)
  have e5 := or_nat (ndN w ((maskN n <<< a) % 2 ^ 32)) (((v &&& maskN n) <<< a) % 2 ^ 32) (ndN_lt _ _) (Nat.mod_lt _ (by decide))
  (repeat' (first | refine wk ?_ | refine wk2 ?_ ?_ | with_reducible refine wkF fun _ _ _ => ?_ | with_reducible intro _ | refine Calling.eq (may_c h) ?_ | exact ag | fail))
  refine ARun.drawB mixed [([], [0, 1, 3, 6, 7, 10], some 2), ([0, 3, 6, 7, 10], [4, 5], some 8), ([0, 1, 3, 6, 10, 4, 5], [9, 11, 12, 13], none)] (by kernel_rfl) (by rfl) ?_
  (repeat' (first | refine wk ?_ | refine wk2 ?_ ?_ | with_reducible refine wkF fun _ _ _ => ?_ | with_reducible intro _ | refine Calling.eq (mask_c (n := n) (by omega)) ?_ | exact ag | fail))
  exact fin0
theorem wcut (v : Int) : Go.bits .and .u32 (IntKind.u32.wrap v) ((maskN 21 : Nat) : Int) = ((cutN v : Nat) : Int) := by
  have h : IntKind.u32.wrap v = (((v % 4294967296).toNat : Nat) : Int) := by rw [IntKind.wrap_u32]; omega
  rw [h, and_nat _ _ (by omega) (by decide), ← cut_bits]; rfl
theorem cut_c {v : Int} : AC Tryz.prog 69 [.s (.int .i32 v), .s (.int .i64 21)] H (fun r H' => r = .s (.int .u32 (cutN v : Nat)) ∧ H' = H) := by
  refine AC.body Tryz.func69 rfl rfl (n := 13) (res := [.tmp 4]) rfl rfl (by simp) ?_
  simp only [ent]
  have e1 := wcut v
  (repeat' (first | refine wk ?_ | refine wk2 ?_ ?_ | with_reducible refine wkF fun _ _ _ => ?_ | with_reducible intro _ | refine Doing.eq (oc_min) ?_ | refine Calling.eq (mask_c (n := 21) (by decide)) ?_ | exact ag | fail))
  exact fin0
theorem signed_c {w : Nat} (hw : w < 2 ^ 32) : AC Tryz.prog 48 [.s (.int .u32 w), .s (.int .i64 21)] H (fun r H' => r = .s (.int .i32 (signN w)) ∧ H' = H) := by
  have w1 : IntKind.i64.wrap (32 - 21) = 11 := rfl
  refine AC.body Tryz.func48 rfl rfl (n := 19) (res := [.tmp 4]) rfl rfl (by simp) ?_
  simp only [ent]
  have hs : shrK .i32 (IntKind.i32.wrap (shlK .u32 w 11)) 11 = signN w := by
    unfold shrK shlK
    rw [show min (11 : Int).toNat IntKind.u32.bits = 11 from rfl, show min (11 : Int).toNat IntKind.i32.bits = 11 from rfl, Int.fdiv_eq_ediv_of_nonneg _ (by decide), IntKind.wrap_u32, IntKind.wrap_i32]
    unfold signN
    split <;> omega
  (repeat' (first | refine wk ?_ | refine wk2 ?_ ?_ | with_reducible refine wkF fun _ _ _ => ?_ | with_reducible intro _ | exact ag | fail))
  exact fin0
theorem fits_c {v : Int} (h0 : -9223372036854775808 ≤ v) (h1 : v < 9223372036854775808) : AC Tryz.prog 39 [.s (.int .i64 v), .s (.int .i64 21)] H (fun r H' => r = .s (.bool (fits21 v)) ∧ H' = H) := by
  have w1 : IntKind.i64.wrap (21 - 1) = 20 := rfl
  refine AC.body Tryz.func39 rfl rfl (n := 22) (res := [.tmp 4]) rfl rfl (by simp) ?_
  simp only [ent]
  have e1 : shrK .i64 v 20 = v / 1048576 := by unfold shrK; rw [show min (20 : Int).toNat IntKind.i64.bits = 20 from rfl, Int.fdiv_eq_ediv_of_nonneg _ (by decide)]; rfl
  (repeat' (first | refine wk ?_ | refine wk2 ?_ ?_ | with_reducible refine wkF fun _ _ _ => ?_ | with_reducible intro _ | exact ag | fail))
  all_goals
    refine fin1 ⟨?_, rfl⟩
    simp only [resV, fits21]
    simp_all
    try (rw [Bool.eq_iff_iff]; simp)
    try omega
end Go.Abs
/- Instructions: what the program's functions make. -/
namespace Go.Abs
set_option linter.unusedSimpArgs false
set_option linter.unusedVariables false
set_option maxHeartbeats 4000000
open Go.Proofs Go.Wd
set_option linter.unusedVariables false
set_option maxRecDepth 8000
variable {H : Heap}
/-- Four flags. -/
def b4 (u : Bool × Bool × Bool × Bool) : List TV := [.s (.bool u.1), .s (.bool u.2.1), .s (.bool u.2.2.1), .s (.bool u.2.2.2)]
theorem b4_mk (a b c d : Bool) : b4 (a, b, c, d) = [.s (.bool a), .s (.bool b), .s (.bool c), .s (.bool d)] := rfl
theorem uses_c {o : Nat} : AC Tryz.prog 20 [.s (.int .u8 o)] H (fun r H' => r = .tup (b4 (usesR o)) ∧ H' = H) := by
  refine AC.body Tryz.func20 rfl rfl (n := 35) (res := [.tmp 2, .tmp 3, .tmp 4, .tmp 5]) rfl rfl (by simp) ?_
  simp only [ent]
  have hc := op_cases (o : Int)
  have h0 : (0 : Int) ≤ o := Int.natCast_nonneg _
  generalize (o : Int) = z at hc h0
  rcases hc with h | h | h | h | h | h | h | h | h | h | h | h | h | h | h | h | h | h | h | h | h | h | h | h
  case inr.inr.inr.inr.inr.inr.inr.inr.inr.inr.inr.inr.inr.inr.inr.inr.inr.inr.inr.inr.inr.inr.inr =>
    have h1 : (3 : Int) ≤ z := by omega
    have h2 : decide (z ≤ 10) = false := by simp; omega
    have hu : usesR z = (false, false, false, false) := by unfold usesR; rw [if_neg (by omega), if_neg (by omega), if_neg (by omega), if_neg (by omega), if_neg (by omega)]
    rw [hu, b4_mk]
    clear hu
    (repeat' (first | refine wk ?_ | refine wk2 ?_ ?_ | with_reducible refine wkF fun _ _ _ => ?_ | with_reducible intro _ | exact ag | fail))
    exact fin0
  case inl => omega
  all_goals
    subst h
    (repeat' (first | refine wk ?_ | refine wk2 ?_ ?_ | with_reducible refine wkF fun _ _ _ => ?_ | with_reducible intro _ | exact ag | fail))
    exact fin0
theorem reg_c {r : Nat} {u : Bool} : AC Tryz.prog 38 [.s (.int .u8 r), .s (.bool u)] H (fun x H' => x = .s (.bool (regR r u)) ∧ H' = H) := by
  refine AC.body Tryz.func38 rfl rfl (n := 14) (res := [.tmp 4]) rfl rfl (by simp) ?_
  simp only [ent]
  (repeat' (first | refine wk ?_ | refine wk2 ?_ ?_ | with_reducible refine wkF fun _ _ _ => ?_ | with_reducible intro _ | exact ag | fail))
  all_goals
    refine fin1 ⟨?_, rfl⟩
    simp only [resV, regR]
    simp_all
    try omega
/-- An instruction's parts. -/
structure Ins where
  o : Nat
  d : Nat
  a : Nat
  b : Nat
  i : Int
  deriving DecidableEq
def Ins.enc (x : Ins) : List TV := [.s (.int .u8 x.o), .s (.int .u8 x.d), .s (.int .u8 x.a), .s (.int .u8 x.b), .s (.int .i32 x.i)]
def Ins.ok (x : Ins) : Prop := x.o < 256 ∧ x.d < 256 ∧ x.a < 256 ∧ x.b < 256 ∧ -2147483648 ≤ x.i ∧ x.i < 2147483648
def Ins.chk (x : Ins) : Int := checkR x.o x.d x.a x.b x.i
theorem Ins.enc_def (x : Ins) : x.enc = [.s (.int .u8 x.o), .s (.int .u8 x.d), .s (.int .u8 x.a), .s (.int .u8 x.b), .s (.int .i32 x.i)] := rfl
theorem isaCheck_c {x : Ins} (hx : x.ok) : AC Tryz.prog 19 [.agg x.enc] H (fun r H' => r = .s (.int .i64 x.chk) ∧ H' = H) := by
  refine AC.body Tryz.func19 rfl rfl (n := 82) (res := [.tmp 2]) rfl rfl (by simp) ?_
  simp only [ent]
  obtain ⟨o, d, a, b, i⟩ := x
  simp only [Ins.enc_def, Ins.ok] at hx ⊢
  obtain ⟨_, _, _, _, h5, h6⟩ := hx
  have hw : IntKind.i64.wrap i = i := wi64 (by omega) (by omega)
  have hf : ∀ H : Heap, AC Tryz.prog 39 [.s (.int .i64 i), .s (.int .i64 21)] H (fun r H' => r = .s (.bool (fits21 i)) ∧ H' = H) := fun H => fits_c (by omega) (by omega)
  have hu : usesR o = ((usesR o).1, (usesR o).2.1, (usesR o).2.2.1, (usesR o).2.2.2) := rfl
  generalize hu1 : (usesR o).1 = u1 at hu
  generalize hu2 : (usesR o).2.1 = u2 at hu
  generalize hu3 : (usesR o).2.2.1 = u3 at hu
  generalize hu4 : (usesR o).2.2.2 = u4 at hu
  have hU : ∀ H : Heap, AC Tryz.prog 20 [.s (.int .u8 o)] H (fun r H' => r = .tup [.s (.bool u1), .s (.bool u2), .s (.bool u3), .s (.bool u4)] ∧ H' = H) := fun H => by have := uses_c (H := H) (o := o); rw [hu] at this; exact this
  clear hu
  (repeat' (first | refine wk ?_ | refine wk2 ?_ ?_ | with_reducible refine wkF fun _ _ _ => ?_ | with_reducible intro _ | refine Calling.eq (hU _) ?_ | refine Calling.eq (reg_c) ?_ | refine Calling.eq (hf _) ?_ | exact ag | fail))
  all_goals
    refine fin1 ⟨?_, rfl⟩
    clear hU hf
    simp only [resV, Ins.chk, checkR, badR, hu1, hu2, hu3, hu4]
    simp_all
    try omega
end Go.Abs
/- Instructions, as words: what the program's functions make. -/
namespace Go.Abs
set_option linter.unusedSimpArgs false
set_option linter.unusedVariables false
set_option maxHeartbeats 4000000
open Go.Proofs Go.Wd
set_option linter.unusedVariables false
set_option maxRecDepth 8000
variable {H : Heap}
/-- What Encode tells. -/
def Ins.word (x : Ins) : Nat := if x.chk = 0 then encN x.o x.d x.a x.b x.i else 0
theorem Ins.word_lt (x : Ins) : x.word < 2 ^ 32 := by unfold Ins.word; split; exact withN_lt _ _ _ _; decide
theorem w8to32 {x : Nat} (h : x < 256) : IntKind.u32.wrap (x : Int) = (x : Int) := w32 (by omega) (by omega)
theorem encode_c {x : Ins} (hx : x.ok) : AC Tryz.prog 49 [.agg x.enc] H (fun r H' => r = .tup [.s (.int .u32 (x.word : Nat)), .s (.int .i64 x.chk)] ∧ H' = H) := by
  have hk := fun H => isaCheck_c (H := H) hx
  by_cases hc : x.chk = 0
  · have hw : x.word = encN x.o x.d x.a x.b x.i := by unfold Ins.word; rw [if_pos hc]
    rw [hw, hc]
    obtain ⟨o, d, a, b, i⟩ := x
    simp only [Ins.enc_def, Ins.ok, hc] at hx hk ⊢
    obtain ⟨h1, h2, h3, h4, h5, h6⟩ := hx
    clear hw hc
    have e1 := w8to32 h1
    have e2 := w8to32 h2
    have e3 := w8to32 h3
    have e4 := w8to32 h4
    have c1 := cutN_lt i
    have e5 := or_nat (cutN i) b (by omega) (by omega)
    have c2 : cutN i ||| b < 2 ^ 32 := or_lt _ _ _ (by omega) (by omega)
    unfold encN
    have A1 := fun H => with_c (H := H) (w := cutN i ||| b) (a := 27) (n := 5) (v := o) c2 (by omega) (by decide)
    have A2 := fun H => with_c (H := H) (w := withN (cutN i ||| b) 27 5 o) (a := 24) (n := 3) (v := d) (withN_lt _ _ _ _) (by omega) (by decide)
    have A3 := fun H => with_c (H := H) (w := withN (withN (cutN i ||| b) 27 5 o) 24 3 d) (a := 21) (n := 3) (v := a) (withN_lt _ _ _ _) (by omega) (by decide)
    simp only [Int.cast_ofNat_Int] at A1 A2 A3
    refine AC.body Tryz.func49 rfl rfl (n := 31) (res := [.tmp 2, .tmp 3]) rfl rfl (by simp) ?_
    simp only [ent]
    (repeat' (first | refine wk ?_ | refine wk2 ?_ ?_ | with_reducible refine wkF fun _ _ _ => ?_ | with_reducible intro _ | refine Calling.eq (hk _) ?_ | refine Calling.eq (cut_c) ?_ | refine Calling.eq (A1 _) ?_ | refine Calling.eq (A2 _) ?_ | refine Calling.eq (A3 _) ?_ | exact ag | fail))
    refine ARun.drawB mixed [([], [0, 1, 3, 4, 5, 7, 8, 9], some 2), ([0, 3, 4, 5, 7, 8, 9], [6], some 10), ([0, 1, 3, 4, 5, 7, 8], [11], none)] (by kernel_rfl) (by rfl) ?_
    (repeat' (first | refine wk ?_ | refine wk2 ?_ ?_ | with_reducible refine wkF fun _ _ _ => ?_ | with_reducible intro _ | refine Calling.eq (hk _) ?_ | refine Calling.eq (cut_c) ?_ | refine Calling.eq (A1 _) ?_ | refine Calling.eq (A2 _) ?_ | refine Calling.eq (A3 _) ?_ | exact ag | fail))
    refine ARun.drawB mixed [([], [0, 1, 2, 3, 5, 6, 7], some 4), ([1, 2, 5, 6, 7], [], some 8), ([0, 1, 2, 3, 5, 6], [9, 10], none)] (by kernel_rfl) (by rfl) ?_
    (repeat' (first | refine wk ?_ | refine wk2 ?_ ?_ | with_reducible refine wkF fun _ _ _ => ?_ | with_reducible intro _ | refine Calling.eq (hk _) ?_ | refine Calling.eq (cut_c) ?_ | refine Calling.eq (A1 _) ?_ | refine Calling.eq (A2 _) ?_ | refine Calling.eq (A3 _) ?_ | exact ag | fail))
    exact fin0
  · have hw : x.word = 0 := by unfold Ins.word; rw [if_neg hc]
    rw [hw]
    have hb : (x.chk != 0) = true := by simpa using hc
    simp only [Ins.enc_def] at hk ⊢
    refine AC.body Tryz.func49 rfl rfl (n := 31) (res := [.tmp 2, .tmp 3]) rfl rfl (by simp) ?_
    simp only [ent]
    (repeat' (first | refine wk ?_ | refine wk2 ?_ ?_ | with_reducible refine wkF fun _ _ _ => ?_ | with_reducible intro _ | refine Calling.eq (hk _) ?_ | exact ag | fail))
    exact fin0
/-- What a word's parts are. -/
def parts (w : Nat) : Ins := ⟨bitsN w 27 5, bitsN w 24 3, bitsN w 21 3, if (usesR (opN w)).2.2.1 = true then bitsN w 0 3 else 0, iN w⟩
theorem parts_ok (w : Nat) : (parts w).ok := by
  have h1 := bitsN_lt w 27 5
  have h2 := bitsN_lt w 24 3
  have h3 := bitsN_lt w 21 3
  have h4 := bitsN_lt w 0 3
  have h5 := iN_lt w
  refine ⟨?_, ?_, ?_, ?_, h5.1, h5.2⟩ <;> simp only [parts] <;> try omega
  split <;> omega
def insOk (w : Nat) : Bool := decide ((parts w).chk = 0) && (parts w).word == w
def Ins.zero : Ins := ⟨0, 0, 0, 0, 0⟩
/-- What Decode tells. -/
def dec (w : Nat) : Ins := if insOk w = true then parts w else Ins.zero
def decE (w : Nat) : Int := if insOk w = true then 0 else 10
theorem bits_c' {w a n : Nat} (hw : w < 2 ^ 32) (h : a + n ≤ 32) (hn : n ≤ 8) : IntKind.u8.wrap ((bitsN w a n : Nat) : Int) = ((bitsN w a n : Nat) : Int) := by
  have h1 := bitsN_lt w a n
  have : 2 ^ n ≤ 2 ^ 8 := Nat.pow_le_pow_right (by decide) hn
  exact w8 (by omega) (by omega)
theorem decode_c {w : Nat} (hw : w < 2 ^ 32) : AC Tryz.prog 30 [.s (.int .u32 w)] H (fun r H' => r = .tup [.agg (dec w).enc, .s (.int .i64 (decE w))] ∧ H' = H) := by
  have B1 := fun H => bits_c (H := H) (w := w) (a := 27) (n := 5) hw (by decide)
  have B2 := fun H => bits_c (H := H) (w := w) (a := 24) (n := 3) hw (by decide)
  have B3 := fun H => bits_c (H := H) (w := w) (a := 21) (n := 3) hw (by decide)
  have B4 := fun H => bits_c (H := H) (w := w) (a := 0) (n := 3) hw (by decide)
  have S := fun H => signed_c (H := H) hw
  simp only [Int.cast_ofNat_Int] at B1 B2 B3 B4
  have e1 := bits_c' hw (a := 27) (n := 5) (by decide) (by decide)
  have e2 := bits_c' hw (a := 24) (n := 3) (by decide) (by decide)
  have e3 := bits_c' hw (a := 21) (n := 3) (by decide) (by decide)
  have e4 := bits_c' hw (a := 0) (n := 3) (by decide) (by decide)
  have hp := parts_ok w
  have E := fun H => encode_c (H := H) hp
  have U := fun H => uses_c (H := H) (o := bitsN w 27 5)
  have hi : ∀ b : Bool, insOk w = b → dec w = (if b = true then parts w else Ins.zero) ∧ decE w = (if b = true then 0 else 10) := fun b h => by unfold dec decE; rw [h]; exact ⟨rfl, rfl⟩
  have ho : insOk w = (decide ((parts w).chk = 0) && (parts w).word == w) := rfl
  have hu : usesR ((bitsN w 27 5 : Nat) : Int) = ((usesR ((bitsN w 27 5 : Nat) : Int)).1, (usesR ((bitsN w 27 5 : Nat) : Int)).2.1, (usesR ((bitsN w 27 5 : Nat) : Int)).2.2.1, (usesR ((bitsN w 27 5 : Nat) : Int)).2.2.2) := rfl
  cases hu3 : (usesR ((bitsN w 27 5 : Nat) : Int)).2.2.1 with
  | true =>
    have hpe : parts w = ⟨bitsN w 27 5, bitsN w 24 3, bitsN w 21 3, bitsN w 0 3, 0⟩ := by unfold parts iN opN; rw [hu3]; rfl
    rw [hu3] at hu
    generalize (usesR ((bitsN w 27 5 : Nat) : Int)).1 = u1 at hu
    generalize (usesR ((bitsN w 27 5 : Nat) : Int)).2.1 = u2 at hu
    generalize (usesR ((bitsN w 27 5 : Nat) : Int)).2.2.2 = u4 at hu
    rw [hu] at U
    simp only [b4_mk] at U
    generalize hk : (parts w).chk = k at E ho
    generalize hv : (parts w).word = v at E ho
    rw [hpe, Ins.enc_def] at E
    simp only [] at E
    clear hk hv hp hu3 hu
    by_cases hk0 : k = 0
    · subst hk0
      by_cases hv0 : v = w
      · subst hv0
        obtain ⟨h1, h2⟩ := hi true (by simpa using ho)
        rw [if_pos rfl, hpe] at h1
        rw [if_pos rfl] at h2
        clear ho hi hpe
        rw [h1, h2, Ins.enc_def]
        clear h1 h2
        refine AC.body Tryz.func30 rfl rfl (n := 51) (res := [.cell 2 24, .tmp 3]) rfl rfl (by simp) ?_
        simp only [ent]
        (repeat' (first | refine wk ?_ | refine wk2 ?_ ?_ | with_reducible refine wkF fun _ _ _ => ?_ | with_reducible intro _ | refine Calling.eq (B1 _) ?_ | refine Calling.eq (B2 _) ?_ | refine Calling.eq (B3 _) ?_ | refine Calling.eq (B4 _) ?_ | refine Calling.eq (S _) ?_ | refine Calling.eq (U _) ?_ | refine Calling.eq (E _) ?_ | exact ag | fail))
        exact fin0
      · have hb : (((v : Nat) : Int) != (w : Int)) = true := by simp; omega
        obtain ⟨h1, h2⟩ := hi false (by rw [ho]; simp [hv0])
        rw [if_neg (by simp)] at h1 h2
        clear ho hi hpe
        rw [h1, h2]
        clear h1 h2
        refine AC.body Tryz.func30 rfl rfl (n := 51) (res := [.cell 2 24, .tmp 3]) rfl rfl (by simp) ?_
        simp only [ent]
        (repeat' (first | refine wk ?_ | refine wk2 ?_ ?_ | with_reducible refine wkF fun _ _ _ => ?_ | with_reducible intro _ | refine Calling.eq (B1 _) ?_ | refine Calling.eq (B2 _) ?_ | refine Calling.eq (B3 _) ?_ | refine Calling.eq (B4 _) ?_ | refine Calling.eq (S _) ?_ | refine Calling.eq (U _) ?_ | refine Calling.eq (E _) ?_ | exact ag | fail))
        exact fin0
    · have hb : (k != 0) = true := by simpa using hk0
      obtain ⟨h1, h2⟩ := hi false (by rw [ho]; simp [hk0])
      rw [if_neg (by simp)] at h1 h2
      clear ho hi hpe
      rw [h1, h2]
      clear h1 h2
      refine AC.body Tryz.func30 rfl rfl (n := 51) (res := [.cell 2 24, .tmp 3]) rfl rfl (by simp) ?_
      simp only [ent]
      (repeat' (first | refine wk ?_ | refine wk2 ?_ ?_ | with_reducible refine wkF fun _ _ _ => ?_ | with_reducible intro _ | refine Calling.eq (B1 _) ?_ | refine Calling.eq (B2 _) ?_ | refine Calling.eq (B3 _) ?_ | refine Calling.eq (B4 _) ?_ | refine Calling.eq (S _) ?_ | refine Calling.eq (U _) ?_ | refine Calling.eq (E _) ?_ | exact ag | fail))
      exact fin0
  | false =>
    have hpe : parts w = ⟨bitsN w 27 5, bitsN w 24 3, bitsN w 21 3, 0, signN w⟩ := by unfold parts iN opN; rw [hu3]; rfl
    rw [hu3] at hu
    generalize (usesR ((bitsN w 27 5 : Nat) : Int)).1 = u1 at hu
    generalize (usesR ((bitsN w 27 5 : Nat) : Int)).2.1 = u2 at hu
    generalize (usesR ((bitsN w 27 5 : Nat) : Int)).2.2.2 = u4 at hu
    rw [hu] at U
    simp only [b4_mk] at U
    generalize hk : (parts w).chk = k at E ho
    generalize hv : (parts w).word = v at E ho
    rw [hpe, Ins.enc_def] at E
    simp only [Int.cast_ofNat_Int] at E
    clear hk hv hp hu3 hu
    by_cases hk0 : k = 0
    · subst hk0
      by_cases hv0 : v = w
      · subst hv0
        obtain ⟨h1, h2⟩ := hi true (by simpa using ho)
        rw [if_pos rfl, hpe] at h1
        rw [if_pos rfl] at h2
        clear ho hi hpe
        rw [h1, h2, Ins.enc_def]
        clear h1 h2
        refine AC.body Tryz.func30 rfl rfl (n := 51) (res := [.cell 2 24, .tmp 3]) rfl rfl (by simp) ?_
        simp only [ent]
        (repeat' (first | refine wk ?_ | refine wk2 ?_ ?_ | with_reducible refine wkF fun _ _ _ => ?_ | with_reducible intro _ | refine Calling.eq (B1 _) ?_ | refine Calling.eq (B2 _) ?_ | refine Calling.eq (B3 _) ?_ | refine Calling.eq (B4 _) ?_ | refine Calling.eq (S _) ?_ | refine Calling.eq (U _) ?_ | refine Calling.eq (E _) ?_ | exact ag | fail))
        exact fin0
      · have hb : (((v : Nat) : Int) != (w : Int)) = true := by simp; omega
        obtain ⟨h1, h2⟩ := hi false (by rw [ho]; simp [hv0])
        rw [if_neg (by simp)] at h1 h2
        clear ho hi hpe
        rw [h1, h2]
        clear h1 h2
        refine AC.body Tryz.func30 rfl rfl (n := 51) (res := [.cell 2 24, .tmp 3]) rfl rfl (by simp) ?_
        simp only [ent]
        (repeat' (first | refine wk ?_ | refine wk2 ?_ ?_ | with_reducible refine wkF fun _ _ _ => ?_ | with_reducible intro _ | refine Calling.eq (B1 _) ?_ | refine Calling.eq (B2 _) ?_ | refine Calling.eq (B3 _) ?_ | refine Calling.eq (B4 _) ?_ | refine Calling.eq (S _) ?_ | refine Calling.eq (U _) ?_ | refine Calling.eq (E _) ?_ | exact ag | fail))
        exact fin0
    · have hb : (k != 0) = true := by simpa using hk0
      obtain ⟨h1, h2⟩ := hi false (by rw [ho]; simp [hk0])
      rw [if_neg (by simp)] at h1 h2
      clear ho hi hpe
      rw [h1, h2]
      clear h1 h2
      refine AC.body Tryz.func30 rfl rfl (n := 51) (res := [.cell 2 24, .tmp 3]) rfl rfl (by simp) ?_
      simp only [ent]
      (repeat' (first | refine wk ?_ | refine wk2 ?_ ?_ | with_reducible refine wkF fun _ _ _ => ?_ | with_reducible intro _ | refine Calling.eq (B1 _) ?_ | refine Calling.eq (B2 _) ?_ | refine Calling.eq (B3 _) ?_ | refine Calling.eq (B4 _) ?_ | refine Calling.eq (S _) ?_ | refine Calling.eq (U _) ?_ | refine Calling.eq (E _) ?_ | exact ag | fail))
      exact fin0
end Go.Abs
/- Words and instructions: what the references make. -/
namespace Go.Abs
set_option linter.unusedSimpArgs false
set_option linter.unusedVariables false
set_option maxHeartbeats 4000000
open Go.Proofs Go.Wd
set_option linter.unusedVariables false
set_option maxRecDepth 8000
variable {H : Heap}
theorem wu64 {x : Int} (h0 : 0 ≤ x) (h1 : x < 18446744073709551616) : IntKind.u64.wrap x = x := by rw [IntKind.wrap_u64]; omega
theorem rMay_c {a n : Nat} (h : a + n ≤ 32) : AC Tryz.prog 71 [.s (.int .i64 a), .s (.int .i64 n)] H (fun r H' => r = .s (.bool true) ∧ H' = H) := by
  refine AC.body Tryz.func71 rfl rfl (n := 21) (res := [.tmp 4]) rfl rfl (by simp) ?_
  simp only [ent]
  have h1 : (a : Int) ≤ 32 := by omega
  have hw : IntKind.i64.wrap (32 - (a : Int)) = 32 - a := wi64 (by omega) (by omega)
  have h2 : (n : Int) ≤ 32 - a := by omega
  (repeat' (first | refine wk ?_ | refine wk2 ?_ ?_ | with_reducible refine wkF fun _ _ _ => ?_ | with_reducible intro _ | exact ag | fail))
  exact fin0
theorem rbit_c {w i : Nat} (hw : w < 2 ^ 32) (hi : i < 32) : AC Tryz.prog 72 [.s (.int .u32 w), .s (.int .i64 i)] H (fun r H' => r = .s (.int .u32 (w.testBit i).toNat) ∧ H' = H) := by
  refine AC.body Tryz.func72 rfl rfl (n := 10) (res := [.tmp 4]) rfl rfl (by simp) ?_
  simp only [ent]
  have e0 : IntKind.u64.wrap (i : Int) = i := wu64 (by omega) (by omega)
  have e1 := wshr (a := w) (n := i) (by omega)
  have e2 := and_nat _ 1 (shr_lt i hw) (by decide)
  rw [bit_one] at e2
  simp only [Int.cast_ofNat_Int] at e2
  (repeat' (first | refine wk ?_ | refine wk2 ?_ ?_ | with_reducible refine wkF fun _ _ _ => ?_ | with_reducible intro _ | exact ag | fail))
  exact fin0
/-- One bit more of a number. -/
theorem mod_step (x i : Nat) : x % 2 ^ (i + 1) = x % 2 ^ i ||| ((x.testBit i).toNat <<< i) := by
  refine Nat.eq_of_testBit_eq fun j => ?_
  rw [put_bit _ i _ j (Nat.mod_lt _ (Nat.two_pow_pos i)), Nat.testBit_mod_two_pow, Nat.testBit_mod_two_pow]
  by_cases hj : j = i
  · subst hj; simp
  · rw [if_neg hj]
    by_cases h : j < i
    · rw [decide_eq_true h, decide_eq_true (show j < i + 1 by omega)]
    · rw [decide_eq_false h, decide_eq_false (show ¬ j < i + 1 by omega)]
theorem put_one (x i : Nat) (hi : i < 32) (b : Bool) (hb : x.testBit i = b) : Go.bits .or .u32 ((x % 2 ^ i : Nat) : Int) (shlK .u32 ((b.toNat : Nat) : Int) (i : Nat)) = ((x % 2 ^ (i + 1) : Nat) : Int) := by
  subst hb
  have hp : 2 ^ i < 2 ^ 32 := Nat.pow_lt_pow_right (by decide) hi
  have h1 : x % 2 ^ i < 2 ^ 32 := Nat.lt_trans (Nat.mod_lt _ (Nat.two_pow_pos i)) hp
  have : (x.testBit i).toNat <<< i < 2 ^ 32 := by
    rw [Nat.shiftLeft_eq]
    cases x.testBit i <;> simp <;> omega
  rw [wshl (by omega), or_nat _ _ h1 (Nat.mod_lt _ (by decide)), Nat.mod_eq_of_lt this, ← mod_step]
theorem rbits_c {w a n : Nat} (hw : w < 2 ^ 32) (h : a + n ≤ 32) : AC Tryz.prog 51 [.s (.int .u32 w), .s (.int .i64 a), .s (.int .i64 n)] H (fun r H' => r = .s (.int .u32 (bitsN w a n : Nat)) ∧ H' = H) := by
  refine AC.body Tryz.func51 rfl rfl (n := 29) (res := [.tmp 6]) rfl rfl (by simp) ?_
  simp only [ent]
  (repeat' (first | refine wk ?_ | refine wk2 ?_ ?_ | with_reducible refine wkF fun _ _ _ => ?_ | with_reducible intro _ | refine Calling.eq (rMay_c h) ?_ | exact ag | fail))
  refine ARun.rounds (fun i : Nat => ⟨[(0, .s (.int .u32 w)), (1, .s (.int .i64 a)), (2, .s (.int .i64 n)), (7, .s (.int .u32 (bitsN w a n % 2 ^ i : Nat))), (8, .s (.int .i64 i))], H⟩) (fun i => n - i) (fun i => i ≤ n) ?_ 0 (by omega) ?_
  · intro i hi next
    by_cases hlt : i < n
    · have h1 : (i : Int) < n := by omega
      have e1 : IntKind.i64.wrap ((a : Int) + i) = ((a + i : Nat) : Int) := by rw [wi64 (by omega) (by omega)]; simp
      have e2 : IntKind.u64.wrap (i : Int) = i := wu64 (by omega) (by omega)
      have e3 := put_one (bitsN w a n) i (by omega) (w.testBit (a + i)) (by rw [bitsN_bit, decide_eq_true hlt]; rfl)
      have e4 : IntKind.i64.wrap ((i : Int) + 1) = ((i + 1 : Nat) : Int) := by rw [wi64 (by omega) (by omega)]; simp
      (repeat' (first | refine wk ?_ | refine wk2 ?_ ?_ | with_reducible refine wkF fun _ _ _ => ?_ | with_reducible intro _ | refine Calling.eq (rbit_c hw (i := a + i) (by omega)) ?_ | exact ag | fail))
      exact ARun.weaken (next.go (i + 1) (by omega) (by omega)) (leK (Sub.refl _))
    · have h1 : decide ((i : Int) < n) = false := by simp; omega
      have hn : bitsN w a n % 2 ^ i = bitsN w a n := by rw [show i = n by omega]; exact Nat.mod_eq_of_lt (bitsN_lt _ _ _)
      (repeat' (first | refine wk ?_ | refine wk2 ?_ ?_ | with_reducible refine wkF fun _ _ _ => ?_ | with_reducible intro _ | exact ag | fail))
      exact fin0
  · exact leK (Sub.refl _)
theorem rwith_c {w a n v : Nat} (hw : w < 2 ^ 32) (hv : v < 2 ^ 32) (h : a + n ≤ 32) : AC Tryz.prog 73 [.s (.int .u32 w), .s (.int .i64 a), .s (.int .i64 n), .s (.int .u32 v)] H (fun r H' => r = .s (.int .u32 (withN w a n v : Nat)) ∧ H' = H) := by
  refine AC.body Tryz.func73 rfl rfl (n := 49) (res := [.tmp 8]) rfl rfl (by simp) ?_
  simp only [ent]
  (repeat' (first | refine wk ?_ | refine wk2 ?_ ?_ | with_reducible refine wkF fun _ _ _ => ?_ | with_reducible intro _ | refine Calling.eq (rMay_c h) ?_ | exact ag | fail))
  refine ARun.rounds (fun i : Nat => ⟨[(0, .s (.int .u32 w)), (1, .s (.int .i64 a)), (2, .s (.int .i64 n)), (3, .s (.int .u32 v)), (9, .s (.int .u32 (withN w a n v % 2 ^ i : Nat))), (10, .s (.int .i64 i))], H⟩) (fun i => 32 - i) (fun i => i ≤ 32) ?_ 0 (by omega) ?_
  · intro i hi next
    by_cases hlt : i < 32
    · have h1 : (i : Int) < 32 := by omega
      have e1 : IntKind.i64.wrap ((a : Int) + n) = ((a + n : Nat) : Int) := by rw [wi64 (by omega) (by omega)]; simp
      have e2 : IntKind.u64.wrap (i : Int) = i := wu64 (by omega) (by omega)
      have e4 : IntKind.i64.wrap ((i : Int) + 1) = ((i + 1 : Nat) : Int) := by rw [wi64 (by omega) (by omega)]; simp
      have hbit := withN_bit w a n v i hw h hlt
      by_cases hin : a ≤ i ∧ i < a + n
      · rw [if_pos hin] at hbit
        have h2 : (a : Int) ≤ i := by omega
        have h3 : (i : Int) < ((a + n : Nat) : Int) := by omega
        have e5 : IntKind.i64.wrap ((i : Int) - a) = ((i - a : Nat) : Int) := by rw [wi64 (by omega) (by omega)]; omega
        have e3 := put_one (withN w a n v) i hlt _ hbit
        clear hbit hin
        (repeat' (first | refine wk ?_ | refine wk2 ?_ ?_ | with_reducible refine wkF fun _ _ _ => ?_ | with_reducible intro _ | refine Calling.eq (rbit_c hv (i := i - a) (by omega)) ?_ | exact ag | fail))
        exact ARun.weaken (next.go (i + 1) (by omega) (by omega)) (leK (Sub.refl _))
      · rw [if_neg hin] at hbit
        have e3 := put_one (withN w a n v) i hlt _ hbit
        clear hbit
        by_cases h2 : a ≤ i
        · have h2' : (a : Int) ≤ i := by omega
          have h3 : decide ((i : Int) < ((a + n : Nat) : Int)) = false := by simp; omega
          clear hin h2
          (repeat' (first | refine wk ?_ | refine wk2 ?_ ?_ | with_reducible refine wkF fun _ _ _ => ?_ | with_reducible intro _ | refine Calling.eq (rbit_c hw (i := i) (by omega)) ?_ | exact ag | fail))
          exact ARun.weaken (next.go (i + 1) (by omega) (by omega)) (leK (Sub.refl _))
        · have h2' : decide ((a : Int) ≤ i) = false := by simp; omega
          clear hin h2
          (repeat' (first | refine wk ?_ | refine wk2 ?_ ?_ | with_reducible refine wkF fun _ _ _ => ?_ | with_reducible intro _ | refine Calling.eq (rbit_c hw (i := i) (by omega)) ?_ | exact ag | fail))
          exact ARun.weaken (next.go (i + 1) (by omega) (by omega)) (leK (Sub.refl _))
    · have h1 : decide ((i : Int) < 32) = false := by simp; omega
      have hn : withN w a n v % 2 ^ i = withN w a n v := by rw [show i = 32 by omega]; exact Nat.mod_eq_of_lt (withN_lt _ _ _ _)
      (repeat' (first | refine wk ?_ | refine wk2 ?_ ?_ | with_reducible refine wkF fun _ _ _ => ?_ | with_reducible intro _ | exact ag | fail))
      exact fin0
  · exact leK (Sub.refl _)
theorem rcut_c {v : Int} : AC Tryz.prog 74 [.s (.int .i32 v), .s (.int .i64 21)] H (fun r H' => r = .s (.int .u32 (cutN v : Nat)) ∧ H' = H) := by
  refine AC.body Tryz.func74 rfl rfl (n := 12) (res := [.tmp 4]) rfl rfl (by simp) ?_
  simp only [ent]
  have e : IntKind.u32.wrap v = (((v % 4294967296).toNat : Nat) : Int) := by rw [IntKind.wrap_u32]; omega
  have B := fun H => rbits_c (H := H) (w := (v % 4294967296).toNat) (a := 0) (n := 21) (by omega) (by decide)
  rw [cut_bits] at B
  simp only [Int.cast_ofNat_Int] at B
  (repeat' (first | refine wk ?_ | refine wk2 ?_ ?_ | with_reducible refine wkF fun _ _ _ => ?_ | with_reducible intro _ | refine Doing.eq (oc_min) ?_ | refine Calling.eq (B _) ?_ | exact ag | fail))
  exact fin0
theorem rsigned_c {w : Nat} (hw : w < 2 ^ 32) : AC Tryz.prog 52 [.s (.int .u32 w), .s (.int .i64 21)] H (fun r H' => r = .s (.int .i32 (signN w)) ∧ H' = H) := by
  refine AC.body Tryz.func52 rfl rfl (n := 28) (res := [.tmp 4]) rfl rfl (by simp) ?_
  simp only [ent]
  have B := fun H => rbits_c (H := H) (w := w) (a := 0) (n := 21) hw (by decide)
  have T := fun H => rbit_c (H := H) (w := w) (i := 20) hw (by decide)
  rw [bitsN_mod] at B
  rw [bit20] at T
  simp only [Int.cast_ofNat_Int] at B T
  have e0 : IntKind.i64.wrap (21 - 1) = 20 := rfl
  have e1 : IntKind.i64.wrap ((w % 2 ^ 21 : Nat) : Int) = ((w % 2 ^ 21 : Nat) : Int) := wi64 (by omega) (by omega)
  have e2 : IntKind.u64.wrap 21 = 21 := rfl
  have e3 : shlK .i64 1 21 = 2097152 := rfl
  by_cases h : w % 2097152 < 1048576
  · have h1 : (((w % 2097152 / 1048576 : Nat) : Int) == 1) = false := by simp; omega
    have hs : IntKind.i32.wrap ((w % 2 ^ 21 : Nat) : Int) = signN w := by unfold signN; rw [if_pos h, IntKind.wrap_i32]; omega
    clear h
    (repeat' (first | refine wk ?_ | refine wk2 ?_ ?_ | with_reducible refine wkF fun _ _ _ => ?_ | with_reducible intro _ | refine Calling.eq (B _) ?_ | refine Calling.eq (T _) ?_ | exact ag | fail))
    exact fin0
  · have h1 : (((w % 2097152 / 1048576 : Nat) : Int) == 1) = true := by simp; omega
    have hs : IntKind.i32.wrap (IntKind.i64.wrap (((w % 2 ^ 21 : Nat) : Int) - 2097152)) = signN w := by unfold signN; rw [if_neg h, wi64 (by omega) (by omega), IntKind.wrap_i32]; omega
    clear h
    (repeat' (first | refine wk ?_ | refine wk2 ?_ ?_ | with_reducible refine wkF fun _ _ _ => ?_ | with_reducible intro _ | refine Calling.eq (B _) ?_ | refine Calling.eq (T _) ?_ | exact ag | fail))
    exact fin0
theorem rfits_c {v : Int} : AC Tryz.prog 42 [.s (.int .i64 v), .s (.int .i64 21)] H (fun r H' => r = .s (.bool (fits21 v)) ∧ H' = H) := by
  refine AC.body Tryz.func42 rfl rfl (n := 26) (res := [.tmp 4]) rfl rfl (by simp) ?_
  simp only [ent]
  have e0 : IntKind.i64.wrap (21 - 1) = 20 := rfl
  have e2 : IntKind.u64.wrap 20 = 20 := rfl
  have e3 : shlK .i64 1 20 = 1048576 := rfl
  have e4 : IntKind.i64.wrap (0 - 1048576) = -1048576 := rfl
  have e5 : IntKind.i64.wrap (1048576 - 1) = 1048575 := rfl
  (repeat' (first | refine wk ?_ | refine wk2 ?_ ?_ | with_reducible refine wkF fun _ _ _ => ?_ | with_reducible intro _ | exact ag | fail))
  all_goals
    refine fin1 ⟨?_, rfl⟩
    simp only [resV, fits21]
    simp_all
    try (rw [Bool.eq_iff_iff]; simp)
    try omega
end Go.Abs
/- Instructions: what the references make. -/
namespace Go.Abs
set_option linter.unusedSimpArgs false
set_option linter.unusedVariables false
set_option maxHeartbeats 4000000
open Go.Proofs Go.Wd
set_option linter.unusedVariables false
set_option maxRecDepth 8000
variable {H : Heap}
theorem ruses_c {o : Nat} : AC Tryz.prog 24 [.s (.int .u8 o)] H (fun r H' => r = .agg (b4 (usesR o)) ∧ H' = H) := by
  refine AC.body Tryz.func24 rfl rfl (n := 33) (res := [.cell 2 52]) rfl rfl (by simp) ?_
  simp only [ent]
  have hc := op_cases (o : Int)
  have h0 : (0 : Int) ≤ o := Int.natCast_nonneg _
  generalize (o : Int) = z at hc h0
  rcases hc with h | h | h | h | h | h | h | h | h | h | h | h | h | h | h | h | h | h | h | h | h | h | h | h
  case inr.inr.inr.inr.inr.inr.inr.inr.inr.inr.inr.inr.inr.inr.inr.inr.inr.inr.inr.inr.inr.inr.inr =>
    have e : ∀ k : Int, k ≤ 21 → (z == k) = false := fun k hk => by simp; omega
    have q2 := e 2 (by decide)
    have q3 := e 3 (by decide)
    have q4 := e 4 (by decide)
    have q5 := e 5 (by decide)
    have q6 := e 6 (by decide)
    have q7 := e 7 (by decide)
    have q8 := e 8 (by decide)
    have q9 := e 9 (by decide)
    have q10 := e 10 (by decide)
    have q11 := e 11 (by decide)
    have q12 := e 12 (by decide)
    have q13 := e 13 (by decide)
    have q14 := e 14 (by decide)
    have q15 := e 15 (by decide)
    have q16 := e 16 (by decide)
    have q17 := e 17 (by decide)
    have q19 := e 19 (by decide)
    have q21 := e 21 (by decide)
    have hu : usesR z = (false, false, false, false) := by unfold usesR; rw [if_neg (by omega), if_neg (by omega), if_neg (by omega), if_neg (by omega), if_neg (by omega)]
    rw [hu, b4_mk]
    clear hu e
    (repeat' (first | refine wk ?_ | refine wk2 ?_ ?_ | with_reducible refine wkF fun _ _ _ => ?_ | with_reducible intro _ | exact ag | fail))
    exact fin0
  case inl => omega
  all_goals
    subst h
    (repeat' (first | refine wk ?_ | refine wk2 ?_ ?_ | with_reducible refine wkF fun _ _ _ => ?_ | with_reducible intro _ | exact ag | fail))
    exact fin0
set_option maxHeartbeats 2000000 in
theorem rCheckI_c {x : Ins} (hx : x.ok) : AC Tryz.prog 23 [.agg x.enc] H (fun r H' => r = .s (.int .i64 x.chk) ∧ H' = H) := by
  refine AC.body Tryz.func23 rfl rfl (n := 95) (res := [.tmp 2]) rfl rfl (by simp) ?_
  simp only [ent]
  obtain ⟨o, d, a, b, i⟩ := x
  simp only [Ins.enc_def, Ins.ok] at hx ⊢
  obtain ⟨_, _, _, _, h5, h6⟩ := hx
  have hw : IntKind.i64.wrap i = i := wi64 (by omega) (by omega)
  have hf : ∀ H : Heap, AC Tryz.prog 42 [.s (.int .i64 i), .s (.int .i64 21)] H (fun r H' => r = .s (.bool (fits21 i)) ∧ H' = H) := fun H => rfits_c
  have hu : usesR o = ((usesR o).1, (usesR o).2.1, (usesR o).2.2.1, (usesR o).2.2.2) := rfl
  generalize hu1 : (usesR o).1 = u1 at hu
  generalize hu2 : (usesR o).2.1 = u2 at hu
  generalize hu3 : (usesR o).2.2.1 = u3 at hu
  generalize hu4 : (usesR o).2.2.2 = u4 at hu
  have hU : ∀ H : Heap, AC Tryz.prog 24 [.s (.int .u8 o)] H (fun r H' => r = .agg [.s (.bool u1), .s (.bool u2), .s (.bool u3), .s (.bool u4)] ∧ H' = H) := fun H => by have := ruses_c (H := H) (o := o); rw [hu] at this; exact this
  clear hu
  (repeat' (first | refine wk ?_ | refine wk2 ?_ ?_ | with_reducible refine wkF fun _ _ _ => ?_ | with_reducible intro _ | refine Calling.eq (hU _) ?_ | refine Calling.eq (hf _) ?_ | exact ag | fail))
  all_goals
    refine fin1 ⟨?_, rfl⟩
    clear hU hf
    simp only [resV, Ins.chk, checkR, badR, regR, hu1, hu2, hu3, hu4]
    simp_all
    try omega
theorem enc_low {o d a b : Nat} {i : Int} (low : Nat) (hl : low < 2 ^ 21) (e : cutN i ||| b = low) : withN (withN (withN (withN 0 27 5 o) 24 3 d) 21 3 a) 0 21 low = encN o d a b i := by
  unfold encN
  rw [e]
  have hl2 : low < 2 ^ 32 := by omega
  refine word_ext (withN_lt _ _ _ _) (withN_lt _ _ _ _) fun j hj => ?_
  rw [withN_bit _ _ _ _ _ (withN_lt _ _ _ _) (by decide) hj, withN_bit _ _ _ _ _ (withN_lt _ _ _ _) (by decide) hj, withN_bit _ _ _ _ _ (withN_lt _ _ _ _) (by decide) hj, withN_bit _ _ _ _ _ (by decide) (by decide) hj,
    withN_bit _ _ _ _ _ (withN_lt _ _ _ _) (by decide) hj, withN_bit _ _ _ _ _ (withN_lt _ _ _ _) (by decide) hj, withN_bit _ _ _ _ _ hl2 (by decide) hj]
  repeat' split
  all_goals first | rfl | (exfalso; omega) | (simp; done) | skip
  all_goals (have hz := bit_out hl (i := j) (by omega); simp [hz])
theorem rEncode_c {x : Ins} (hx : x.ok) : AC Tryz.prog 53 [.agg x.enc] H (fun r H' => r = .tup [.s (.int .u32 (x.word : Nat)), .s (.int .i64 x.chk)] ∧ H' = H) := by
  have hk := fun H => rCheckI_c (H := H) hx
  by_cases hc : x.chk = 0
  · have hw : x.word = encN x.o x.d x.a x.b x.i := by unfold Ins.word; rw [if_pos hc]
    rw [hw, hc]
    obtain ⟨o, d, a, b, i⟩ := x
    obtain ⟨z1, z2, z3, z4, z5, z6, z7⟩ := check_zero (o := o) (d := d) (a := a) (b := b) (i := i) hc
    simp only [Ins.enc_def, Ins.ok, hc] at hx hk ⊢
    obtain ⟨h1, h2, h3, h4, h5, h6⟩ := hx
    clear hw hc
    have e1 := w8to32 h1
    have e2 := w8to32 h2
    have e3 := w8to32 h3
    have e4 := w8to32 h4
    have c1 := cutN_lt i
    have A1 := fun H => rwith_c (H := H) (w := 0) (a := 27) (n := 5) (v := o) (by decide) (by omega) (by decide)
    have A2 := fun H => rwith_c (H := H) (w := withN 0 27 5 o) (a := 24) (n := 3) (v := d) (withN_lt _ _ _ _) (by omega) (by decide)
    have A3 := fun H => rwith_c (H := H) (w := withN (withN 0 27 5 o) 24 3 d) (a := 21) (n := 3) (v := a) (withN_lt _ _ _ _) (by omega) (by decide)
    have U := fun H => ruses_c (H := H) (o := o)
    have hu : usesR o = ((usesR o).1, (usesR o).2.1, (usesR o).2.2.1, (usesR o).2.2.2) := rfl
    cases hu3 : (usesR (o : Int)).2.2.1 with
    | true =>
      have hi0 : i = 0 := by
        rcases z5 with h | h
        · rw [usesB o hu3] at h; cases h
        · exact h
      have hb8 := (reg_lt (Int.natCast_nonneg b) z4).1
      have A4 := fun H => rwith_c (H := H) (w := withN (withN (withN 0 27 5 o) 24 3 d) 21 3 a) (a := 0) (n := 21) (v := b) (withN_lt _ _ _ _) (by omega) (by decide)
      rw [enc_low (o := o) (d := d) (a := a) (b := b) (i := i) b (by omega) (by rw [hi0]; simp [cutN])] at A4
      rw [hu3] at hu
      generalize (usesR (o : Int)).1 = u1 at hu
      generalize (usesR (o : Int)).2.1 = u2 at hu
      generalize (usesR (o : Int)).2.2.2 = u4 at hu
      rw [hu] at U
      simp only [b4_mk, Int.cast_ofNat_Int] at U A1 A2 A3 A4
      clear z1 z2 z3 z4 z5 z6 z7 hu hu3 hi0
      refine AC.body Tryz.func53 rfl rfl (n := 39) (res := [.tmp 2, .tmp 3]) rfl rfl (by simp) ?_
      simp only [ent]
      (repeat' (first | refine wk ?_ | refine wk2 ?_ ?_ | with_reducible refine wkF fun _ _ _ => ?_ | with_reducible intro _ | refine Calling.eq (hk _) ?_ | refine Calling.eq (A1 _) ?_ | refine Calling.eq (A2 _) ?_ | refine Calling.eq (A3 _) ?_ | refine Calling.eq (U _) ?_ | refine Calling.eq (A4 _) ?_ | exact ag | fail))
      exact fin0
    | false =>
      have hb0 : b = 0 := by have := (reg_lt (Int.natCast_nonneg b) z4).2 hu3; omega
      have A4 := fun H => rwith_c (H := H) (w := withN (withN (withN 0 27 5 o) 24 3 d) 21 3 a) (a := 0) (n := 21) (v := cutN i) (withN_lt _ _ _ _) (by omega) (by decide)
      rw [enc_low (i := i) (b := b) (cutN i) c1 (by rw [hb0]; simp)] at A4
      rw [hu3] at hu
      generalize (usesR (o : Int)).1 = u1 at hu
      generalize (usesR (o : Int)).2.1 = u2 at hu
      generalize (usesR (o : Int)).2.2.2 = u4 at hu
      rw [hu] at U
      simp only [b4_mk, Int.cast_ofNat_Int] at U A1 A2 A3 A4
      clear z1 z2 z3 z4 z5 z6 z7 hu hu3 hb0
      refine AC.body Tryz.func53 rfl rfl (n := 39) (res := [.tmp 2, .tmp 3]) rfl rfl (by simp) ?_
      simp only [ent]
      (repeat' (first | refine wk ?_ | refine wk2 ?_ ?_ | with_reducible refine wkF fun _ _ _ => ?_ | with_reducible intro _ | refine Calling.eq (hk _) ?_ | refine Calling.eq (A1 _) ?_ | refine Calling.eq (A2 _) ?_ | refine Calling.eq (A3 _) ?_ | refine Calling.eq (U _) ?_ | refine Calling.eq (rcut_c) ?_ | refine Calling.eq (A4 _) ?_ | exact ag | fail))
      exact fin0
  · have hw : x.word = 0 := by unfold Ins.word; rw [if_neg hc]
    rw [hw]
    have hb : (x.chk != 0) = true := by simpa using hc
    simp only [Ins.enc_def] at hk ⊢
    refine AC.body Tryz.func53 rfl rfl (n := 39) (res := [.tmp 2, .tmp 3]) rfl rfl (by simp) ?_
    simp only [ent]
    (repeat' (first | refine wk ?_ | refine wk2 ?_ ?_ | with_reducible refine wkF fun _ _ _ => ?_ | with_reducible intro _ | refine Calling.eq (hk _) ?_ | exact ag | fail))
    exact fin0
theorem rDecode_c {w : Nat} (hw : w < 2 ^ 32) : AC Tryz.prog 34 [.s (.int .u32 w)] H (fun r H' => r = .tup [.agg (dec w).enc, .s (.int .i64 (decE w))] ∧ H' = H) := by
  have B1 := fun H => rbits_c (H := H) (w := w) (a := 27) (n := 5) hw (by decide)
  have B2 := fun H => rbits_c (H := H) (w := w) (a := 24) (n := 3) hw (by decide)
  have B3 := fun H => rbits_c (H := H) (w := w) (a := 21) (n := 3) hw (by decide)
  have B4 := fun H => rbits_c (H := H) (w := w) (a := 0) (n := 3) hw (by decide)
  have S := fun H => rsigned_c (H := H) hw
  simp only [Int.cast_ofNat_Int] at B1 B2 B3 B4
  have e1 := bits_c' hw (a := 27) (n := 5) (by decide) (by decide)
  have e2 := bits_c' hw (a := 24) (n := 3) (by decide) (by decide)
  have e3 := bits_c' hw (a := 21) (n := 3) (by decide) (by decide)
  have e4 := bits_c' hw (a := 0) (n := 3) (by decide) (by decide)
  have hp := parts_ok w
  have E := fun H => rEncode_c (H := H) hp
  have U := fun H => ruses_c (H := H) (o := bitsN w 27 5)
  have hi : ∀ b : Bool, insOk w = b → dec w = (if b = true then parts w else Ins.zero) ∧ decE w = (if b = true then 0 else 10) := fun b h => by unfold dec decE; rw [h]; exact ⟨rfl, rfl⟩
  have ho : insOk w = (decide ((parts w).chk = 0) && (parts w).word == w) := rfl
  have hu : usesR ((bitsN w 27 5 : Nat) : Int) = ((usesR ((bitsN w 27 5 : Nat) : Int)).1, (usesR ((bitsN w 27 5 : Nat) : Int)).2.1, (usesR ((bitsN w 27 5 : Nat) : Int)).2.2.1, (usesR ((bitsN w 27 5 : Nat) : Int)).2.2.2) := rfl
  cases hu3 : (usesR ((bitsN w 27 5 : Nat) : Int)).2.2.1 with
  | true =>
    have hpe : parts w = ⟨bitsN w 27 5, bitsN w 24 3, bitsN w 21 3, bitsN w 0 3, 0⟩ := by unfold parts iN opN; rw [hu3]; rfl
    rw [hu3] at hu
    generalize (usesR ((bitsN w 27 5 : Nat) : Int)).1 = u1 at hu
    generalize (usesR ((bitsN w 27 5 : Nat) : Int)).2.1 = u2 at hu
    generalize (usesR ((bitsN w 27 5 : Nat) : Int)).2.2.2 = u4 at hu
    rw [hu] at U
    simp only [b4_mk] at U
    generalize hk : (parts w).chk = k at E ho
    generalize hv : (parts w).word = v at E ho
    rw [hpe, Ins.enc_def] at E
    simp only [] at E
    clear hk hv hp hu3 hu
    by_cases hk0 : k = 0
    · subst hk0
      by_cases hv0 : v = w
      · subst hv0
        obtain ⟨h1, h2⟩ := hi true (by simpa using ho)
        rw [if_pos rfl, hpe] at h1
        rw [if_pos rfl] at h2
        clear ho hi hpe
        rw [h1, h2, Ins.enc_def]
        clear h1 h2
        refine AC.body Tryz.func34 rfl rfl (n := 42) (res := [.cell 2 24, .tmp 3]) rfl rfl (by simp) ?_
        simp only [ent]
        (repeat' (first | refine wk ?_ | refine wk2 ?_ ?_ | with_reducible refine wkF fun _ _ _ => ?_ | with_reducible intro _ | refine Calling.eq (B1 _) ?_ | refine Calling.eq (B2 _) ?_ | refine Calling.eq (B3 _) ?_ | refine Calling.eq (B4 _) ?_ | refine Calling.eq (S _) ?_ | refine Calling.eq (U _) ?_ | refine Calling.eq (E _) ?_ | exact ag | fail))
        exact fin0
      · have hb : (((v : Nat) : Int) != (w : Int)) = true := by simp; omega
        obtain ⟨h1, h2⟩ := hi false (by rw [ho]; simp [hv0])
        rw [if_neg (by simp)] at h1 h2
        clear ho hi hpe
        rw [h1, h2]
        clear h1 h2
        refine AC.body Tryz.func34 rfl rfl (n := 42) (res := [.cell 2 24, .tmp 3]) rfl rfl (by simp) ?_
        simp only [ent]
        (repeat' (first | refine wk ?_ | refine wk2 ?_ ?_ | with_reducible refine wkF fun _ _ _ => ?_ | with_reducible intro _ | refine Calling.eq (B1 _) ?_ | refine Calling.eq (B2 _) ?_ | refine Calling.eq (B3 _) ?_ | refine Calling.eq (B4 _) ?_ | refine Calling.eq (S _) ?_ | refine Calling.eq (U _) ?_ | refine Calling.eq (E _) ?_ | exact ag | fail))
        exact fin0
    · have hb : (k != 0) = true := by simpa using hk0
      obtain ⟨h1, h2⟩ := hi false (by rw [ho]; simp [hk0])
      rw [if_neg (by simp)] at h1 h2
      clear ho hi hpe
      rw [h1, h2]
      clear h1 h2
      refine AC.body Tryz.func34 rfl rfl (n := 42) (res := [.cell 2 24, .tmp 3]) rfl rfl (by simp) ?_
      simp only [ent]
      (repeat' (first | refine wk ?_ | refine wk2 ?_ ?_ | with_reducible refine wkF fun _ _ _ => ?_ | with_reducible intro _ | refine Calling.eq (B1 _) ?_ | refine Calling.eq (B2 _) ?_ | refine Calling.eq (B3 _) ?_ | refine Calling.eq (B4 _) ?_ | refine Calling.eq (S _) ?_ | refine Calling.eq (U _) ?_ | refine Calling.eq (E _) ?_ | exact ag | fail))
      exact fin0
  | false =>
    have hpe : parts w = ⟨bitsN w 27 5, bitsN w 24 3, bitsN w 21 3, 0, signN w⟩ := by unfold parts iN opN; rw [hu3]; rfl
    rw [hu3] at hu
    generalize (usesR ((bitsN w 27 5 : Nat) : Int)).1 = u1 at hu
    generalize (usesR ((bitsN w 27 5 : Nat) : Int)).2.1 = u2 at hu
    generalize (usesR ((bitsN w 27 5 : Nat) : Int)).2.2.2 = u4 at hu
    rw [hu] at U
    simp only [b4_mk] at U
    generalize hk : (parts w).chk = k at E ho
    generalize hv : (parts w).word = v at E ho
    rw [hpe, Ins.enc_def] at E
    simp only [Int.cast_ofNat_Int] at E
    clear hk hv hp hu3 hu
    by_cases hk0 : k = 0
    · subst hk0
      by_cases hv0 : v = w
      · subst hv0
        obtain ⟨h1, h2⟩ := hi true (by simpa using ho)
        rw [if_pos rfl, hpe] at h1
        rw [if_pos rfl] at h2
        clear ho hi hpe
        rw [h1, h2, Ins.enc_def]
        clear h1 h2
        refine AC.body Tryz.func34 rfl rfl (n := 42) (res := [.cell 2 24, .tmp 3]) rfl rfl (by simp) ?_
        simp only [ent]
        (repeat' (first | refine wk ?_ | refine wk2 ?_ ?_ | with_reducible refine wkF fun _ _ _ => ?_ | with_reducible intro _ | refine Calling.eq (B1 _) ?_ | refine Calling.eq (B2 _) ?_ | refine Calling.eq (B3 _) ?_ | refine Calling.eq (B4 _) ?_ | refine Calling.eq (S _) ?_ | refine Calling.eq (U _) ?_ | refine Calling.eq (E _) ?_ | exact ag | fail))
        exact fin0
      · have hb : (((v : Nat) : Int) != (w : Int)) = true := by simp; omega
        obtain ⟨h1, h2⟩ := hi false (by rw [ho]; simp [hv0])
        rw [if_neg (by simp)] at h1 h2
        clear ho hi hpe
        rw [h1, h2]
        clear h1 h2
        refine AC.body Tryz.func34 rfl rfl (n := 42) (res := [.cell 2 24, .tmp 3]) rfl rfl (by simp) ?_
        simp only [ent]
        (repeat' (first | refine wk ?_ | refine wk2 ?_ ?_ | with_reducible refine wkF fun _ _ _ => ?_ | with_reducible intro _ | refine Calling.eq (B1 _) ?_ | refine Calling.eq (B2 _) ?_ | refine Calling.eq (B3 _) ?_ | refine Calling.eq (B4 _) ?_ | refine Calling.eq (S _) ?_ | refine Calling.eq (U _) ?_ | refine Calling.eq (E _) ?_ | exact ag | fail))
        exact fin0
    · have hb : (k != 0) = true := by simpa using hk0
      obtain ⟨h1, h2⟩ := hi false (by rw [ho]; simp [hk0])
      rw [if_neg (by simp)] at h1 h2
      clear ho hi hpe
      rw [h1, h2]
      clear h1 h2
      refine AC.body Tryz.func34 rfl rfl (n := 42) (res := [.cell 2 24, .tmp 3]) rfl rfl (by simp) ?_
      simp only [ent]
      (repeat' (first | refine wk ?_ | refine wk2 ?_ ?_ | with_reducible refine wkF fun _ _ _ => ?_ | with_reducible intro _ | refine Calling.eq (B1 _) ?_ | refine Calling.eq (B2 _) ?_ | refine Calling.eq (B3 _) ?_ | refine Calling.eq (B4 _) ?_ | refine Calling.eq (S _) ?_ | refine Calling.eq (U _) ?_ | refine Calling.eq (E _) ?_ | exact ag | fail))
      exact fin0
end Go.Abs
/- Lists: first places, elements of rows. -/
namespace Go.Abs
set_option linter.unusedSimpArgs false
set_option linter.unusedVariables false
open Go.Proofs
set_option linter.unusedVariables false
set_option maxRecDepth 8000
variable {H : Heap}
/-- The first place of a list with some property; -1: none. -/
def fi {α : Type} (p : α → Bool) (l : List α) : Int := match l.findIdx? p with | some i => i | none => -1
theorem fi_some {α : Type} {p : α → Bool} {l : List α} {i : Nat} {x : α} (hx : l[i]? = some x) (h : p x = true) (hn : ∀ (j : Nat) (y : α), j < i → l[j]? = some y → p y = false) : fi p l = i := by
  obtain ⟨hi, rfl⟩ := List.getElem?_eq_some_iff.1 hx
  have : l.findIdx? p = some i := by
    rw [List.findIdx?_eq_some_iff_getElem]
    exact ⟨hi, h, fun j hj => by simpa using hn j _ hj (List.getElem?_eq_getElem (by omega))⟩
  simp [fi, this]
theorem fi_none {α : Type} {p : α → Bool} {l : List α} (hn : ∀ (j : Nat) (y : α), l[j]? = some y → p y = false) : fi p l = -1 := by
  have : l.findIdx? p = none := by
    rw [List.findIdx?_eq_none_iff]
    intro x hx
    obtain ⟨j, hj⟩ := List.mem_iff_getElem?.1 hx
    exact hn j x hj
  simp [fi, this]
theorem fi_end {α : Type} {p : α → Bool} {l : List α} {i : Nat} (hi : l.length ≤ i) (hn : ∀ (j : Nat) (y : α), j < i → l[j]? = some y → p y = false) : fi p l = -1 :=
  fi_none fun j y hy => hn j y (by have := (List.getElem?_eq_some_iff.1 hy).1; omega) hy
/-- Nothing ahead of place i has the property. -/
def noneB {α : Type} (p : α → Bool) (l : List α) (i : Nat) : Prop := ∀ (j : Nat) (y : α), j < i → l[j]? = some y → p y = false
theorem noneB.zero {α : Type} {p : α → Bool} {l : List α} : noneB p l 0 := fun j y hj => by omega
theorem noneB.succ {α : Type} {p : α → Bool} {l : List α} {i : Nat} {x : α} (h : noneB p l i) (hx : l[i]? = some x) (hp : p x = false) : noneB p l (i + 1) := fun j y hj hy => by
  rcases Nat.lt_or_ge j i with g | g
  · exact h j y g hy
  · obtain rfl : j = i := by omega
    rw [hx] at hy; cases hy; exact hp
theorem vget {α : Type} (enc : α → List TV) {l : List α} {i : Nat} {x : α} (h : l[i]? = some x) : (l.map enc)[i]? = some (enc x) := by rw [List.getElem?_map, h]; rfl
theorem at_ {α : Type} {l : List α} {i : Nat} (h : i < l.length) : ∃ x, l[i]? = some x := ⟨_, List.getElem?_eq_getElem h⟩
theorem w64s {i : Nat} (h : i < 9223372036854775807) : IntKind.i64.wrap ((i : Int) + 1) = ((i + 1 : Nat) : Int) := by rw [wi64 (by omega) (by omega)]; simp
theorem AC.func {P : Program} {f g : FuncId} {a : TV} {H : Heap} {C : TV → Heap → Prop} (h : AC P f [a, .clo (.func g) [] []] H C) : AC P f [a, .s (.func (.func g) #[] #[])] H C := by
  intro argv w ha hh
  refine h argv w ?_ hh
  simp only [RepL, Rep] at ha ⊢
  obtain ⟨y, ys, rfl, h1, z, zs, rfl, rfl, h3⟩ := ha
  exact ⟨y, _, rfl, h1, _, _, rfl, ⟨#[], #[], rfl, rfl, rfl⟩, h3⟩
theorem toList_inj {a c : ByteArray} : a.toList = c.toList ↔ a = c := by
  constructor
  · intro h; rw [ByteArray.toList_eq, ByteArray.toList_eq] at h
    obtain ⟨⟨x⟩⟩ := a; obtain ⟨⟨y⟩⟩ := c; simp at h; rw [h]
  · rintro rfl; rfl
theorem str_eq (a c : ByteArray) : (a.toList == c.toList) = decide (a = c) := by rw [Bool.eq_iff_iff]; simp [toList_inj]
attribute [go_sem] List.length_map
/-- Elements of rows. -/
def s1 (x : ByteArray) : List TV := [.s (.string x)]
def u1 (x : Nat) : List TV := [.s (.int .u32 x)]
theorem s1_def (x : ByteArray) : s1 x = [.s (.string x)] := rfl
theorem u1_def (x : Nat) : u1 x = [.s (.int .u32 x)] := rfl
end Go.Abs
/- The library's functions that lines are made with. -/
namespace Go.Abs
set_option linter.unusedSimpArgs false
set_option linter.unusedVariables false
open Go.Proofs Go.Wd Go.RowKit Go.Sort
set_option linter.unusedVariables false
set_option linter.unusedSectionVars false
set_option maxRecDepth 8000
variable {H : Heap}
/-- What the library's and the program's own variables hold. -/
structure GA (G : Heap) : Prop where
  exact : ∀ b, G b ≠ none → ∃ o, G b = some (.exact o)
  pow : ∀ w, HRel G w → Lib.TabIs Tryz.prog w "internal/strconv.uint64pow10" .u64 Lib.pow10Tab
  maxlen : ∀ w, HRel G w → ∃ m, w.cell? ⟨2, 0, none⟩ = some (.int .i64 m)
  errS : ∀ w, HRel G w → ∃ ev, w.cell? ⟨3, 0, none⟩ = some ev ∧ (ev = .nilIface ∨ ∃ te pe, ev = .iface te pe)
  errR : ∀ w, HRel G w → ∃ ev, w.cell? ⟨4, 0, none⟩ = some ev ∧ (ev = .nilIface ∨ ∃ te pe, ev = .iface te pe)
theorem hrelS {G H : Heap} {w : World} (hs : Sub G H) (h : HRel H w) : HRel G w := h.le hs
theorem below_grow (w : World) (k : Nat) (os : Array Obj) : Below w.heap.size w (grow (w.drewN k) os) :=
  ⟨rfl, rfl, rfl, by show w.heap.size ≤ (w.heap ++ os).size; simp, fun b hb => by show (w.heap ++ os)[b]? = _; rw [Array.getElem?_append, if_pos hb]⟩
theorem dr_any {a b : Nat} : dr a ≤ dr b := by unfold dr; omega
theorem itoa_c {G : Heap} (g : GA G) (hs : Sub G H) {n : Int} (h0 : -9223372036854775808 ≤ n) (h1 : n ≤ 9223372036854775807) :
    AC Tryz.prog 21 [.s (.int .i64 n)] H (fun r H' => r = .s (.string ⟨(Lib.itoa n).toArray⟩) ∧ H' = H) :=
  AC.of_calls (vs := [.int .i64 n]) Tryz.func21 rfl rfl fun w hw => (Tryz.strconv_Itoa n h0 h1 w (g.pow w (hrelS hs hw))).mono fun e w' ⟨he, k, os, hw'⟩ => ⟨he, hw' ▸ below_grow w k os, dr_any⟩
theorem hasPre_c (s p : ByteArray) : AC Tryz.prog 56 [.s (.string s), .s (.string p)] H (fun r H' => r = .s (.bool (Lib.hasPrefix s.data.toList p.data.toList)) ∧ H' = H) :=
  AC.of_calls (vs := [.string s, .string p]) Tryz.func56 rfl rfl fun w hw => (Tryz.strings_HasPrefix s p w).mono fun e w' ⟨he, hw'⟩ => ⟨he, hw' ▸ Below.refl _ _, dr_any⟩
theorem trim_c {s : ByteArray} (hs : s.size ≤ 9223372036854775807) : AC Tryz.prog 55 [.s (.string s), .s (.string ⟨#[32]⟩)] H (fun r H' => r = .s (.string ⟨(Lib.trimB s.data.toList 32).toArray⟩) ∧ H' = H) :=
  AC.of_calls (vs := [.string s, .string ⟨#[32]⟩]) Tryz.func55 rfl rfl fun w hw => (Tryz.strings_Trim_one s 32 (by decide) w hs).mono fun e w' ⟨he, hw'⟩ => ⟨he, by rcases hw' with rfl | rfl; exact Below.refl _ _; exact ⟨rfl, rfl, rfl, Nat.le_refl _, fun _ _ => rfl⟩, dr_any⟩
/-- A call that leaves no block that is told, and values that are told in full. -/
theorem AC.of_tup {P : Program} {g : FuncId} {fn : Func} {vs : List Value} {C : List Value → Prop} (hf : P.funcs[g]? = some fn) (hb : fn.body.isNone = false) (hname : (fn.name == "runtime.NumGoroutine") = false)
    (h : ∀ w, HRel H w → Calls P g vs.toArray w fun e w' => ∃ l, e = .returned (.tuple l.toArray) ∧ C l ∧ Below w.heap.size w w' ∧ dr w.drawn ≤ dr w'.drawn) : AC P g (vs.map .s) H (fun r H' => ∃ l, C l ∧ r = .tup (l.map .s) ∧ H' = H) := by
  refine AC.intro hf hb hname fun argv w ha hh => ?_
  have : argv = vs := by
    clear h
    induction vs generalizing argv with
    | nil => simpa only [List.map_nil, RepL] using ha
    | cons x vs ih =>
      simp only [List.map_cons, RepL] at ha
      obtain ⟨y, ys, rfl, h1, h2⟩ := ha
      simp only [Rep] at h1; subst h1
      rw [ih ys h2]
  subst this
  refine (h w hh).mono fun e w' ⟨l, he, hC, hB, hd⟩ => ?_
  have hE := ext_of_below (H := H) hB hd
  refine ⟨_, he, _, H, ⟨l, hC, rfl, rfl⟩, ?_, fun b r hb => (hh b r hb).ext hE (hB.block b (hh.lt hb)), hE⟩
  simp only [Rep]
  refine ⟨_, rfl, ?_⟩
  clear he hC h
  induction l with
  | nil => simp only [List.map_nil, RepL]
  | cons x l ih => simp only [List.map_cons, RepL, Rep]; exact ⟨_, _, rfl, rfl, ih⟩
theorem cutPre_c (s p : ByteArray) : AC Tryz.prog 57 [.s (.string s), .s (.string p)] H (fun r H' => r = .tup [.s (.string ⟨(Lib.trimPrefix s.data.toList p.data.toList).toArray⟩), .s (.bool (Lib.hasPrefix s.data.toList p.data.toList))] ∧ H' = H) := by
  refine AC.mono (AC.of_tup (vs := [.string s, .string p]) (C := fun l => l = [.string ⟨(Lib.trimPrefix s.data.toList p.data.toList).toArray⟩, .bool (Lib.hasPrefix s.data.toList p.data.toList)]) Tryz.func57 rfl rfl fun w hw => (Tryz.strings_CutPrefix s p w).mono fun e w' ⟨he, hw'⟩ => ⟨_, he, rfl, hw' ▸ Below.refl _ _, dr_any⟩) ?_
  rintro r H' ⟨l, rfl, rfl, rfl⟩
  exact ⟨rfl, rfl⟩
/-- What ParseInt tells. -/
def piV (s : ByteArray) : Int := match Lib.parseIntB 32 s.data.toList with | .ok v => v | .syntax => 0 | .range => Lib.intSat 32 s.data.toList
def piE (s : ByteArray) : Bool := match Lib.parseIntB 32 s.data.toList with | .ok _ => false | _ => true
theorem parse_c {G : Heap} (g : GA G) (hs : Sub G H) {s : ByteArray} (hz : s.size ≤ 281474976710656) :
    AC Tryz.prog 46 [.s (.string s), .s (.int .i64 10), .s (.int .i64 32)] H (fun r H' => ∃ e : Value, (if piE s = true then ∃ t v, e = .iface t v else e = .nilIface) ∧ r = .tup [.s (.int .i64 (piV s)), .s e] ∧ H' = H) := by
  refine AC.mono (AC.of_tup (vs := [.string s, .int .i64 10, .int .i64 32]) (C := fun l => ∃ e : Value, (if piE s = true then ∃ t v, e = .iface t v else e = .nilIface) ∧ l = [.int .i64 (piV s), e]) Tryz.func46 rfl rfl fun w hw => ?_) ?_
  · cases h : Lib.parseIntB 32 s.data.toList with
    | ok v =>
      have h1 : piV s = v := by unfold piV; rw [h]
      have h2 : piE s = false := by unfold piE; rw [h]
      rw [h1, h2]
      refine (Tryz.strconv_ParseInt_10_at32_ok s (by omega) v h w).mono fun e w' ⟨he, hw'⟩ => ⟨_, he, ⟨_, rfl, rfl⟩, ?_, dr_any⟩
      rcases hw' with rfl | ⟨t, rfl⟩
      · exact Below.refl _ _
      · exact Lib.bytesWorld_below _ _ _
    | range =>
      have h1 : piV s = Lib.intSat 32 s.data.toList := by unfold piV; rw [h]
      have h2 : piE s = true := by unfold piE; rw [h]
      rw [h1, h2]
      obtain ⟨ev, e1, e2⟩ := g.errR w (hrelS hs hw)
      exact (Tryz.strconv_ParseInt_10_at32_range s hz h ev w e1 e2).mono fun e w' ⟨N, he, _, _, hw'⟩ => ⟨_, he, ⟨_, ⟨_, _, rfl⟩, rfl⟩, hw', dr_any⟩
    | _ =>
      have h1 : piV s = 0 := by unfold piV; rw [h]
      have h2 : piE s = true := by unfold piE; rw [h]
      rw [h1, h2]
      obtain ⟨ev, e1, e2⟩ := g.errS w (hrelS hs hw)
      exact (Tryz.strconv_ParseInt_10_at32_syntax s hz h ev w e1 e2).mono fun e w' ⟨N, he, _, _, hw'⟩ => ⟨_, he, ⟨_, ⟨_, _, rfl⟩, rfl⟩, hw', dr_any⟩
  · rintro r H' ⟨l, ⟨e, h1, rfl⟩, rfl, rfl⟩
    exact ⟨e, h1, rfl, rfl⟩
/-- Texts of a row of one's own, joined. -/
theorem join_c {b : Nat} {xs : List ByteArray} {sep : ByteArray} (hb : H b = some (.cells (xs.map s1).flatten)) (hne : xs ≠ []) (hN : xs.length ≤ 1000) (hlen : (Lib.join (xs.map (·.data.toList)) sep.data.toList).length ≤ 140737488355328) :
    AC Tryz.prog 22 [.rs b 0 xs.length 1, .s (.string sep)] H (fun r H' => r = .s (.string ⟨(Lib.join (xs.map (·.data.toList)) sep.data.toList).toArray⟩) ∧ H' = H) := by
  refine AC.intro Tryz.func22 rfl rfl fun argv w ha hh => ?_
  obtain ⟨y0, y1, rfl, r0, r1⟩ := repL_two ha
  simp only [Rep] at r0 r1
  subst r1
  obtain ⟨a, cap, rfl, hcap, hcase⟩ := r0
  have hpos : 0 < xs.length := List.length_pos_iff.2 hne
  obtain ⟨rfl, hbz⟩ := hcase.resolve_left (by omega)
  obtain ⟨c, elem, fz, hc, hfz, hl, hr⟩ := hh b _ hb
  have hfl : (xs.map s1).flatten = xs.map fun s => TV.s (.string s) := by
    clear hb hne hN hlen ha hcap hcase hpos hbz hl hr hc
    induction xs with
    | nil => rfl
    | cons x xs ih => rw [List.map_cons, List.flatten_cons, ih]; rfl
  rw [hfl] at hl hr
  rw [List.length_map] at hl hr
  have hcells : ∀ (j : Nat) x, xs[j]? = some x → w.cell? ⟨b, 0 + j, none⟩ = some (.string x) := by
    intro j x hx
    have hj : j < xs.length := (List.getElem?_eq_some_iff.1 hx).1
    have hv : c.toList.take xs.length = xs.map Value.string := by
      clear hb hne hN hlen ha hcap hcase hpos hbz hl hc hx hj hfl
      generalize c.toList.take xs.length = ys at hr
      induction xs generalizing ys with
      | nil => simpa only [List.map_nil, RepL] using hr
      | cons x xs ih =>
        simp only [List.map_cons, RepL, Rep] at hr
        obtain ⟨y, ys', rfl, rfl, h2⟩ := hr
        rw [ih _ h2]; rfl
    have e1 : c[j]? = some (.string x) := by
      have : (c.toList.take xs.length)[j]? = (xs.map Value.string)[j]? := by rw [hv]
      rw [List.getElem?_take, if_pos hj, Array.getElem?_toList, List.getElem?_map, hx] at this
      exact this
    simp only [World.cell?, hc, Nat.zero_add, Option.isSome_none, Bool.false_eq_true, if_false]; exact e1
  have hblt := hh.lt hb
  refine (Tryz.strings_Join b 0 cap xs sep w hcells hblt (by omega) hcap hlen).mono fun e w' ⟨he, hB⟩ => ?_
  have hE := ext_of_below (H := H) hB dr_any
  exact ⟨_, he, _, H, ⟨rfl, rfl⟩, by simp only [Rep], fun b r hb => (hh b r hb).ext hE (hB.block b (hh.lt hb)), hE⟩
/-- A text's pieces, as the library makes them. -/
def pieces (s : ByteArray) (c : UInt8) : List ByteArray := Lib.splitB ⟨#[c]⟩ 0 (Lib.countB s ⟨#[c]⟩) s
theorem split_c {G : Heap} (g : GA G) (hs : Sub G H) {s : ByteArray} {c : UInt8} (hz : s.size < 4294967281) (hn : (pieces s c).length = Lib.countB s ⟨#[c]⟩ + 1) :
    AC Tryz.prog 26 [.s (.string s), .s (.string ⟨#[c]⟩)] H (fun r H' => r = .vs 1 ((pieces s c).map s1) ∧ H' = H) := by
  refine AC.intro Tryz.func26 rfl rfl fun argv w ha hh => ?_
  obtain ⟨y0, y1, rfl, r0, r1⟩ := repL_two ha
  simp only [Rep] at r0 r1
  subst r0 r1
  obtain ⟨m, hm⟩ := g.maxlen w (hrelS hs hh)
  refine (Tryz.strings_Split s ⟨#[c]⟩ m w hz hm (Nat.le_refl 1)).mono fun e w' ⟨he, hw⟩ => ?_
  subst hw
  have h0 : H w.heap.size = none := by
    cases e : H w.heap.size with
    | none => rfl
    | some r => exact absurd (hh.lt e) (Nat.lt_irrefl _)
  generalize ho : Obj.cells ((Lib.splitB ⟨#[c]⟩ 0 (Lib.countB s ⟨#[c]⟩) s).map Value.string).toArray _ _ = o
  have hB : Below w.heap.size w (w.alloc o) := (Below.refl _ w).alloc (Nat.le_refl _) _
  have hE := ext_of_below (H := H) hB dr_any
  have hnew : (w.alloc o).heap[w.heap.size]? = some o := World.alloc_heap_new w o
  refine ⟨_, he, _, H, ⟨rfl, rfl⟩, ?_, fun b r hb => (hh b r hb).ext hE (hB.block b (hh.lt hb)), hE⟩
  simp only [Rep]
  refine ⟨_, _, _, rfl, Nat.le_refl _, ?_⟩
  rw [← hn]
  have hlt : w.heap.size < (w.alloc o).heap.size := (Array.getElem?_eq_some_iff.1 hnew).1
  have key : ∀ (l : List ByteArray) (off : Nat), (∀ j x, l[j]? = some x → (w.alloc o).cell? ⟨w.heap.size, off + j, none⟩ = some (.string x)) → RepE (w.alloc o) (Fr H (w.alloc o)) (some ⟨w.heap.size, off, none⟩) 1 l.length (l.map s1) := by
    intro l
    induction l with
    | nil => intro off _; simp only [List.map_nil, RepE, List.length_nil]
    | cons x l ih =>
      intro off h
      simp only [List.map_cons, RepE]
      refine ⟨_, _, l.length, rfl, rfl, ⟨hlt, h0⟩, rfl, ?_, ih (off + 1) fun j y hy => by rw [show off + 1 + j = off + (j + 1) by omega]; exact h (j + 1) y hy⟩
      simp only [s1_def, RepC, Rep]
      exact ⟨⟨_, h 0 x rfl, rfl⟩, trivial⟩
  refine key (pieces s c) 0 fun j x hx => ?_
  subst ho
  simp only [World.cell?, hnew, Nat.zero_add, Option.isSome_none, Bool.false_eq_true, if_false]
  unfold pieces at hx
  simp [hx]
end Go.Abs
/- Operations' names, numbers as digits. -/
namespace Go.Abs
set_option linter.unusedSimpArgs false
set_option linter.unusedVariables false
set_option maxHeartbeats 4000000
open Go.Proofs Go.Wd Go.RowKit
set_option linter.unusedVariables false
set_option linter.unusedSectionVars false
set_option maxRecDepth 8000
variable {H : Heap}
/-- Each operation's name. -/
def opN : List ByteArray := [⟨#[104, 97, 108, 116]⟩, ⟨#[110, 111, 112]⟩, ⟨#[108, 105]⟩, ⟨#[97, 100, 100]⟩, ⟨#[115, 117, 98]⟩, ⟨#[97, 110, 100]⟩, ⟨#[111, 114]⟩, ⟨#[120, 111, 114]⟩, ⟨#[115, 104, 108]⟩, ⟨#[115, 104, 114]⟩, ⟨#[108, 116]⟩, ⟨#[97, 100, 100, 105]⟩, ⟨#[108, 100]⟩, ⟨#[115, 116]⟩, ⟨#[106, 109, 112]⟩, ⟨#[98, 101, 113]⟩, ⟨#[98, 110, 101]⟩, ⟨#[99, 97, 108, 108]⟩, ⟨#[114, 101, 116]⟩, ⟨#[106, 114]⟩, ⟨#[115, 97, 102, 101]⟩, ⟨#[101, 110, 116, 101, 114]⟩]
theorem opN_len : opN.length = 22 := rfl
def mn (o : Nat) : ByteArray := (opN[o]?).getD ⟨#[]⟩
theorem mn_def {o : Nat} {x : ByteArray} (h : opN[o]? = some x) : mn o = x := by unfold mn; rw [h]; rfl
def NamesAt (G : Heap) : Prop := ∃ c e fz, G 0 = some (.exact (.cells c e fz)) ∧ ∀ (i : Nat) (x : ByteArray), opN[i]? = some x → c[i]? = some (Value.string x)
theorem drop_at {c : Array Value} {i : Nat} {v : Value} (h : c[i]? = some v) : ∃ B, (c.toList.map TV.s).drop i = .s v :: B := by
  have hi : i < c.size := (Array.getElem?_eq_some_iff.1 h).1
  refine ⟨(c.toList.map TV.s).drop (i + 1), ?_⟩
  rw [List.drop_eq_getElem_cons (by simpa using hi)]
  congr 1
  rw [List.getElem_map, Array.getElem_toList]
  have := (Array.getElem?_eq_some_iff.1 h).2
  rw [this]
theorem flat_s1 : ∀ l : List ByteArray, (l.map s1).flatten = l.map fun s => TV.s (.string s)
  | [] => rfl
  | x :: l => by rw [List.map_cons, List.flatten_cons, flat_s1 l]; rfl
theorem drop_s1 {l : List ByteArray} {i : Nat} {x : ByteArray} (h : l[i]? = some x) : ∃ B, ((l.map s1).flatten).drop i = .s (.string x) :: B := by
  obtain ⟨hi, hx⟩ := List.getElem?_eq_some_iff.1 h
  rw [flat_s1, List.drop_eq_getElem_cons (by simpa using hi), List.getElem_map, hx]
  exact ⟨_, rfl⟩
theorem eachS1 (l : List ByteArray) : Each 1 (l.map s1) := fun e he => by obtain ⟨x, _, rfl⟩ := List.mem_map.1 he; rfl
theorem mnem_c {G : Heap} (hN : NamesAt G) (hs : Sub G H) {o : Nat} (ho : o < 256) : AC Tryz.prog 10 [.s (.int .u8 o)] H (fun r H' => r = .s (.string (mn o)) ∧ H' = H) := by
  refine AC.body Tryz.func10 rfl rfl (n := 9) (res := [.tmp 2]) rfl rfl (by simp) ?_
  simp only [ent]
  have hw : IntKind.i64.wrap (o : Int) = o := wi64 (by omega) (by omega)
  by_cases h : o < 22
  · have h1 : decide ((22 : Int) ≤ o) = false := by simp; omega
    obtain ⟨x, hx⟩ : ∃ x, opN[o]? = some x := ⟨_, List.getElem?_eq_getElem (by rw [opN_len]; exact h)⟩
    rw [mn_def hx]
    obtain ⟨c, e, fz, hG, hc⟩ := hN
    have hk := hs _ _ hG
    obtain ⟨B, hd⟩ := drop_at (hc o x hx)
    have i0 : (o : Int) < 22 := by omega
    have i1 : (0 : Int) ≤ (o : Int) := by omega
    clear hc hG hx
    (repeat' (first | refine wk ?_ | refine wk2 ?_ ?_ | with_reducible refine wkF fun _ _ _ => ?_ | with_reducible intro _ | exact ag | fail))
    exact fin0
  · have h1 : decide ((22 : Int) ≤ o) = true := by simp; omega
    have e : mn o = ⟨#[]⟩ := by unfold mn; rw [List.getElem?_eq_none (by rw [opN_len]; omega)]; rfl
    rw [e]
    clear hN hs e
    (repeat' (first | refine wk ?_ | refine wk2 ?_ ?_ | with_reducible refine wkF fun _ _ _ => ?_ | with_reducible intro _ | exact ag | fail))
    exact fin0
theorem rmnem_c {o : Nat} (ho : o < 256) (H : Heap) : AC Tryz.prog 11 [.s (.int .u8 o)] H (fun r H' => r = .s (.string (mn o)) ∧ H' = H) := by
  refine AC.body Tryz.func11 rfl rfl (n := 14) (res := [.tmp 2]) rfl rfl (by simp) ?_
  simp only [ent]
  have hw : IntKind.i64.wrap (o : Int) = o := wi64 (by omega) (by omega)
  by_cases h : o < 22
  · have h1 : decide ((22 : Int) ≤ o) = false := by simp; omega
    obtain ⟨x, hx⟩ : ∃ x, opN[o]? = some x := ⟨_, List.getElem?_eq_getElem (by rw [opN_len]; exact h)⟩
    rw [mn_def hx]
    have i0 : (o : Int) < 22 := by omega
    have i1 : (0 : Int) ≤ (o : Int) := by omega
    have hd := drop_s1 hx
    obtain ⟨B, hd⟩ := hd
    clear hx
    replace hd := later hd
    (repeat' (first | refine wk ?_ | refine wk2 ?_ ?_ | with_reducible refine wkF fun _ _ _ => ?_ | with_reducible intro _ | refine Doing.fresh (oc_build (n := 22) (es := opN.map s1) ap46 (fun _ h => by cases h; rfl) rfl rfl rfl (eachS1 _) (by decide) (by decide) (by decide)) fun _ _ _ => ?_ | exact ag | fail))
    rw [hd.go]
    (repeat' (first | refine wk ?_ | refine wk2 ?_ ?_ | with_reducible refine wkF fun _ _ _ => ?_ | with_reducible intro _ | exact ag | fail))
    exact fin0
  · have h1 : decide ((22 : Int) ≤ o) = true := by simp; omega
    have e : mn o = ⟨#[]⟩ := by unfold mn; rw [List.getElem?_eq_none (by rw [opN_len]; omega)]; rfl
    rw [e]
    clear e
    (repeat' (first | refine wk ?_ | refine wk2 ?_ ?_ | with_reducible refine wkF fun _ _ _ => ?_ | with_reducible intro _ | refine Doing.fresh (oc_build (n := 22) (es := opN.map s1) ap46 (fun _ h => by cases h; rfl) rfl rfl rfl (eachS1 _) (by decide) (by decide) (by decide)) fun _ _ _ => ?_ | exact ag | fail))
    exact fin0
end Go.Abs
/- An instruction, printed. -/
namespace Go.Abs
set_option linter.unusedSimpArgs false
set_option linter.unusedVariables false
set_option maxHeartbeats 4000000
open Go.Proofs Go.Wd Go.RowKit
set_option linter.unusedVariables false
set_option linter.unusedSectionVars false
set_option maxRecDepth 8000
variable {H : Heap}
def mk (l : List UInt8) : ByteArray := ⟨l.toArray⟩
theorem mk_data (l : List UInt8) : (mk l).data.toList = l := by unfold mk; simp
theorem mk_self (s : ByteArray) : mk s.data.toList = s := by unfold mk; simp
theorem mk_app (a b : List UInt8) : mk a ++ mk b = mk (a ++ b) := by
  apply ByteArray.ext; unfold mk; simp
theorem mk_inj {a b : List UInt8} (h : mk a = mk b) : a = b := by rw [← mk_data a, h, mk_data]
def digs : ByteArray := ⟨#[48, 49, 50, 51, 52, 53, 54, 55, 56, 57]⟩
theorem digs_one : ∀ u : _root_.Fin 10, digs.extract u.val (u.val + 1) = mk [UInt8.ofNat (48 + u.val)] := by decide
theorem mk_size (l : List UInt8) : (mk l).size = l.length := by unfold mk; rfl
theorem dec_len : ∀ (k u : Nat), 0 < k → u < 10 ^ k → (Lib.decDigits u).length ≤ k
  | 0, u, h, _ => by omega
  | k + 1, u, _, h => by
    rw [Lib.decDigits]
    split
    · simp
    · rename_i hu
      rw [List.length_append]
      have h2 : u / 10 < 10 ^ k := by rw [Nat.pow_succ] at h; omega
      have hk : 0 < k := by
        rcases Nat.eq_zero_or_pos k with rfl | hk
        · simp at h2; omega
        · exact hk
      have := dec_len k (u / 10) hk h2
      simp only [List.length_cons, List.length_nil]
      omega
theorem cat_ok {a b : ByteArray} (ha : a.size ≤ 4611686018427387903) (hb : b.size ≤ 4611686018427387903) : ¬ ((a.size + b.size : Nat) : Int) > IntKind.i64.max := by
  have e : IntKind.i64.max = 9223372036854775807 := rfl
  rw [e]; omega
theorem catR {a b : ByteArray} (ha : a.size ≤ 4611686018427387903) (hb : b.size ≤ 4611686018427387903) : bin2 Tryz.prog .add 9 (some (.s (.string a))) (some (.s (.string b))) = some (.s (.string (a ++ b))) := b_cat _ _ _ (cat_ok ha hb)
theorem rtoldN_c : ∀ (u : Nat), u < 9223372036854775808 → ∀ H : Heap, AC Tryz.prog 25 [.s (.int .i64 u)] H (fun r H' => r = .s (.string (mk (Lib.decDigits u))) ∧ H' = H) := by
  intro u
  induction u using Nat.strongRecOn with
  | _ u ih =>
    intro hu H
    have n1 : decide ((u : Int) < 0) = false := by simp
    by_cases h : u < 10
    · have h1 : decide ((u : Int) < 10) = true := by simp; omega
      have e : Lib.decDigits u = [UInt8.ofNat (48 + u)] := by rw [Lib.decDigits, dif_pos h]
      rw [e, ← digs_one ⟨u, h⟩]
      have hw := w64s (i := u) (by omega)
      have hif : (u : Int) ≤ ((u + 1 : Nat) : Int) ∧ ((u + 1 : Nat) : Int) ≤ (((#[48, 49, 50, 51, 52, 53, 54, 55, 56, 57] : Array UInt8).size : Nat) : Int) := ⟨by omega, by simp; omega⟩
      clear ih
      unfold digs
      refine AC.body Tryz.func25 rfl rfl (n := 25) (res := [.tmp 2]) rfl rfl (by simp) ?_
      simp only [ent]
      (repeat' (first | refine wk ?_ | refine wk2 ?_ ?_ | with_reducible refine wkF fun _ _ _ => ?_ | with_reducible intro _ | exact ag | fail))
      exact fin0
    · have h1 : decide ((u : Int) < 10) = false := by simp; omega
      have e : Lib.decDigits u = Lib.decDigits (u / 10) ++ [UInt8.ofNat (48 + u % 10)] := by rw [Lib.decDigits, dif_neg h]
      rw [e, ← mk_app, ← digs_one ⟨u % 10, Nat.mod_lt _ (by decide)⟩]
      have R := ih (u / 10) (by omega) (by omega)
      have q1 : Int.tdiv (u : Int) 10 = ((u / 10 : Nat) : Int) := by rw [Int.tdiv_eq_ediv_of_nonneg (by omega)]; rfl
      have q2 : Int.tmod (u : Int) 10 = ((u % 10 : Nat) : Int) := by rw [Int.tmod_eq_emod_of_nonneg (by omega)]; rfl
      have w1 := w64s (i := u % 10) (by omega)
      have w2 : IntKind.i64.wrap ((u / 10 : Nat) : Int) = ((u / 10 : Nat) : Int) := wi64 (by omega) (by omega)
      have hif : ((u % 10 : Nat) : Int) ≤ ((u % 10 + 1 : Nat) : Int) ∧ ((u % 10 + 1 : Nat) : Int) ≤ (((#[48, 49, 50, 51, 52, 53, 54, 55, 56, 57] : Array UInt8).size : Nat) : Int) := ⟨by omega, by simp; omega⟩
      have hcat := catR (a := mk (Lib.decDigits (u / 10))) (b := digs.extract (u % 10) (u % 10 + 1)) (by rw [mk_size]; have := dec_len 19 (u / 10) (by decide) (by omega); omega) (by rw [digs_one ⟨u % 10, Nat.mod_lt _ (by decide)⟩, mk_size]; simp)
      clear ih
      unfold digs at hcat ⊢
      refine AC.body Tryz.func25 rfl rfl (n := 25) (res := [.tmp 2]) rfl rfl (by simp) ?_
      simp only [ent]
      (repeat' (first | refine wk ?_ | refine wk2 ?_ ?_ | with_reducible refine wkF fun _ _ _ => ?_ | with_reducible intro _ | exact ag | fail))
      refine ARun.drawT mixed [0, 1, 3, 4, 5, 6, 7, 8] (.alt 2 [0, 3, 4, 5, 6, 7, 8] [9, 10] .leaf .nil) (by kernel_rfl) (by rfl) ?_
      all_goals (repeat' (first | refine wk ?_ | refine wk2 ?_ ?_ | with_reducible refine wkF fun _ _ _ => ?_ | with_reducible intro _ | refine Calling.eq (R _) ?_ | exact ag | fail))
      all_goals exact fin0
theorem rtold_c {n : Int} (h0 : -9223372036854775807 ≤ n) (h1 : n < 9223372036854775808) (H : Heap) : AC Tryz.prog 25 [.s (.int .i64 n)] H (fun r H' => r = .s (.string (mk (Lib.itoa n))) ∧ H' = H) := by
  by_cases h : n < 0
  · have e : Lib.itoa n = [45] ++ Lib.decDigits n.natAbs := by unfold Lib.itoa; rw [if_pos h]; rfl
    rw [e, ← mk_app]
    have R := rtoldN_c n.natAbs (by omega)
    have w1 : IntKind.i64.wrap (0 - n) = (n.natAbs : Int) := by rw [wi64 (by omega) (by omega)]; omega
    have d1 : decide (n < 0) = true := by simpa using h
    have hcat := catR (a := mk [45]) (b := mk (Lib.decDigits n.natAbs)) (by rw [mk_size]; simp) (by rw [mk_size]; have := dec_len 19 n.natAbs (by decide) (by omega); omega)
    have e45 : mk [45] = ⟨#[45]⟩ := rfl
    rw [e45] at hcat ⊢
    clear e
    refine AC.body Tryz.func25 rfl rfl (n := 25) (res := [.tmp 2]) rfl rfl (by simp) ?_
    simp only [ent]
    (repeat' (first | refine wk ?_ | refine wk2 ?_ ?_ | with_reducible refine wkF fun _ _ _ => ?_ | with_reducible intro _ | refine Calling.eq (R _) ?_ | exact ag | fail))
    exact fin0
  · have e : Lib.itoa n = Lib.decDigits n.toNat := by unfold Lib.itoa; rw [if_neg h]
    rw [e]
    have R := rtoldN_c n.toNat (by omega) H
    rw [Int.toNat_of_nonneg (by omega)] at R
    exact R
end Go.Abs
