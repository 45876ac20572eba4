import Derived.Laws.BitsLemmas
import Derived.WalkKit
import Derived.RowKit
import Derived.Test.YtllkloneapjgjaaDoorAbT
import Derived.Test.YtllkloneapjgjaaDoorAb17
import Derived.Shelf.Unicode.DecodeAny
import Derived.Lib.IndexMore
import Derived.Lib.DecodeN
import Derived.Lib.CutLaws
import Derived.Test.YtllkloneapjgjaaDoorShelf
import Derived.Lib.LaidU8
/- Words and instructions, pure. No program. -/
namespace Go.Wd
open Go.RowKit
set_option linter.unusedVariables false
def shl (k : IntKind) (x y : Int) : Int := k.wrap (x * 2 ^ min y.toNat k.bits)
def shr (k : IntKind) (x y : Int) : Int := x / 2 ^ min y.toNat k.bits
theorem wraps_u32 (n : Int) (h₀ : 0 ≤ n) (h₁ : n < 2 ^ 32) : IntKind.u32.wrap n = n := by rw [IntKind.wrap_u32]; omega
theorem and_nat (a b : Nat) (ha : a < 2 ^ 32) (hb : b < 2 ^ 32) : Go.bits .and .u32 (a : Int) (b : Int) = ((a &&& b : Nat) : Int) := (bits_nat .u32 32 (by decide) wraps_u32 a b ha hb).1
theorem or_nat (a b : Nat) (ha : a < 2 ^ 32) (hb : b < 2 ^ 32) : Go.bits .or .u32 (a : Int) (b : Int) = ((a ||| b : Nat) : Int) := (bits_nat .u32 32 (by decide) wraps_u32 a b ha hb).2
/-- What stands in a and not in b. -/
def ndN (a b : Nat) : Nat := (BitVec.ofNat 32 a &&& ~~~ BitVec.ofNat 32 b).toNat
theorem ndN_lt (a b : Nat) : ndN a b < 2 ^ 32 := BitVec.isLt _
theorem andNot_nat (a b : Nat) (ha : a < 2 ^ 32) (hb : b < 2 ^ 32) : Go.bits .andNot .u32 (a : Int) (b : Int) = ((ndN a b : Nat) : Int) := by
  have h : Go.bits .andNot .u32 (a : Int) (b : Int) = IntKind.u32.wrap ((ndN a b : Nat) : Int) := by
    show IntKind.u32.wrap _ = _
    rw [BitVec.ofInt_natCast, BitVec.ofInt_natCast]
    rfl
  rw [h]
  have := ndN_lt a b
  exact wraps_u32 _ (Int.natCast_nonneg _) (by exact_mod_cast this)
theorem ndN_bit (a b : Nat) (ha : a < 2 ^ 32) (hb : b < 2 ^ 32) (i : Nat) (hi : i < 32) : (ndN a b).testBit i = (a.testBit i && !b.testBit i) := by
  unfold ndN
  rw [BitVec.toNat_and, Nat.testBit_and, BitVec.toNat_not, BitVec.toNat_ofNat, BitVec.toNat_ofNat, Nat.mod_eq_of_lt ha, Nat.mod_eq_of_lt hb, show 2 ^ 32 - 1 - b = 2 ^ 32 - (b + 1) by omega, Nat.testBit_two_pow_sub_succ hb]
  simp [hi]
theorem shl_nat (a n : Nat) (hn : n ≤ 32) : shl .u32 (a : Int) (n : Int) = (((a <<< n) % 2 ^ 32 : Nat) : Int) := by
  unfold shl
  rw [Int.toNat_natCast, show min n IntKind.u32.bits = n from Nat.min_eq_left hn, IntKind.wrap_u32, Nat.shiftLeft_eq]
  simp
theorem shr_nat (a n : Nat) (hn : n ≤ 32) : shr .u32 (a : Int) (n : Int) = ((a >>> n : Nat) : Int) := by
  unfold shr
  rw [Int.toNat_natCast, show min n IntKind.u32.bits = n from Nat.min_eq_left hn, Nat.shiftRight_eq_div_pow]
  simp
theorem lt_of_bits {a n : Nat} (h : ∀ i, n ≤ i → a.testBit i = false) : a < 2 ^ n := Nat.lt_pow_two_of_testBit a h
theorem bit_out {a n i : Nat} (h : a < 2 ^ n) (hi : n ≤ i) : a.testBit i = false := Nat.testBit_lt_two_pow (Nat.lt_of_lt_of_le h (Nat.pow_le_pow_right (by decide) hi))
def maskN (n : Nat) : Nat := 2 ^ n - 1
theorem maskN_bit (n i : Nat) : (maskN n).testBit i = decide (i < n) := Nat.testBit_two_pow_sub_one n i
theorem maskN_lt (n : Nat) (h : n ≤ 32) : maskN n < 2 ^ 32 := by
  have := Nat.pow_le_pow_right (n := 2) (by decide) h
  have := Nat.two_pow_pos n
  unfold maskN; omega
theorem and_lt (a b n : Nat) (h : b < 2 ^ n) : a &&& b < 2 ^ n := Nat.and_lt_two_pow a h
theorem or_lt (a b n : Nat) (ha : a < 2 ^ n) (h : b < 2 ^ n) : a ||| b < 2 ^ n := Nat.or_lt_two_pow ha h
/-- A part of a word. -/
def bitsN (w at_ n : Nat) : Nat := (w >>> at_) &&& maskN n
theorem bitsN_bit (w at_ n i : Nat) : (bitsN w at_ n).testBit i = (decide (i < n) && w.testBit (at_ + i)) := by
  unfold bitsN
  rw [Nat.testBit_and, Nat.testBit_shiftRight, maskN_bit, Bool.and_comm]
theorem bitsN_lt (w at_ n : Nat) : bitsN w at_ n < 2 ^ n := lt_of_bits fun i hi => by rw [bitsN_bit, decide_eq_false (by omega)]; rfl
theorem bitsN_mod (w n : Nat) : bitsN w 0 n = w % 2 ^ n := by unfold bitsN maskN; rw [Nat.and_two_pow_sub_one_eq_mod]; rfl
/-- A part put into a word. -/
def withN (w at_ n v : Nat) : Nat := ndN w ((maskN n <<< at_) % 2 ^ 32) ||| (((v &&& maskN n) <<< at_) % 2 ^ 32)
theorem withN_lt (w at_ n v : Nat) : withN w at_ n v < 2 ^ 32 := or_lt _ _ _ (ndN_lt _ _) (Nat.mod_lt _ (by decide))
theorem withN_bit (w at_ n v i : Nat) (hw : w < 2 ^ 32) (h : at_ + n ≤ 32) (hi : i < 32) : (withN w at_ n v).testBit i = if at_ ≤ i ∧ i < at_ + n then v.testBit (i - at_) else w.testBit i := by
  unfold withN
  rw [Nat.testBit_or, ndN_bit _ _ hw (Nat.mod_lt _ (by decide)) _ hi, Nat.testBit_mod_two_pow, Nat.testBit_mod_two_pow, Nat.testBit_shiftLeft, Nat.testBit_shiftLeft, Nat.testBit_and, maskN_bit]
  rw [decide_eq_true hi]
  by_cases h1 : at_ ≤ i
  · by_cases h2 : i < at_ + n
    · rw [if_pos ⟨h1, h2⟩, decide_eq_true (show i ≥ at_ from h1), decide_eq_true (show i - at_ < n by omega)]
      simp
    · rw [if_neg (fun h => h2 h.2), decide_eq_true (show i ≥ at_ from h1), decide_eq_false (show ¬ i - at_ < n by omega)]
      simp
  · rw [if_neg (fun h => h1 h.1), decide_eq_false (show ¬ i ≥ at_ from h1)]
    simp
theorem word_ext {a b : Nat} (ha : a < 2 ^ 32) (hb : b < 2 ^ 32) (h : ∀ i, i < 32 → a.testBit i = b.testBit i) : a = b := by
  refine Nat.eq_of_testBit_eq fun i => ?_
  by_cases hi : i < 32
  · exact h i hi
  · rw [bit_out ha (by omega), bit_out hb (by omega)]
/-- Bit i set by or, above all that stand. -/
theorem put_bit (acc i : Nat) (t : Bool) (j : Nat) (h : acc < 2 ^ i) : (acc ||| ((t.toNat <<< i))).testBit j = if j = i then t else acc.testBit j := by
  rw [Nat.testBit_or, Nat.testBit_shiftLeft]
  by_cases hj : j = i
  · subst hj
    rw [if_pos rfl, bit_out h (Nat.le_refl _), Nat.sub_self]
    cases t <;> simp
  · rw [if_neg hj]
    by_cases h1 : j ≥ i
    · obtain ⟨d, hd⟩ : ∃ d, j - i = d + 1 := ⟨j - i - 1, by omega⟩
      rw [hd, decide_eq_true h1]
      cases t <;> simp [Nat.testBit_succ]
    · rw [decide_eq_false h1]; simp
theorem bit_one (w i : Nat) : (w >>> i) &&& 1 = (w.testBit i).toNat := by
  rw [Nat.testBit, Nat.and_comm]
  have : 1 &&& (w >>> i) = (w >>> i) % 2 := by rw [Nat.and_comm, show (1 : Nat) = 2 ^ 1 - 1 from rfl, Nat.and_two_pow_sub_one_eq_mod]
  rw [this]
  rcases Nat.mod_two_eq_zero_or_one (w >>> i) with h | h <;> rw [h] <;> rfl
/-- The lowest 21 bits of a number. -/
def cutN (v : Int) : Nat := (v % 2097152).toNat
theorem cutN_lt (v : Int) : cutN v < 2 ^ 21 := by unfold cutN; omega
theorem low32 (v : Int) : v % 4294967296 = (((v % 4294967296).toNat : Nat) : Int) := by omega
theorem cut_bits (v : Int) : bitsN (v % 4294967296).toNat 0 21 = cutN v := by rw [bitsN_mod]; unfold cutN; omega
/-- The lowest 21 bits of a word, as a number with a sign. -/
def signN (w : Nat) : Int := if w % 2097152 < 1048576 then ((w % 2097152 : Nat) : Int) else ((w % 2097152 : Nat) : Int) - 2097152
theorem bit20 (w : Nat) : (w.testBit 20).toNat = w % 2097152 / 1048576 := by
  rw [Nat.testBit_eq_decide_div_mod_eq]
  by_cases h : w / 2 ^ 20 % 2 = 1
  · rw [decide_eq_true h]; simp; omega
  · rw [decide_eq_false h]; simp; omega
/-- Has a number 21 bits? -/
def fits21 (v : Int) : Bool := decide (-1048576 ≤ v ∧ v < 1048576)
/-- Which parts an operation uses. -/
def usesR (o : Int) : Bool × Bool × Bool × Bool :=
  if 3 ≤ o ∧ o ≤ 10 then (true, true, true, false) else if o = 11 ∨ o = 12 ∨ o = 13 ∨ o = 15 ∨ o = 16 then (true, true, false, true) else if o = 2 then (true, false, false, true)
  else if o = 14 ∨ o = 17 ∨ o = 21 then (false, false, false, true) else if o = 19 then (false, true, false, false) else (false, false, false, false)
theorem op_cases (o : Int) : o < 0 ∨ o = 0 ∨ o = 1 ∨ o = 2 ∨ o = 3 ∨ o = 4 ∨ o = 5 ∨ o = 6 ∨ o = 7 ∨ o = 8 ∨ o = 9 ∨ o = 10 ∨ o = 11 ∨ o = 12 ∨ o = 13 ∨ o = 14 ∨ o = 15 ∨ o = 16 ∨ o = 17 ∨ o = 18 ∨ o = 19 ∨ o = 20 ∨ o = 21 ∨ 21 < o := by omega
/-- May a register's number stand there? -/
def regR (r : Int) (u : Bool) : Bool := decide (r = 0) || (u && decide (r < 8))
/-- Is something wrong with the parts? -/
def badR (o d a b i : Int) : Bool :=
  decide (21 < o) || !(regR d (usesR o).1) || !(regR a (usesR o).2.1) || !(regR b (usesR o).2.2.1) || (!(usesR o).2.2.2 && decide (i ≠ 0))
/-- What Check tells. -/
def checkR (o d a b i : Int) : Int :=
  if badR o d a b i = true then 10 else if fits21 i = false then 11 else if o = 17 ∧ i < 0 then 11 else if o = 21 ∧ (i < 0 ∨ 63 < i) then 11 else 0
/-- An instruction's word, its parts being what they may be. -/
def encN (o d a b : Nat) (i : Int) : Nat := withN (withN (withN (cutN i ||| b) 27 5 o) 24 3 d) 21 3 a
theorem u8_mod {x : Int} (h0 : 0 ≤ x) (h1 : x < 256) : x % 4294967296 = ((x.toNat : Nat) : Int) ∧ x.toNat < 2 ^ 32 := by omega
/-- What Encode tells. -/
def encR (o d a b i : Int) : Int × Int := if checkR o d a b i = 0 then (((encN o.toNat d.toNat a.toNat b.toNat i : Nat) : Int), 0) else (0, checkR o d a b i)
theorem check_zero {o d a b i : Int} (h : checkR o d a b i = 0) : o ≤ 21 ∧ regR d (usesR o).1 = true ∧ regR a (usesR o).2.1 = true ∧ regR b (usesR o).2.2.1 = true ∧ ((usesR o).2.2.2 = true ∨ i = 0) ∧ fits21 i = true ∧ (o = 17 → 0 ≤ i) := by
  unfold checkR at h
  by_cases hb : badR o d a b i = true
  · rw [if_pos hb] at h; omega
  · rw [if_neg hb] at h
    replace hb := Bool.eq_false_iff.mpr hb
    unfold badR at hb
    simp only [Bool.or_eq_false_iff, decide_eq_false_iff_not, Bool.not_eq_false'] at hb
    obtain ⟨⟨⟨⟨h1, h2⟩, h3⟩, h4⟩, h5⟩ := hb
    refine ⟨by omega, h2, h3, h4, ?_, ?_, ?_⟩
    · cases hu : (usesR o).2.2.2
      · rw [hu] at h5; simp at h5; exact .inr h5
      · exact .inl rfl
    · cases hf : fits21 i
      · rw [hf] at h; simp at h
      · rfl
    · intro h17
      cases hf : fits21 i
      · rw [hf] at h; simp at h
      · rw [hf] at h
        by_cases hi : i < 0
        · rw [if_neg (by simp), if_pos ⟨h17, hi⟩] at h; omega
        · omega
theorem reg_lt {r : Int} {u : Bool} (h0 : 0 ≤ r) (h : regR r u = true) : r < 8 ∧ (u = false → r = 0) := by
  unfold regR at h
  cases u
  · simp at h; exact ⟨by omega, fun _ => h⟩
  · simp at h; exact ⟨by omega, fun h => by cases h⟩
theorem usesB (o : Int) (h : (usesR o).2.2.1 = true) : (usesR o).2.2.2 = false := by
  unfold usesR at h ⊢
  repeat' split at h
  all_goals first | (simp at h; done) | skip
  all_goals simp [*]
def opN (w : Nat) : Int := ((bitsN w 27 5 : Nat) : Int)
def dN (w : Nat) : Int := ((bitsN w 24 3 : Nat) : Int)
def aN (w : Nat) : Int := ((bitsN w 21 3 : Nat) : Int)
def bN (w : Nat) : Int := if (usesR (opN w)).2.2.1 = true then ((bitsN w 0 3 : Nat) : Int) else 0
def iN (w : Nat) : Int := if (usesR (opN w)).2.2.1 = true then 0 else signN w
/-- Is the word an instruction's? -/
def isIns (w : Nat) : Bool := decide (encR (opN w) (dN w) (aN w) (bN w) (iN w) = ((w : Int), 0))
/-- What Decode tells. -/
def decR (w : Nat) : Int × Int × Int × Int × Int × Int := if isIns w = true then (opN w, dN w, aN w, bN w, iN w, 0) else (0, 0, 0, 0, 0, 10)
theorem opN_lt (w : Nat) : 0 ≤ opN w ∧ opN w < 256 := by unfold opN; have := bitsN_lt w 27 5; omega
theorem dN_lt (w : Nat) : 0 ≤ dN w ∧ dN w < 256 := by unfold dN; have := bitsN_lt w 24 3; omega
theorem aN_lt (w : Nat) : 0 ≤ aN w ∧ aN w < 256 := by unfold aN; have := bitsN_lt w 21 3; omega
theorem bN_lt (w : Nat) : 0 ≤ bN w ∧ bN w < 256 := by unfold bN; have := bitsN_lt w 0 3; split <;> omega
theorem signN_lt (w : Nat) : -2147483648 ≤ signN w ∧ signN w < 2147483648 := by unfold signN; split <;> omega
theorem iN_lt (w : Nat) : -2147483648 ≤ iN w ∧ iN w < 2147483648 := by unfold iN; have := signN_lt w; split <;> omega
theorem mod256 {x : Int} (h0 : 0 ≤ x ∧ x < 256) : x % 256 = x := by omega
/-- What Decode tells of an instruction's word has the form that Check asks for. -/
theorem dec_check (w : Nat) (h : isIns w = true) : checkR (opN w) (dN w) (aN w) (bN w) (iN w) = 0 := by
  have h1 := of_decide_eq_true h
  unfold encR at h1
  by_cases hc : checkR (opN w) (dN w) (aN w) (bN w) (iN w) = 0
  · exact hc
  · rw [if_neg hc] at h1
    have := congrArg Prod.snd h1
    exact absurd this hc
end Go.Wd
/- Words and instructions: what the program's functions make. -/
namespace Go.Abs
set_option linter.unusedSimpArgs false
set_option linter.unusedVariables false
set_option maxHeartbeats 4000000
open Go.Proofs Go.Wd
set_option linter.unusedVariables false
set_option maxRecDepth 8000
theorem mixed : Tryd.prog.follows .mixedOrders = true := by kernel_rfl
variable {H : Heap}
theorem w32 {x : Int} (h0 : 0 ≤ x) (h1 : x < 4294967296) : IntKind.u32.wrap x = x := by rw [IntKind.wrap_u32]; omega
theorem w8 {x : Int} (h0 : 0 ≤ x) (h1 : x < 256) : IntKind.u8.wrap x = x := by rw [IntKind.wrap_u8]; omega
theorem wi64 {x : Int} (h0 : -9223372036854775808 ≤ x) (h1 : x < 9223372036854775808) : IntKind.i64.wrap x = x := by rw [IntKind.wrap_i64]; omega
theorem may_c {a n : Nat} (h : a + n ≤ 32) : AC Tryd.prog 94 [.s (.int .i64 a), .s (.int .i64 n)] H (fun r H' => r = .s (.bool true) ∧ H' = H) := by
  refine AC.body Tryd.func94 rfl rfl (n := 21) (res := [.tmp 4]) rfl rfl (by simp) ?_
  simp only [ent]
  have h1 : (a : Int) ≤ 32 := by omega
  have hw : IntKind.i64.wrap (32 - (a : Int)) = 32 - a := wi64 (by omega) (by omega)
  have h2 : (n : Int) ≤ 32 - a := by omega
  (repeat' (first | refine wk ?_ | refine wk2 ?_ ?_ | with_reducible refine wkF fun _ _ _ => ?_ | with_reducible intro _ | exact ag | fail))
  exact fin0
theorem mask_c {n : Nat} (h : n ≤ 32) : AC Tryd.prog 95 [.s (.int .i64 n)] H (fun r H' => r = .s (.int .u32 (maskN n : Nat)) ∧ H' = H) := by
  refine AC.body Tryd.func95 rfl rfl (n := 6) (res := [.tmp 2]) rfl rfl (by simp) ?_
  simp only [ent]
  have hm := maskN_lt n h
  have hv : IntKind.u32.wrap (shlK .u32 1 n - 1) = (maskN n : Nat) := by
    unfold shlK
    have h1 : min ((n : Int).toNat) IntKind.u32.bits = n := by rw [Int.toNat_natCast]; exact Nat.min_eq_left h
    rw [h1, IntKind.wrap_u32, IntKind.wrap_u32]
    have hp : ((2 : Int) ^ n) = ((2 ^ n : Nat) : Int) := by simp
    have h2 : (2 : Nat) ^ n ≤ 2 ^ 32 := Nat.pow_le_pow_right (by decide) h
    have h3 := Nat.two_pow_pos n
    have e : maskN n = 2 ^ n - 1 := rfl
    rw [Int.one_mul, hp, e]
    generalize 2 ^ n = p at *
    omega
  (repeat' (first | refine wk ?_ | refine wk2 ?_ ?_ | with_reducible refine wkF fun _ _ _ => ?_ | with_reducible intro _ | exact ag | fail))
  exact fin0
theorem wshl {a n : Nat} (hn : n ≤ 32) : shlK .u32 a n = (((a <<< n) % 2 ^ 32 : Nat) : Int) := shl_nat a n hn
theorem wshr {a n : Nat} (hn : n ≤ 32) : shrK .u32 a n = ((a >>> n : Nat) : Int) := by
  unfold shrK; rw [Int.fdiv_eq_ediv_of_nonneg _ (Int.le_of_lt (Int.pow_pos (by decide)))]; exact shr_nat a n hn
theorem shr_lt {a : Nat} (n : Nat) (h : a < 2 ^ 32) : a >>> n < 2 ^ 32 := by rw [Nat.shiftRight_eq_div_pow]; exact Nat.lt_of_le_of_lt (Nat.div_le_self _ _) h
theorem bits_c {w a n : Nat} (hw : w < 2 ^ 32) (h : a + n ≤ 32) : AC Tryd.prog 84 [.s (.int .u32 w), .s (.int .i64 a), .s (.int .i64 n)] H (fun r H' => r = .s (.int .u32 (bitsN w a n : Nat)) ∧ H' = H) := by
  refine AC.body Tryd.func84 rfl rfl (n := 17) (res := [.tmp 6]) rfl rfl (by simp) ?_
  simp only [ent]
  have e1 := wshr (a := w) (n := a) (by omega)
  have e2 := and_nat _ _ (shr_lt a hw) (maskN_lt n (by omega))
  (repeat' (first | refine wk ?_ | refine wk2 ?_ ?_ | with_reducible refine wkF fun _ _ _ => ?_ | with_reducible intro _ | refine Calling.eq (may_c h) ?_ | exact ag | fail))
  refine ARun.drawB mixed [([], [0, 1, 2, 3], some 4), ([0, 1, 2], [5, 6], none)] (by kernel_rfl) (by rfl) ?_
  (repeat' (first | refine wk ?_ | refine wk2 ?_ ?_ | with_reducible refine wkF fun _ _ _ => ?_ | with_reducible intro _ | refine Calling.eq (mask_c (by omega)) ?_ | exact ag | fail))
  exact fin0
theorem with_c {w a n v : Nat} (hw : w < 2 ^ 32) (hv : v < 2 ^ 32) (h : a + n ≤ 32) : AC Tryd.prog 88 [.s (.int .u32 w), .s (.int .i64 a), .s (.int .i64 n), .s (.int .u32 v)] H (fun r H' => r = .s (.int .u32 (withN w a n v : Nat)) ∧ H' = H) := by
  refine AC.body Tryd.func88 rfl rfl (n := 27) (res := [.tmp 8]) rfl rfl (by simp) ?_
  simp only [ent]
  have hm := maskN_lt n (by omega)
  have e1 := wshl (a := maskN n) (n := a) (by omega)
  have e2 := andNot_nat w ((maskN n <<< a) % 2 ^ 32) hw (Nat.mod_lt _ (by decide))
  have e3 := and_nat _ _ hv hm
  have e4 := wshl (a := v &&& maskN n) (n := a) (by omega)
  have e5 := or_nat (ndN w ((maskN n <<< a) % 2 ^ 32)) (((v &&& maskN n) <<< a) % 2 ^ 32) (ndN_lt _ _) (Nat.mod_lt _ (by decide))
  (repeat' (first | refine wk ?_ | refine wk2 ?_ ?_ | with_reducible refine wkF fun _ _ _ => ?_ | with_reducible intro _ | refine Calling.eq (may_c h) ?_ | exact ag | fail))
  refine ARun.drawB mixed [([], [0, 1, 3, 6, 7, 10], some 2), ([0, 3, 6, 7, 10], [4, 5], some 8), ([0, 1, 3, 6, 10, 4, 5], [9, 11, 12, 13], none)] (by kernel_rfl) (by rfl) ?_
  (repeat' (first | refine wk ?_ | refine wk2 ?_ ?_ | with_reducible refine wkF fun _ _ _ => ?_ | with_reducible intro _ | refine Calling.eq (mask_c (n := n) (by omega)) ?_ | exact ag | fail))
  exact fin0
theorem wcut (v : Int) : Go.bits .and .u32 (IntKind.u32.wrap v) ((maskN 21 : Nat) : Int) = ((cutN v : Nat) : Int) := by
  have h : IntKind.u32.wrap v = (((v % 4294967296).toNat : Nat) : Int) := by rw [IntKind.wrap_u32]; omega
  rw [h, and_nat _ _ (by omega) (by decide), ← cut_bits]; rfl
theorem cut_c {v : Int} : AC Tryd.prog 89 [.s (.int .i32 v), .s (.int .i64 21)] H (fun r H' => r = .s (.int .u32 (cutN v : Nat)) ∧ H' = H) := by
  refine AC.body Tryd.func89 rfl rfl (n := 13) (res := [.tmp 4]) rfl rfl (by simp) ?_
  simp only [ent]
  have e1 := wcut v
  (repeat' (first | refine wk ?_ | refine wk2 ?_ ?_ | with_reducible refine wkF fun _ _ _ => ?_ | with_reducible intro _ | refine Doing.eq (oc_min) ?_ | refine Calling.eq (mask_c (n := 21) (by decide)) ?_ | exact ag | fail))
  exact fin0
theorem signed_c {w : Nat} (hw : w < 2 ^ 32) : AC Tryd.prog 86 [.s (.int .u32 w), .s (.int .i64 21)] H (fun r H' => r = .s (.int .i32 (signN w)) ∧ H' = H) := by
  have w1 : IntKind.i64.wrap (32 - 21) = 11 := rfl
  refine AC.body Tryd.func86 rfl rfl (n := 19) (res := [.tmp 4]) rfl rfl (by simp) ?_
  simp only [ent]
  have hs : shrK .i32 (IntKind.i32.wrap (shlK .u32 w 11)) 11 = signN w := by
    unfold shrK shlK
    rw [show min (11 : Int).toNat IntKind.u32.bits = 11 from rfl, show min (11 : Int).toNat IntKind.i32.bits = 11 from rfl, Int.fdiv_eq_ediv_of_nonneg _ (by decide), IntKind.wrap_u32, IntKind.wrap_i32]
    unfold signN
    split <;> omega
  (repeat' (first | refine wk ?_ | refine wk2 ?_ ?_ | with_reducible refine wkF fun _ _ _ => ?_ | with_reducible intro _ | exact ag | fail))
  exact fin0
theorem fits_c {v : Int} (h0 : -9223372036854775808 ≤ v) (h1 : v < 9223372036854775808) : AC Tryd.prog 76 [.s (.int .i64 v), .s (.int .i64 21)] H (fun r H' => r = .s (.bool (fits21 v)) ∧ H' = H) := by
  have w1 : IntKind.i64.wrap (21 - 1) = 20 := rfl
  refine AC.body Tryd.func76 rfl rfl (n := 22) (res := [.tmp 4]) rfl rfl (by simp) ?_
  simp only [ent]
  have e1 : shrK .i64 v 20 = v / 1048576 := by unfold shrK; rw [show min (20 : Int).toNat IntKind.i64.bits = 20 from rfl, Int.fdiv_eq_ediv_of_nonneg _ (by decide)]; rfl
  (repeat' (first | refine wk ?_ | refine wk2 ?_ ?_ | with_reducible refine wkF fun _ _ _ => ?_ | with_reducible intro _ | exact ag | fail))
  all_goals
    refine fin1 ⟨?_, rfl⟩
    simp only [resV, fits21]
    simp_all
    try (rw [Bool.eq_iff_iff]; simp)
    try omega
end Go.Abs
/- Lists: first places, elements of rows. -/
namespace Go.Abs
set_option linter.unusedSimpArgs false
set_option linter.unusedVariables false
open Go.Proofs
set_option linter.unusedVariables false
set_option maxRecDepth 8000
variable {H : Heap}
/-- The first place of a list with some property; -1: none. -/
def fi {α : Type} (p : α → Bool) (l : List α) : Int := match l.findIdx? p with | some i => i | none => -1
theorem fi_some {α : Type} {p : α → Bool} {l : List α} {i : Nat} {x : α} (hx : l[i]? = some x) (h : p x = true) (hn : ∀ (j : Nat) (y : α), j < i → l[j]? = some y → p y = false) : fi p l = i := by
  obtain ⟨hi, rfl⟩ := List.getElem?_eq_some_iff.1 hx
  have : l.findIdx? p = some i := by
    rw [List.findIdx?_eq_some_iff_getElem]
    exact ⟨hi, h, fun j hj => by simpa using hn j _ hj (List.getElem?_eq_getElem (by omega))⟩
  simp [fi, this]
theorem fi_none {α : Type} {p : α → Bool} {l : List α} (hn : ∀ (j : Nat) (y : α), l[j]? = some y → p y = false) : fi p l = -1 := by
  have : l.findIdx? p = none := by
    rw [List.findIdx?_eq_none_iff]
    intro x hx
    obtain ⟨j, hj⟩ := List.mem_iff_getElem?.1 hx
    exact hn j x hj
  simp [fi, this]
theorem fi_end {α : Type} {p : α → Bool} {l : List α} {i : Nat} (hi : l.length ≤ i) (hn : ∀ (j : Nat) (y : α), j < i → l[j]? = some y → p y = false) : fi p l = -1 :=
  fi_none fun j y hy => hn j y (by have := (List.getElem?_eq_some_iff.1 hy).1; omega) hy
/-- Nothing ahead of place i has the property. -/
def noneB {α : Type} (p : α → Bool) (l : List α) (i : Nat) : Prop := ∀ (j : Nat) (y : α), j < i → l[j]? = some y → p y = false
theorem noneB.zero {α : Type} {p : α → Bool} {l : List α} : noneB p l 0 := fun j y hj => by omega
theorem noneB.succ {α : Type} {p : α → Bool} {l : List α} {i : Nat} {x : α} (h : noneB p l i) (hx : l[i]? = some x) (hp : p x = false) : noneB p l (i + 1) := fun j y hj hy => by
  rcases Nat.lt_or_ge j i with g | g
  · exact h j y g hy
  · obtain rfl : j = i := by omega
    rw [hx] at hy; cases hy; exact hp
theorem vget {α : Type} (enc : α → List TV) {l : List α} {i : Nat} {x : α} (h : l[i]? = some x) : (l.map enc)[i]? = some (enc x) := by rw [List.getElem?_map, h]; rfl
theorem at_ {α : Type} {l : List α} {i : Nat} (h : i < l.length) : ∃ x, l[i]? = some x := ⟨_, List.getElem?_eq_getElem h⟩
theorem w64s {i : Nat} (h : i < 9223372036854775807) : IntKind.i64.wrap ((i : Int) + 1) = ((i + 1 : Nat) : Int) := by rw [wi64 (by omega) (by omega)]; simp
theorem AC.func {P : Program} {f g : FuncId} {a : TV} {H : Heap} {C : TV → Heap → Prop} (h : AC P f [a, .clo (.func g) [] []] H C) : AC P f [a, .s (.func (.func g) #[] #[])] H C := by
  intro argv w ha hh
  refine h argv w ?_ hh
  simp only [RepL, Rep] at ha ⊢
  obtain ⟨y, ys, rfl, h1, z, zs, rfl, rfl, h3⟩ := ha
  exact ⟨y, _, rfl, h1, _, _, rfl, ⟨#[], #[], rfl, rfl, rfl⟩, h3⟩
theorem toList_inj {a c : ByteArray} : a.toList = c.toList ↔ a = c := by
  constructor
  · intro h; rw [ByteArray.toList_eq, ByteArray.toList_eq] at h
    obtain ⟨⟨x⟩⟩ := a; obtain ⟨⟨y⟩⟩ := c; simp at h; rw [h]
  · rintro rfl; rfl
theorem str_eq (a c : ByteArray) : (a.toList == c.toList) = decide (a = c) := by rw [Bool.eq_iff_iff]; simp [toList_inj]
attribute [go_sem] List.length_map
/-- Elements of rows. -/
def s1 (x : ByteArray) : List TV := [.s (.string x)]
def u1 (x : Nat) : List TV := [.s (.int .u32 x)]
theorem s1_def (x : ByteArray) : s1 x = [.s (.string x)] := rfl
theorem u1_def (x : Nat) : u1 x = [.s (.int .u32 x)] := rfl
end Go.Abs
/- Modules: how they are seen, and lists of texts and relocations. -/
namespace Go.Abs
set_option linter.unusedSimpArgs false
set_option linter.unusedVariables false
set_option maxHeartbeats 4000000
open Go.Proofs
set_option linter.unusedVariables false
set_option maxRecDepth 8000
variable {H : Heap}
structure Rlc where
  k : Nat
  a : Nat
  w : Nat
  deriving DecidableEq
def relE (x : Rlc) : List TV := [.s (.int .u8 x.k), .s (.int .u16 x.a), .s (.int .u16 x.w)]
theorem relE_def (x : Rlc) : relE x = [.s (.int .u8 x.k), .s (.int .u16 x.a), .s (.int .u16 x.w)] := rfl
structure Mod where
  nm : ByteArray
  ex : List ByteArray
  im : List ByteArray
  co : List Nat
  da : List Nat
  re : List Rlc
  deriving DecidableEq
def Mod.tv (m : Mod) : TV := .agg [.s (.string m.nm), .vs 1 (m.ex.map s1), .vs 1 (m.im.map s1), .vs 1 (m.co.map u1), .vs 1 (m.da.map u1), .vs 3 (m.re.map relE)]
theorem Mod.tv_def (m : Mod) : m.tv = .agg [.s (.string m.nm), .vs 1 (m.ex.map s1), .vs 1 (m.im.map s1), .vs 1 (m.co.map u1), .vs 1 (m.da.map u1), .vs 3 (m.re.map relE)] := rfl
theorem ixfS_c (L : List ByteArray) (hL : L.length < 4611686018427387904) (g : FuncId) (cs : List TV) (p : ByteArray → Bool) (H : Heap)
    (hp : ∀ x : ByteArray, x ∈ L → AC Tryd.prog g ([] ++ [.s (.string x)] ++ cs) H (fun r H' => r = .s (.bool (p x)) ∧ H' = H)) :
    AC Tryd.prog 41 [.vs 1 (L.map s1), .clo (.func g) [] cs] H (fun r H' => r = .s (.int .i64 (fi p L)) ∧ H' = H) := by
  refine AC.body Tryd.func41 rfl rfl (n := 19) (res := [.tmp 4]) rfl rfl (by simp) ?_
  simp only [ent]
  (repeat' (first | refine wk ?_ | refine wk2 ?_ ?_ | with_reducible refine wkF fun _ _ _ => ?_ | with_reducible intro _ | exact ag | fail))
  refine ARun.rounds (fun i : Nat => ⟨[(0, .vs 1 (L.map s1)), (1, .clo (.func g) [] cs), (7, .s (.int .i64 L.length)), (8, .s (.int .i64 i))], H⟩) (fun i => L.length - i) (fun i => i ≤ L.length ∧ noneB p L i) ?_ 0 ⟨by omega, .zero⟩ ?_
  · rintro i ⟨hi, hno⟩ next
    replace hno := later hno
    by_cases hlt : i < L.length
    · have h1 : (i : Int) < L.length := by omega
      have h2 : (0 : Int) ≤ i := by omega
      obtain ⟨x, hx⟩ := at_ hlt
      have hx1 := vget s1 hx
      have ha := hp x (List.mem_of_getElem? hx)
      simp only [List.nil_append, List.cons_append] at ha
      have hw := w64s (i := i) (by omega)
      simp only [s1_def] at hx1 ha
      replace hp := later hp
      cases hpx : p x with
      | true =>
        rw [hpx] at ha
        rw [fi_some hx hpx hno.go]
        clear hx next
        (repeat' (first | refine wk ?_ | refine wk2 ?_ ?_ | with_reducible refine wkF fun _ _ _ => ?_ | with_reducible intro _ | refine Calling.eq (ha) ?_ | exact ag | fail))
        exact fin0
      | false =>
        rw [hpx] at ha
        replace hx := later hx
        (repeat' (first | refine wk ?_ | refine wk2 ?_ ?_ | with_reducible refine wkF fun _ _ _ => ?_ | with_reducible intro _ | refine Calling.eq (ha) ?_ | exact ag | fail))
        exact ARun.weaken (next.go (i + 1) ⟨by omega, hno.go.succ hx.go hpx⟩ (by omega)) (leK (Sub.refl _))
    · have h1 : decide ((i : Int) < L.length) = false := by simp; omega
      rw [fi_end (by omega) hno.go]
      clear next hp
      (repeat' (first | refine wk ?_ | refine wk2 ?_ ?_ | with_reducible refine wkF fun _ _ _ => ?_ | with_reducible intro _ | exact ag | fail))
      exact fin0
  · exact leK (Sub.refl _)

theorem cofS_c (L : List ByteArray) (hL : L.length < 4611686018427387904) (g : FuncId) (cs : List TV) (p : ByteArray → Bool) (H : Heap)
    (hp : ∀ x : ByteArray, x ∈ L → AC Tryd.prog g ([] ++ [.s (.string x)] ++ cs) H (fun r H' => r = .s (.bool (p x)) ∧ H' = H)) :
    AC Tryd.prog 24 [.vs 1 (L.map s1), .clo (.func g) [] cs] H (fun r H' => r = .s (.bool (decide (0 ≤ fi p L))) ∧ H' = H) := by
  refine AC.body Tryd.func24 rfl rfl (n := 9) (res := [.tmp 4]) rfl rfl (by simp) ?_
  simp only [ent]
  have I := ixfS_c L hL g cs p H hp
  clear hp
  (repeat' (first | refine wk ?_ | refine wk2 ?_ ?_ | with_reducible refine wkF fun _ _ _ => ?_ | with_reducible intro _ | refine Calling.eq (I) ?_ | exact ag | fail))
  exact fin0

theorem ixS_c (L : List ByteArray) (hL : L.length < 4611686018427387904) (v : ByteArray) (H : Heap) :
    AC Tryd.prog 93 [.vs 1 (L.map s1), .s (.string v)] H (fun r H' => r = .s (.int .i64 (fi (fun x => v.toList == x.toList) L)) ∧ H' = H) := by
  refine AC.body Tryd.func93 rfl rfl (n := 19) (res := [.tmp 4]) rfl rfl (by simp) ?_
  simp only [ent]
  (repeat' (first | refine wk ?_ | refine wk2 ?_ ?_ | with_reducible refine wkF fun _ _ _ => ?_ | with_reducible intro _ | exact ag | fail))
  refine ARun.rounds (fun i : Nat => ⟨[(0, .vs 1 (L.map s1)), (1, .s (.string v)), (7, .s (.int .i64 L.length)), (8, .s (.int .i64 i))], H⟩) (fun i => L.length - i) (fun i => i ≤ L.length ∧ noneB (fun x => v.toList == x.toList) L i) ?_ 0 ⟨by omega, .zero⟩ ?_
  · rintro i ⟨hi, hno⟩ next
    replace hno := later hno
    by_cases hlt : i < L.length
    · have h1 : (i : Int) < L.length := by omega
      have h2 : (0 : Int) ≤ i := by omega
      obtain ⟨x, hx⟩ := at_ hlt
      have hx1 := vget s1 hx
      have hw := w64s (i := i) (by omega)
      simp only [s1_def] at hx1
      cases hpx : (v.toList == x.toList) with
      | true =>
        rw [fi_some hx hpx hno.go]
        clear hx next
        (repeat' (first | refine wk ?_ | refine wk2 ?_ ?_ | with_reducible refine wkF fun _ _ _ => ?_ | with_reducible intro _ | exact ag | fail))
        exact fin0
      | false =>
        replace hx := later hx
        (repeat' (first | refine wk ?_ | refine wk2 ?_ ?_ | with_reducible refine wkF fun _ _ _ => ?_ | with_reducible intro _ | exact ag | fail))
        exact ARun.weaken (next.go (i + 1) ⟨by omega, hno.go.succ hx.go hpx⟩ (by omega)) (leK (Sub.refl _))
    · have h1 : decide ((i : Int) < L.length) = false := by simp; omega
      rw [fi_end (by omega) hno.go]
      clear next
      (repeat' (first | refine wk ?_ | refine wk2 ?_ ?_ | with_reducible refine wkF fun _ _ _ => ?_ | with_reducible intro _ | exact ag | fail))
      exact fin0
  · exact leK (Sub.refl _)

theorem ixfR_c (L : List Rlc) (hL : L.length < 4611686018427387904) (g : FuncId) (cs : List TV) (p : Rlc → Bool) (H : Heap)
    (hp : ∀ x : Rlc, x ∈ L → AC Tryd.prog g ([] ++ [.agg (relE x)] ++ cs) H (fun r H' => r = .s (.bool (p x)) ∧ H' = H)) :
    AC Tryd.prog 51 [.vs 3 (L.map relE), .clo (.func g) [] cs] H (fun r H' => r = .s (.int .i64 (fi p L)) ∧ H' = H) := by
  refine AC.body Tryd.func51 rfl rfl (n := 19) (res := [.tmp 4]) rfl rfl (by simp) ?_
  simp only [ent]
  (repeat' (first | refine wk ?_ | refine wk2 ?_ ?_ | with_reducible refine wkF fun _ _ _ => ?_ | with_reducible intro _ | exact ag | fail))
  refine ARun.rounds (fun i : Nat => ⟨[(0, .vs 3 (L.map relE)), (1, .clo (.func g) [] cs), (7, .s (.int .i64 L.length)), (8, .s (.int .i64 i))], H⟩) (fun i => L.length - i) (fun i => i ≤ L.length ∧ noneB p L i) ?_ 0 ⟨by omega, .zero⟩ ?_
  · rintro i ⟨hi, hno⟩ next
    replace hno := later hno
    by_cases hlt : i < L.length
    · have h1 : (i : Int) < L.length := by omega
      have h2 : (0 : Int) ≤ i := by omega
      obtain ⟨x, hx⟩ := at_ hlt
      have hx1 := vget relE hx
      have ha := hp x (List.mem_of_getElem? hx)
      simp only [List.nil_append, List.cons_append] at ha
      have hw := w64s (i := i) (by omega)
      simp only [relE_def] at hx1 ha
      replace hp := later hp
      cases hpx : p x with
      | true =>
        rw [hpx] at ha
        rw [fi_some hx hpx hno.go]
        clear hx next
        (repeat' (first | refine wk ?_ | refine wk2 ?_ ?_ | with_reducible refine wkF fun _ _ _ => ?_ | with_reducible intro _ | refine Calling.eq (ha) ?_ | exact ag | fail))
        exact fin0
      | false =>
        rw [hpx] at ha
        replace hx := later hx
        (repeat' (first | refine wk ?_ | refine wk2 ?_ ?_ | with_reducible refine wkF fun _ _ _ => ?_ | with_reducible intro _ | refine Calling.eq (ha) ?_ | exact ag | fail))
        exact ARun.weaken (next.go (i + 1) ⟨by omega, hno.go.succ hx.go hpx⟩ (by omega)) (leK (Sub.refl _))
    · have h1 : decide ((i : Int) < L.length) = false := by simp; omega
      rw [fi_end (by omega) hno.go]
      clear next hp
      (repeat' (first | refine wk ?_ | refine wk2 ?_ ?_ | with_reducible refine wkF fun _ _ _ => ?_ | with_reducible intro _ | exact ag | fail))
      exact fin0
  · exact leK (Sub.refl _)

theorem cofR_c (L : List Rlc) (hL : L.length < 4611686018427387904) (g : FuncId) (cs : List TV) (p : Rlc → Bool) (H : Heap)
    (hp : ∀ x : Rlc, x ∈ L → AC Tryd.prog g ([] ++ [.agg (relE x)] ++ cs) H (fun r H' => r = .s (.bool (p x)) ∧ H' = H)) :
    AC Tryd.prog 65 [.vs 3 (L.map relE), .clo (.func g) [] cs] H (fun r H' => r = .s (.bool (decide (0 ≤ fi p L))) ∧ H' = H) := by
  refine AC.body Tryd.func65 rfl rfl (n := 9) (res := [.tmp 4]) rfl rfl (by simp) ?_
  simp only [ent]
  have I := ixfR_c L hL g cs p H hp
  clear hp
  (repeat' (first | refine wk ?_ | refine wk2 ?_ ?_ | with_reducible refine wkF fun _ _ _ => ?_ | with_reducible intro _ | refine Calling.eq (I) ?_ | exact ag | fail))
  exact fin0

theorem coS_c (L : List ByteArray) (hL : L.length < 4611686018427387904) (v : ByteArray) (H : Heap) : AC Tryd.prog 83 [.vs 1 (L.map s1), .s (.string v)] H (fun r H' => r = .s (.bool (decide (0 ≤ fi (fun x => v.toList == x.toList) L))) ∧ H' = H) := by
  refine AC.body Tryd.func83 rfl rfl (n := 9) (res := [.tmp 4]) rfl rfl (by simp) ?_
  simp only [ent]
  have I := ixS_c L hL v H
  (repeat' (first | refine wk ?_ | refine wk2 ?_ ?_ | with_reducible refine wkF fun _ _ _ => ?_ | with_reducible intro _ | refine Calling.eq (I) ?_ | exact ag | fail))
  exact fin0
end Go.Abs
/- Names, pure. No program. -/
namespace Go.Nm
open Go.Lib Go.RowKit
set_option linter.unusedVariables false
theorem width_pos (s : ByteArray) (pos : Nat) : 1 ≤ (Utf8.decode s pos).2 := by
  rw [decode_at]; unfold decodeN
  repeat' split
  all_goals simp
/-- How many runes stand from place pos on, by at most so many rounds. -/
def runesFrom (s : ByteArray) : Nat → Nat → Int → Int
  | 0, _, n => n
  | f + 1, pos, n => if pos < s.size then runesFrom s f (pos + (Utf8.decode s pos).2) (wrap64 (n + 1)) else n
def runes (s : ByteArray) : Int := runesFrom s s.size 0 0
/-- A version's digits. -/
def verFrom (s : ByteArray) : Nat → Nat → Int → Int
  | 0, _, n => n
  | f + 1, pos, n => if pos < s.size then (if ((Utf8.decode s pos).1 : Int) < 48 ∨ 57 < ((Utf8.decode s pos).1 : Int) then 0 else verFrom s f (pos + (Utf8.decode s pos).2) (wrap64 (wrap64 (10 * n) + (((Utf8.decode s pos).1 : Int) - 48)))) else n
def ver (s : ByteArray) : Int := if s.size = 0 ∨ 3 < s.size ∨ (s.get! 0).toNat = 48 then 0 else verFrom s s.size 0 0
def letter (r : Int) (wrong : Bool) : Bool := (decide (97 ≤ r) && decide (r ≤ 122)) || (decide (65 ≤ r) && decide (r ≤ 90)) || (decide (128 ≤ r) && !wrong)
/-- Is the rune at place pos a wrong one (one byte that begins no rune)? -/
def wrongAt (s : ByteArray) (pos : Nat) : Bool := decide (((Utf8.decode s pos).1 : Int) = 65533) && decide ((decodeGo (s.extract pos s.size)).2 = 1)
def badAt (s : ByteArray) (pos : Nat) : Bool :=
  !(letter ((Utf8.decode s pos).1 : Int) (wrongAt s pos)) && (decide (pos = 0) || (!decide (((Utf8.decode s pos).1 : Int) = 95) && (decide (((Utf8.decode s pos).1 : Int) < 48) || decide (57 < ((Utf8.decode s pos).1 : Int)))))
def stemFrom (s : ByteArray) : Nat → Nat → Bool
  | 0, _ => !s.data.toList.isEmpty
  | f + 1, pos => if pos < s.size then (if badAt s pos then false else stemFrom s f (pos + (Utf8.decode s pos).2)) else !s.data.toList.isEmpty
def stem (s : ByteArray) : Bool := stemFrom s s.size 0
theorem runesFrom_end (s : ByteArray) (f pos : Nat) (n : Int) (h : ¬ pos < s.size) : runesFrom s f pos n = n := by cases f <;> simp [runesFrom, h]
theorem verFrom_end (s : ByteArray) (f pos : Nat) (n : Int) (h : ¬ pos < s.size) : verFrom s f pos n = n := by cases f <;> simp [verFrom, h]
theorem stemFrom_end (s : ByteArray) (f pos : Nat) (h : ¬ pos < s.size) : stemFrom s f pos = !s.data.toList.isEmpty := by cases f <;> simp [stemFrom, h]
theorem wraps_i64 (n : Int) (h₀ : 0 ≤ n) (h₁ : n < 2 ^ 63) : IntKind.i64.wrap n = n := by rw [IntKind.wrap_i64]; omega
theorem i64_and31 (x : Int) (h₀ : 0 ≤ x) (h₁ : x < 256) : Go.bits .and .i64 x 31 = x % 32 := bits_mask .i64 63 (by decide) wraps_i64 5 (by decide) x h₀ (by omega)
theorem i64_and15 (x : Int) (h₀ : 0 ≤ x) (h₁ : x < 256) : Go.bits .and .i64 x 15 = x % 16 := bits_mask .i64 63 (by decide) wraps_i64 4 (by decide) x h₀ (by omega)
theorem i64_and7 (x : Int) (h₀ : 0 ≤ x) (h₁ : x < 256) : Go.bits .and .i64 x 7 = x % 8 := bits_mask .i64 63 (by decide) wraps_i64 3 (by decide) x h₀ (by omega)
theorem i64_or6 (x y : Int) (hx₀ : 0 ≤ x) (hx : x % 64 = 0) (hx₁ : x < 2147483648) (h₀ : 0 ≤ y) (h₁ : y < 64) : Go.bits .or .i64 x y = x + y :=
  bits_join .i64 63 (by decide) wraps_i64 6 x y hx₀ hx (by omega) h₀ h₁ (by omega)
theorem i64_or12 (x y : Int) (hx₀ : 0 ≤ x) (hx : x % 4096 = 0) (hx₁ : x < 2147483648) (h₀ : 0 ≤ y) (h₁ : y < 4096) : Go.bits .or .i64 x y = x + y :=
  bits_join .i64 63 (by decide) wraps_i64 12 x y hx₀ hx (by omega) h₀ h₁ (by omega)
theorem i64_or18 (x y : Int) (hx₀ : 0 ≤ x) (hx : x % 262144 = 0) (hx₁ : x < 2147483648) (h₀ : 0 ≤ y) (h₁ : y < 262144) : Go.bits .or .i64 x y = x + y :=
  bits_join .i64 63 (by decide) wraps_i64 18 x y hx₀ hx (by omega) h₀ h₁ (by omega)
theorem u8_and192 (x : Int) (h₀ : 0 ≤ x) (h₁ : x < 256) : Go.bits .and .u8 x 192 = x / 64 * 64 := by
  have h : ∀ n : Fin 256, Go.bits .and .u8 ((n.val : Nat) : Int) 192 = ((n.val : Nat) : Int) / 64 * 64 := by decide +kernel
  have := h ⟨x.toNat, by omega⟩
  simp only [Int.toNat_of_nonneg h₀] at this
  exact this
theorem w64 {x : Int} (h₀ : 0 ≤ x) (h₁ : x < 9223372036854775808) : wrap64 x = x := by unfold wrap64; omega
/-- The rune at place p: -1 of a wrong one. -/
def rv (s : ByteArray) (p : Nat) : Int := if (Utf8.decode s p).2 = 1 ∧ (Utf8.decode s p).1 = 65533 then -1 else ((Utf8.decode s p).1 : Int)
theorem val2 (x y : Int) (hx : 0 ≤ x ∧ x < 256) (hy : 0 ≤ y ∧ y < 256) : Go.bits .or .i64 (wrap64 ((Go.bits .and .i64 x 31) * 64)) (wrap64 (Go.bits .and .u8 y 63)) = x % 32 * 64 + y % 64 := by
  obtain ⟨hx0, hx1⟩ := hx
  obtain ⟨hy0, hy1⟩ := hy
  rw [i64_and31 x hx0 hx1, u8_and63 y hy0 hy1, w64 (x := x % 32 * 64) (by omega) (by omega), w64 (x := y % 64) (by omega) (by omega)]
  exact i64_or6 _ _ (by omega) (by omega) (by omega) (by omega) (by omega)
theorem val3 (x y z : Int) (hx : 0 ≤ x ∧ x < 256) (hy : 0 ≤ y ∧ y < 256) (hz : 0 ≤ z ∧ z < 256) :
    Go.bits .or .i64 (Go.bits .or .i64 (wrap64 ((Go.bits .and .i64 x 15) * 4096)) (wrap64 ((wrap64 (Go.bits .and .u8 y 63)) * 64))) (wrap64 (Go.bits .and .u8 z 63)) = x % 16 * 4096 + y % 64 * 64 + z % 64 := by
  obtain ⟨hx0, hx1⟩ := hx
  obtain ⟨hy0, hy1⟩ := hy
  obtain ⟨hz0, hz1⟩ := hz
  rw [i64_and15 x hx0 hx1, u8_and63 y hy0 hy1, u8_and63 z hz0 hz1, w64 (x := x % 16 * 4096) (by omega) (by omega), w64 (x := y % 64) (by omega) (by omega), w64 (x := z % 64) (by omega) (by omega), w64 (x := y % 64 * 64) (by omega) (by omega),
    i64_or12 (x % 16 * 4096) (y % 64 * 64) (by omega) (by omega) (by omega) (by omega) (by omega)]
  exact i64_or6 _ _ (by omega) (by omega) (by omega) (by omega) (by omega)
theorem val4 (x y z u : Int) (hx : 0 ≤ x ∧ x < 256) (hy : 0 ≤ y ∧ y < 256) (hz : 0 ≤ z ∧ z < 256) (hu : 0 ≤ u ∧ u < 256) :
    Go.bits .or .i64 (Go.bits .or .i64 (Go.bits .or .i64 (wrap64 ((Go.bits .and .i64 x 7) * 262144)) (wrap64 ((wrap64 (Go.bits .and .u8 y 63)) * 4096))) (wrap64 ((wrap64 (Go.bits .and .u8 z 63)) * 64))) (wrap64 (Go.bits .and .u8 u 63)) = x % 8 * 262144 + y % 64 * 4096 + z % 64 * 64 + u % 64 := by
  obtain ⟨hx0, hx1⟩ := hx
  obtain ⟨hy0, hy1⟩ := hy
  obtain ⟨hz0, hz1⟩ := hz
  obtain ⟨hu0, hu1⟩ := hu
  rw [i64_and7 x hx0 hx1, u8_and63 y hy0 hy1, u8_and63 z hz0 hz1, u8_and63 u hu0 hu1, w64 (x := x % 8 * 262144) (by omega) (by omega), w64 (x := y % 64) (by omega) (by omega), w64 (x := z % 64) (by omega) (by omega), w64 (x := u % 64) (by omega) (by omega), w64 (x := y % 64 * 4096) (by omega) (by omega), w64 (x := z % 64 * 64) (by omega) (by omega),
    i64_or18 (x % 8 * 262144) (y % 64 * 4096) (by omega) (by omega) (by omega) (by omega) (by omega), i64_or12 (x % 8 * 262144 + y % 64 * 4096) (z % 64 * 64) (by omega) (by omega) (by omega) (by omega) (by omega)]
  exact i64_or6 _ _ (by omega) (by omega) (by omega) (by omega) (by omega)
theorem ba_ext {a b : ByteArray} (h : a.data.toList = b.data.toList) : a = b := by
  cases a; cases b; simp at h; subst h; rfl
theorem ex_size (s : ByteArray) (a b : Nat) (hb : b ≤ s.size) : (s.extract a b).size = b - a := by
  rw [ByteArray.size_extract]; omega
theorem ex_ex (s : ByteArray) (p k : Nat) : (s.extract p s.size).extract k (s.extract p s.size).size = s.extract (p + k) s.size := by
  apply ba_ext
  have h : s.size = s.data.toList.length := Lib.size_eq s
  rw [Lib.extract_data, Lib.extract_data, Lib.extract_data, ex_size _ _ _ (Nat.le_refl _), h]
  have e : ∀ (l : List UInt8) (a : Nat), (l.drop a).take (l.length - a) = l.drop a := fun l a => List.take_of_length_le (by simp)
  rw [e, e, List.drop_drop]
  exact List.take_of_length_le (by simp; omega)
theorem ex_all (s : ByteArray) : s.extract 0 s.size = s := by
  apply ba_ext
  rw [Lib.extract_data]
  rw [Lib.size_eq s, List.drop_zero, Nat.sub_zero, List.take_length]
theorem get!_out (s : ByteArray) (i : Nat) (h : s.size ≤ i) : s.get! i = 0 := by
  have hd : ¬ i < s.data.size := by have : s.data.size = s.size := rfl; omega
  exact getElem!_neg s.data i hd
theorem get!_in (s : ByteArray) (i : Nat) (h : i < s.size) : s.get! i = s[i]'h := getElem!_pos s.data i h
theorem get!_list (s : ByteArray) (i : Nat) : s.get! i = s.data.toList.getD i 0 := by
  by_cases h : i < s.size
  · have h2 : i < s.data.toList.length := by rw [← Lib.size_eq]; exact h
    rw [get!_in s i h, List.getD_eq_getElem?_getD, List.getElem?_eq_getElem h2]
    rfl
  · have h2 : s.data.toList.length ≤ i := by rw [← Lib.size_eq]; omega
    rw [get!_out s i (by omega), List.getD_eq_getElem?_getD, List.getElem?_eq_none h2]
    rfl
theorem get!_ex (s : ByteArray) (p i : Nat) : (s.extract p s.size).get! i = s.get! (p + i) := by
  rw [get!_list, get!_list, Lib.extract_data]
  have h : s.size = s.data.toList.length := Lib.size_eq s
  rw [h, List.take_of_length_le (by simp)]
  simp [List.getD_eq_getElem?_getD, List.getElem?_drop]
theorem decode_ex (s : ByteArray) (p : Nat) (hp : p ≤ s.size) : Utf8.decode (s.extract p s.size) 0 = Utf8.decode s p := by
  rw [decode_at, decode_at, ex_size _ _ _ (Nat.le_refl _)]
  simp only [get!_ex, Nat.zero_add, Nat.sub_zero, Nat.add_zero]
theorem decodeN_width (n b0 b1 b2 b3 : Nat) (h : 0 < n) : (decodeN n b0 b1 b2 b3).2 ≤ n := by
  unfold decodeN
  repeat' split
  all_goals simp
  all_goals omega
theorem width_le (s : ByteArray) (p : Nat) (hp : p < s.size) : p + (Utf8.decode s p).2 ≤ s.size := by
  have := decodeN_width (s.size - p) (s.get! p).toNat (s.get! (p + 1)).toNat (s.get! (p + 2)).toNat (s.get! (p + 3)).toNat (by omega)
  rw [← decode_at] at this
  omega
/-- The runes from place p on. -/
def rl (s : ByteArray) : Nat → Nat → List Int
  | 0, _ => []
  | f + 1, p => if p < s.size then rv s p :: rl s f (p + (Utf8.decode s p).2) else []
theorem rl_length (s : ByteArray) : ∀ f p, (rl s f p).length ≤ f
  | 0, _ => by simp [rl]
  | f + 1, p => by
    unfold rl
    split
    · have := rl_length s f (p + (Utf8.decode s p).2)
      simp only [List.length_cons]
      omega
    · simp
theorem rv_ex (s : ByteArray) (p : Nat) (hp : p ≤ s.size) : rv (s.extract p s.size) 0 = rv s p := by
  unfold rv
  rw [decode_ex s p hp]
def rlist (s : ByteArray) : List Int := rl s s.size 0
theorem runesFrom_rl (s : ByteArray) : ∀ (f p : Nat) (n : Int), 0 ≤ n → n + f < 9223372036854775807 → runesFrom s f p n = n + (rl s f p).length
  | 0, p, n, h0, h => by simp [runesFrom, rl]
  | f + 1, p, n, h0, h => by
    unfold runesFrom rl
    split
    · rw [w64 (by omega) (by omega), runesFrom_rl s f _ (n + 1) (by omega) (by omega)]
      simp
      omega
    · simp
theorem runes_rl (s : ByteArray) (h : s.size < 17592186044416) : runes s = ((rlist s).length : Int) := by
  unfold runes rlist
  rw [runesFrom_rl s s.size 0 0 (by omega) (by omega)]
  omega
def letR (c : Int) : Bool := (decide (97 ≤ c) && decide (c ≤ 122)) || (decide (65 ≤ c) && decide (c ≤ 90)) || decide (128 ≤ c)
def digR (c : Int) : Bool := decide (48 ≤ c) && decide (c ≤ 57)
def okR (c : Int) : Bool := letR c || digR c || decide (c = 95)
def stemL : List Int → Bool
  | [] => false
  | c :: t => letR c && t.all okR
theorem nm_ne (s : ByteArray) (hs : 0 < s.size) : s.data.toList.isEmpty = false := by
  have : s.data.toList.length ≠ 0 := by rw [← Lib.size_eq]; omega
  cases h : s.data.toList with
  | nil => rw [h] at this; exact absurd rfl this
  | cons a t => rfl
theorem wrong_iff (s : ByteArray) (p : Nat) (hp : p < s.size) : wrongAt s p = decide ((Utf8.decode s p).2 = 1 ∧ (Utf8.decode s p).1 = 65533) := by
  unfold wrongAt decodeGo
  rw [if_neg (by rw [ex_size _ _ _ (Nat.le_refl _)]; omega), decode_ex s p (by omega), Bool.eq_iff_iff]
  simp
  omega
theorem bad_core (s : ByteArray) (p : Nat) (hp : p < s.size) (z : Bool) : (!(letter ((Utf8.decode s p).1 : Int) (wrongAt s p)) && (z || (!decide (((Utf8.decode s p).1 : Int) = 95) && (decide (((Utf8.decode s p).1 : Int) < 48) || decide (57 < ((Utf8.decode s p).1 : Int)))))) = !(letR (rv s p) || (!z && (digR (rv s p) || decide (rv s p = 95)))) := by
  rw [wrong_iff s p hp]
  unfold rv
  by_cases hw : (Utf8.decode s p).2 = 1 ∧ (Utf8.decode s p).1 = 65533
  · rw [if_pos hw, decide_eq_true hw, hw.2]
    cases z <;> rfl
  · rw [if_neg hw, decide_eq_false hw]
    have h0 : (0 : Int) ≤ ((Utf8.decode s p).1 : Int) := Int.natCast_nonneg _
    generalize ((Utf8.decode s p).1 : Int) = R at *
    have hl : letter R false = letR R := by unfold letter letR; simp
    rw [hl]
    cases letR R
    · unfold digR
      cases z
      · by_cases h1 : R = 95 <;> by_cases h2 : R < 48 <;> by_cases h3 : 57 < R <;> simp [h1, h2, h3] <;> omega
      · simp
    · simp
theorem bad_ok (s : ByteArray) (p : Nat) (hp : p < s.size) (h0 : p ≠ 0) : badAt s p = !okR (rv s p) := by
  have := bad_core s p hp false
  unfold badAt okR
  rw [decide_eq_false h0, this]
  simp [Bool.or_assoc]
theorem bad_let (s : ByteArray) (hs : 0 < s.size) : badAt s 0 = !letR (rv s 0) := by
  have := bad_core s 0 hs true
  unfold badAt
  rw [decide_eq_true rfl, this]
  simp
theorem stemFrom_rl (s : ByteArray) (hs : 0 < s.size) : ∀ (f p : Nat), 0 < p → s.size ≤ p + f → stemFrom s f p = (rl s f p).all okR
  | 0, p, h0, hf => by simp [stemFrom, rl, nm_ne s hs]
  | f + 1, p, h0, hf => by
    unfold stemFrom rl
    split
    · rename_i hp
      have ih := stemFrom_rl s hs f (p + (Utf8.decode s p).2) (by omega) (by have := width_pos s p; omega)
      rw [List.all_cons, ih, bad_ok s p hp (by omega)]
      cases okR (rv s p) <;> simp
    · simp [nm_ne s hs]
theorem stem_rl (s : ByteArray) : stem s = stemL (rlist s) := by
  unfold stem rlist
  by_cases hs : 0 < s.size
  · obtain ⟨f, hf⟩ : ∃ f, s.size = f + 1 := ⟨s.size - 1, by omega⟩
    rw [hf]
    unfold stemFrom rl
    rw [if_pos hs, if_pos hs, stemL, stemFrom_rl s hs f _ (by have := width_pos s 0; omega) (by have := width_pos s 0; omega), bad_let s hs]
    cases letR (rv s 0) <;> simp
  · have h0 : s.size = 0 := by omega
    rw [h0]
    have hl : s.data.toList = [] := List.eq_nil_of_length_eq_zero (by rw [← Lib.size_eq]; exact h0)
    simp [stemFrom, rl, stemL, hl]
theorem dec_ascii (s : ByteArray) (p : Nat) (h : (s.get! p).toNat < 128) : Utf8.decode s p = ((s.get! p).toNat, 1) := by
  rw [decode_at]
  unfold decodeN
  rw [if_pos h]
theorem dec_high (s : ByteArray) (p : Nat) (h : ¬ (s.get! p).toNat < 128) : 128 ≤ (Utf8.decode s p).1 := by
  rw [decode_at]
  unfold decodeN
  rw [if_neg h]
  repeat' split
  all_goals simp
  all_goals omega
def cutA (s : ByteArray) : ByteArray := ⟨(Lib.cut s.data.toList [64]).1.toArray⟩
def cutB (s : ByteArray) : ByteArray := ⟨(Lib.cut s.data.toList [64]).2.1.toArray⟩
def has (s : ByteArray) : Bool := (Lib.cut s.data.toList [64]).2.2
theorem occ_one (l : List UInt8) (c : UInt8) (j : Nat) : occAt l [c] j = decide (l[j]? = some c) := by
  unfold occAt
  rcases Nat.lt_or_ge j l.length with h | h
  · rw [List.drop_eq_getElem_cons h, List.getElem?_eq_getElem h]
    simp only [List.isPrefixOf, Bool.and_true, Option.some.injEq]
    rw [Bool.eq_iff_iff, beq_iff_eq, decide_eq_true_iff]
    exact eq_comm
  · rw [List.drop_of_length_le h, List.getElem?_eq_none h]
    simp
/-- Either no '@' stands in the text, or the first one stands at place j. -/
theorem at_spec (s : ByteArray) : (has s = false ∧ cutA s = s ∧ cutB s = ⟨#[]⟩ ∧ ∀ j, j < s.size → (s.get! j).toNat ≠ 64) ∨
    ∃ j, j < s.size ∧ has s = true ∧ cutA s = s.extract 0 j ∧ cutB s = s.extract (j + 1) s.size ∧ (s.get! j).toNat = 64 ∧ ∀ i, i < j → (s.get! i).toNat ≠ 64 := by
  have hn : ∀ j, j < s.size → (s.data.toList[j]? = some 64 ↔ (s.get! j).toNat = 64) := fun j hj => by
    have hj2 : j < s.data.toList.length := by rw [← Lib.size_eq]; exact hj
    rw [get!_list, List.getD_eq_getElem?_getD, List.getElem?_eq_getElem hj2]
    simp only [Option.some.injEq, Option.getD_some]
    constructor
    · intro h; rw [h]; rfl
    · intro h; exact UInt8.toNat_inj.mp (by rw [h]; rfl)
  rcases index_spec s.data.toList [64] with ⟨h1, h2⟩ | ⟨j, h1, h2, h3, h4⟩
  · refine .inl ⟨?_, ?_, ?_, fun j hj hc => ?_⟩
    · unfold has Lib.cut; rw [h1]; rfl
    · unfold cutA Lib.cut; rw [h1]; cases s; rfl
    · unfold cutB Lib.cut; rw [h1]; rfl
    · have := h2 j (by rw [← Lib.size_eq]; omega)
      rw [occ_one] at this
      exact of_decide_eq_false this ((hn j hj).mpr hc)
  · have hlt : j < s.size := by
      rw [occ_one] at h3
      have h5 := of_decide_eq_true h3
      rw [Lib.size_eq]
      exact (List.getElem?_eq_some_iff.1 h5).1
    have hi : (0 : Int) ≤ Lib.index s.data.toList [64] := by rw [h1]; omega
    refine .inr ⟨j, hlt, ?_, ?_, ?_, ?_, fun i hi2 hc => ?_⟩
    · unfold has Lib.cut; rw [if_pos hi]
    · unfold cutA Lib.cut; rw [if_pos hi, h1]
      apply ba_ext
      rw [Lib.extract_data]
      simp
    · unfold cutB Lib.cut; rw [if_pos hi, h1]
      apply ba_ext
      rw [Lib.extract_data]
      have hz := Lib.size_eq s
      simp only [Int.toNat_natCast, List.length_cons, List.length_nil]
      rw [List.take_of_length_le (by simp only [List.length_drop]; omega)]
    · rw [occ_one] at h3
      exact (hn j hlt).mp (of_decide_eq_true h3)
    · have := h4 i hi2
      rw [occ_one] at this
      exact of_decide_eq_false this ((hn i (by omega)).mpr hc)
theorem cutA_size (s : ByteArray) : (cutA s).size ≤ s.size := by
  rcases at_spec s with ⟨h1, h2, h3, h4⟩ | ⟨j, hj, h1, h2, h3, h4, h5⟩
  · rw [h2]; exact Nat.le_refl _
  · rw [h2, ex_size _ _ _ (by omega)]; omega
theorem cutB_size (s : ByteArray) : (cutB s).size ≤ s.size := by
  rcases at_spec s with ⟨h1, h2, h3, h4⟩ | ⟨j, hj, h1, h2, h3, h4, h5⟩
  · rw [h3]; exact Nat.zero_le _
  · rw [h3, ex_size _ _ _ (by omega)]; omega

/-! ### checks and splits -/
def okN (s : ByteArray) : Bool := stem (cutA s) && !(has s && decide (ver (cutB s) = 0))
/-- What Check tells: 6: no name; 5: too long. -/
def chk (s : ByteArray) : Int := if okN s = false then 6 else if runes s > 24 then 5 else 0
theorem ver_nil : ver (⟨#[]⟩ : ByteArray) = 0 := rfl
theorem ver_none (s : ByteArray) (h : has s = false) : ver (cutB s) = 0 := by
  rcases at_spec s with ⟨h1, h2, h3, h4⟩ | ⟨j, hj, h1, h2, h3, h4, h5⟩
  · rw [h3]; rfl
  · rw [h1] at h; cases h
/-- What Split tells. -/
def splitR (s : ByteArray) : ByteArray × Int × Int := if chk s = 0 then (cutA s, ver (cutB s), 0) else ((⟨#[]⟩ : ByteArray), 0, chk s)
theorem splitR_e (s : ByteArray) : (splitR s).2.2 = chk s := by
  unfold splitR
  split
  · rename_i h; rw [h]
  · rfl
end Go.Nm
/- Names: what the program's functions make. -/
namespace Go.Abs
set_option linter.unusedSimpArgs false
set_option linter.unusedVariables false
set_option maxHeartbeats 4000000
open Go.Proofs Go.Nm Go.RowKit
set_option linter.unusedVariables false
set_option maxRecDepth 8000
variable {H : Heap}
/-- The program's globals, held as they are; utf8's tables are what they are laid as. -/
structure GH (G : Heap) : Prop where
  exact : ∀ b, G b ≠ none → ∃ o, G b = some (.exact o)
  tabs : ∀ w, HRel G w → Lib.Utf8Tabs 1 2 w
theorem HRel.sub {G H : Heap} {w : World} (hs : Sub G H) (hg : ∀ b, G b ≠ none → ∃ o, G b = some (.exact o)) (h : HRel H w) : HRel G w := by
  intro b r hr
  obtain ⟨o, ho⟩ := hg b (by rw [hr]; simp)
  rw [hr] at ho; cases ho
  exact h b _ (hs b _ hr)
theorem Sub.none {G H : Heap} (hs : Sub G H) {b : Nat} (h : H b = none) : G b = none := by
  cases e : G b with
  | none => rfl
  | some r => rw [hs b r e] at h; cases h
theorem AC.rconv {P : Program} {g : FuncId} {args : List TV} {H H0 : Heap} {t t' : TV} (h : AC P g args H (fun r H' => r = t ∧ H' = H0)) (hc : ∀ w F v, Rep w F t v → Rep w F t' v) : AC P g args H (fun r H' => r = t' ∧ H' = H0) := by
  have hA : ∀ {H : Heap} {w : World} {v : Value} {w' : World}, After (fun r H' => r = t ∧ H' = H0) H w v w' → After (fun r H' => r = t' ∧ H' = H0) H w v w' := fun ⟨r, H', ⟨h1, h2⟩, h3, h4⟩ => ⟨t', H', ⟨rfl, h2⟩, hc _ _ _ (h1 ▸ h3), h4⟩
  intro argv w ha hh
  rcases h argv w ha hh with ⟨h1, h2⟩ | ⟨v, w', h1, h2⟩
  · refine .inl ⟨h1, fun cs => ?_⟩
    obtain ⟨e, w', fr, ⟨v, he, g⟩, s⟩ := h2 cs
    exact ⟨e, w', fr, ⟨v, he, hA g⟩, s⟩
  · exact .inr ⟨v, w', h1, hA h2⟩
theorem rep_tup2 {w : World} {F : Nat → Prop} {a b v : Value} (h : Rep w F (.s (.tuple #[a, b])) v) : Rep w F (.tup [.s a, .s b]) v := by
  simp only [Rep, RepL] at h ⊢; exact ⟨#[a, b], h, _, _, rfl, rfl, _, _, rfl, rfl, rfl⟩
theorem ix_get {P : Program} {T : TypeId} {s : ByteArray} {k : IntKind} {i : Int} (h : isStr P T = true) (hi : 0 ≤ i) (hl : i.toNat < s.size) : indexA P T (.s (.string s)) (.s (.int k i)) = some (.s (.int .u8 ((s.get! i.toNat).toNat : Nat))) := by
  refine ix_str T s k i _ h hi ?_
  rw [get!_in s _ hl]; exact getElem?_pos s _ hl
theorem str_nil (s : ByteArray) : (s.toList == (⟨#[]⟩ : ByteArray).toList) = (s.size == 0) := by
  rw [ByteArray.toList_eq, ByteArray.toList_eq, Bool.eq_iff_iff, beq_iff_eq, beq_iff_eq, Lib.size_eq]
  exact List.length_eq_zero_iff.symm
attribute [go_sem] upd_upd ix_get str_nil
theorem w64_eq (x : Int) : IntKind.i64.wrap x = wrap64 x := by rw [IntKind.wrap_i64]; unfold wrap64; rfl
theorem runes_c {s : ByteArray} : AC Tryd.prog 59 [.s (.string s)] H (fun r H' => r = .s (.int .i64 (runes s)) ∧ H' = H) := by
  refine AC.body Tryd.func59 rfl rfl (n := 11) (res := [.tmp 2]) rfl rfl (by simp) ?_
  simp only [ent]
  (repeat' (first | refine wk ?_ | refine wk2 ?_ ?_ | with_reducible refine wkF fun _ _ _ => ?_ | with_reducible intro _ | refine Doing.fresh (oc_range_str (by simp only [go_sem])) fun _ _ _ => ?_ | exact ag | fail))
  rename_i b hb hne
  refine ARun.rounds (fun st : Nat × Nat × Int => ⟨[(3, .s (.int .i64 st.2.2)), (5, .s (.pointer (some ⟨b, 0, none⟩)))], upd H b (.strIter s st.2.1)⟩) (fun st => st.1) (fun st => s.size ≤ st.2.1 + st.1 ∧ runesFrom s st.1 st.2.1 st.2.2 = runes s) ?_ (s.size, 0, 0) ⟨by simp, rfl⟩ ?_
  · rintro ⟨f, p, n⟩ ⟨hf, hr⟩ next
    simp only [] at hf hr ⊢
    by_cases hp : p < s.size
    · obtain ⟨f, rfl⟩ : ∃ g, f = g + 1 := ⟨f - 1, by omega⟩
      have hw := Nm.width_pos s p
      rw [runesFrom, if_pos hp, ← w64_eq] at hr
      (repeat' (first | refine wk ?_ | refine wk2 ?_ ?_ | with_reducible refine wkF fun _ _ _ => ?_ | with_reducible intro _ | refine Doing.eq (oc_next_at (upd_self _ _ _) hp) ?_ | exact ag | fail))
      exact ARun.weaken (next.go (f, p + (Utf8.decode s p).2, IntKind.i64.wrap (n + 1)) ⟨by simp only []; omega, hr⟩ (by simp only []; omega)) (leK (Sub.refl _))
    · rw [runesFrom_end s f p n hp] at hr
      subst hr
      (repeat' (first | refine wk ?_ | refine wk2 ?_ ?_ | with_reducible refine wkF fun _ _ _ => ?_ | with_reducible intro _ | refine Doing.eq (oc_next_end (upd_self _ _ _) hp) ?_ | exact ag | fail))
      exact fin0
  · exact leK (Sub.refl _)
theorem version_c {s : ByteArray} : AC Tryd.prog 57 [.s (.string s)] H (fun r H' => r = .s (.int .i64 (ver s)) ∧ H' = H) := by
  refine AC.body Tryd.func57 rfl rfl (n := 36) (res := [.tmp 2]) rfl rfl (by simp) ?_
  simp only [ent]
  by_cases hz : s.size = 0
  · have h0 : (s.size == 0) = true := by simpa using hz
    have hv : ver s = 0 := by unfold ver; rw [if_pos (.inl hz)]
    rw [hv]
    (repeat' (first | refine wk ?_ | refine wk2 ?_ ?_ | with_reducible refine wkF fun _ _ _ => ?_ | with_reducible intro _ | exact ag | fail))
    exact fin0
  have h0 : (s.size == 0) = false := by simpa using hz
  by_cases h3 : 3 < s.size
  · have h3' : (3 : Int) < s.size := by omega
    have hv : ver s = 0 := by unfold ver; rw [if_pos (.inr (.inl h3))]
    rw [hv]
    (repeat' (first | refine wk ?_ | refine wk2 ?_ ?_ | with_reducible refine wkF fun _ _ _ => ?_ | with_reducible intro _ | exact ag | fail))
    exact fin0
  have h3' : decide ((3 : Int) < s.size) = false := by simp; omega
  have hpos : 0 < s.size := by omega
  by_cases h48 : (s.get! 0).toNat = 48
  · have h4 : ((((s.get! 0).toNat : Nat) : Int) == 48) = true := by simp; omega
    have hv : ver s = 0 := by unfold ver; rw [if_pos (.inr (.inr h48))]
    rw [hv]
    clear hv
    (repeat' (first | refine wk ?_ | refine wk2 ?_ ?_ | with_reducible refine wkF fun _ _ _ => ?_ | with_reducible intro _ | exact ag | fail))
    exact fin0
  have h4 : ((((s.get! 0).toNat : Nat) : Int) == 48) = false := by simp; omega
  have hv : ver s = verFrom s s.size 0 0 := by unfold ver; rw [if_neg (by omega)]
  replace hv := later hv
  clear h48
  (repeat' (first | refine wk ?_ | refine wk2 ?_ ?_ | with_reducible refine wkF fun _ _ _ => ?_ | with_reducible intro _ | refine Doing.fresh (oc_range_str (by simp only [go_sem])) fun _ _ _ => ?_ | exact ag | fail))
  rename_i b hb hne
  clear h4 h3' h0 h3 hz
  refine ARun.rounds (fun st : Nat × Nat × Int => ⟨[(3, .s (.int .i64 st.2.2)), (19, .s (.pointer (some ⟨b, 0, none⟩)))], upd H b (.strIter s st.2.1)⟩) (fun st => st.1) (fun st => s.size ≤ st.2.1 + st.1 ∧ verFrom s st.1 st.2.1 st.2.2 = ver s) ?_ (s.size, 0, 0) ⟨by simp, hv.go.symm⟩ ?_
  · rintro ⟨f, p, n⟩ ⟨hf, hr⟩ next
    simp only [] at hf hr ⊢
    clear hv
    by_cases hp : p < s.size
    · obtain ⟨f, rfl⟩ : ∃ g, f = g + 1 := ⟨f - 1, by omega⟩
      have hw := Nm.width_pos s p
      rw [verFrom, if_pos hp] at hr
      by_cases hlo : ((Utf8.decode s p).1 : Int) < 48
      · rw [if_pos (.inl hlo)] at hr
        rw [← hr]
        clear hr
        (repeat' (first | refine wk ?_ | refine wk2 ?_ ?_ | with_reducible refine wkF fun _ _ _ => ?_ | with_reducible intro _ | refine Doing.eq (oc_next_at (upd_self _ _ _) hp) ?_ | exact ag | fail))
        exact fin0
      · have hlo' : decide (((Utf8.decode s p).1 : Int) < 48) = false := by simp; omega
        by_cases hhi : 57 < ((Utf8.decode s p).1 : Int)
        · rw [if_pos (.inr hhi)] at hr
          rw [← hr]
          clear hr hlo
          (repeat' (first | refine wk ?_ | refine wk2 ?_ ?_ | with_reducible refine wkF fun _ _ _ => ?_ | with_reducible intro _ | refine Doing.eq (oc_next_at (upd_self _ _ _) hp) ?_ | exact ag | fail))
          exact fin0
        · have hhi' : decide (57 < ((Utf8.decode s p).1 : Int)) = false := by simp; omega
          rw [if_neg (by omega), ← w64_eq, ← w64_eq] at hr
          have e1 : IntKind.i32.wrap (((Utf8.decode s p).1 : Int) - 48) = ((Utf8.decode s p).1 : Int) - 48 := by rw [IntKind.wrap_i32]; omega
          have e2 : IntKind.i64.wrap (((Utf8.decode s p).1 : Int) - 48) = ((Utf8.decode s p).1 : Int) - 48 := wi64 (by omega) (by omega)
          clear hlo hhi
          (repeat' (first | refine wk ?_ | refine wk2 ?_ ?_ | with_reducible refine wkF fun _ _ _ => ?_ | with_reducible intro _ | refine Doing.eq (oc_next_at (upd_self _ _ _) hp) ?_ | exact ag | fail))
          exact ARun.weaken (next.go (f, p + (Utf8.decode s p).2, IntKind.i64.wrap (IntKind.i64.wrap (10 * n) + (((Utf8.decode s p).1 : Int) - 48))) ⟨by simp only []; omega, hr⟩ (by simp only []; omega)) (leK (Sub.refl _))
    · rw [verFrom_end s f p n hp] at hr
      subst hr
      (repeat' (first | refine wk ?_ | refine wk2 ?_ ?_ | with_reducible refine wkF fun _ _ _ => ?_ | with_reducible intro _ | refine Doing.eq (oc_next_end (upd_self _ _ _) hp) ?_ | exact ag | fail))
      exact fin0
  · exact leK (Sub.refl _)
theorem letter_c {r : Int} {u : Bool} : AC Tryd.prog 80 [.s (.int .i32 r), .s (.bool u)] H (fun x H' => x = .s (.bool (letter r u)) ∧ H' = H) := by
  refine AC.body Tryd.func80 rfl rfl (n := 27) (res := [.tmp 4]) rfl rfl (by simp) ?_
  simp only [ent]
  (repeat' (first | refine wk ?_ | refine wk2 ?_ ?_ | with_reducible refine wkF fun _ _ _ => ?_ | with_reducible intro _ | exact ag | fail))
  all_goals
    refine fin1 ⟨?_, rfl⟩
    simp only [resV, letter]
    cases u <;> simp_all <;> omega
theorem dru_c {G : Heap} (g : GH G) (hs : Sub G H) {s : ByteArray} : AC Tryd.prog 79 [.s (.string s)] H (fun r H' => r = .tup [.s (.int .i32 (Lib.decodeGo s).1), .s (.int .i64 (Lib.decodeGo s).2)] ∧ H' = H) :=
  AC.rconv (AC.of_calls (vs := [.string s]) Tryd.func79 rfl rfl fun w hw => Tryd.utf8_DecodeRuneInString s w (g.tabs w (hw.sub hs g.exact))) fun w F v h => rep_tup2 h
theorem stem_c {G : Heap} (g : GH G) (hs : Sub G H) {s : ByteArray} : AC Tryd.prog 58 [.s (.string s)] H (fun r H' => r = .s (.bool (stem s)) ∧ H' = H) := by
  refine AC.body Tryd.func58 rfl rfl (n := 47) (res := [.tmp 2]) rfl rfl (by simp) ?_
  simp only [ent]
  (repeat' (first | refine wk ?_ | refine wk2 ?_ ?_ | with_reducible refine wkF fun _ _ _ => ?_ | with_reducible intro _ | refine Doing.fresh (oc_range_str (by simp only [go_sem])) fun _ _ _ => ?_ | exact ag | fail))
  rename_i b hb hne
  have D := fun (s : ByteArray) (r : Root) => dru_c (H := upd H b r) g (Sub.upd hs (hs.none hb)) (s := s)
  refine ARun.rounds (fun st : Nat × Nat => ⟨[(0, .s (.string s)), (9, .s (.pointer (some ⟨b, 0, none⟩)))], upd H b (.strIter s st.2)⟩) (fun st => st.1) (fun st => s.size ≤ st.2 + st.1 ∧ stemFrom s st.1 st.2 = stem s) ?_ (s.size, 0) ⟨by simp, rfl⟩ ?_
  · rintro ⟨f, p⟩ ⟨hf, hr⟩ next
    simp only [] at hf hr ⊢
    by_cases hp : p < s.size
    · obtain ⟨f, rfl⟩ : ∃ g, f = g + 1 := ⟨f - 1, by omega⟩
      have hw := Nm.width_pos s p
      rw [stemFrom, if_pos hp] at hr
      have hp0 : (0 : Int) ≤ p := by omega
      have hp1 : (p : Int) ≤ s.size := by omega
      obtain ⟨c, hc⟩ : ∃ c : Int, ((Utf8.decode s p).1 : Int) = c := ⟨_, rfl⟩
      have key : ∀ v : Bool, badAt s p = v → (v = true → stem s = false) ∧ (v = false → stemFrom s f (p + (Utf8.decode s p).2) = stem s) := fun v hv => by
        rw [hv] at hr
        cases v
        · exact ⟨fun h => Bool.noConfusion h, fun _ => by simpa using hr⟩
        · exact ⟨fun _ => by simpa using hr.symm, fun h => Bool.noConfusion h⟩
      replace key := later key
      clear hr
      have leaf : ∀ W : Bool, wrongAt s p = W → badAt s p = (!(letter c W) && (((p : Int) == 0) || ((c != 95) && (decide (c < 48) || decide (57 < c))))) := fun W hW => by
        unfold badAt; rw [hc, hW]
        have e1 : (((p : Int) == 0)) = decide (p = 0) := by rw [Bool.eq_iff_iff]; simp
        have e2 : (c != 95) = !decide (c = 95) := by rw [Bool.eq_iff_iff]; simp
        rw [e1, e2]
      by_cases hu : c = 65533
      · have hu' : (c == 65533) = true := by simpa using hu
        have hW : wrongAt s p = (((Lib.decodeGo (s.extract p s.size)).2 : Int) == 1) := by
          unfold wrongAt; rw [hc, hu]; rw [Bool.eq_iff_iff]; simp; omega
        have leaf := later (leaf _ hW)
        clear hW hu
        (repeat' (first | refine wk ?_ | refine wk2 ?_ ?_ | with_reducible refine wkF fun _ _ _ => ?_ | with_reducible intro _ | refine Doing.eq (oc_next_at (upd_self _ _ _) hp) ?_ | refine Calling.eq (D _ _) ?_ | refine Calling.eq (letter_c) ?_ | exact ag | fail))
        all_goals
          have leaf := leaf.go
          first
            | (refine fin1 ⟨?_, rfl⟩; simp only [resV]; rw [(key.go true (by rw [leaf]; simp only [*, Bool.true_and, Bool.false_and, Bool.and_true, Bool.and_false, Bool.true_or, Bool.false_or, Bool.or_true, Bool.or_false, Bool.not_true, Bool.not_false])).1 rfl])
            | exact ARun.weaken (next.go (f, p + (Utf8.decode s p).2) ⟨by simp only []; omega, (key.go false (by rw [leaf]; simp only [*, Bool.true_and, Bool.false_and, Bool.and_true, Bool.and_false, Bool.true_or, Bool.false_or, Bool.or_true, Bool.or_false, Bool.not_true, Bool.not_false])).2 rfl⟩ (by simp only []; omega)) (leK (Sub.refl _))
      · have hu' : (c == 65533) = false := by simpa using hu
        have hW : wrongAt s p = false := by
          unfold wrongAt; rw [hc]; simp [hu]
        have leaf := later (leaf _ hW)
        clear hW hu
        (repeat' (first | refine wk ?_ | refine wk2 ?_ ?_ | with_reducible refine wkF fun _ _ _ => ?_ | with_reducible intro _ | refine Doing.eq (oc_next_at (upd_self _ _ _) hp) ?_ | refine Calling.eq (D _ _) ?_ | refine Calling.eq (letter_c) ?_ | exact ag | fail))
        all_goals
          have leaf := leaf.go
          first
            | (refine fin1 ⟨?_, rfl⟩; simp only [resV]; rw [(key.go true (by rw [leaf]; simp only [*, Bool.true_and, Bool.false_and, Bool.and_true, Bool.and_false, Bool.true_or, Bool.false_or, Bool.or_true, Bool.or_false, Bool.not_true, Bool.not_false])).1 rfl])
            | exact ARun.weaken (next.go (f, p + (Utf8.decode s p).2) ⟨by simp only []; omega, (key.go false (by rw [leaf]; simp only [*, Bool.true_and, Bool.false_and, Bool.and_true, Bool.and_false, Bool.true_or, Bool.false_or, Bool.or_true, Bool.or_false, Bool.not_true, Bool.not_false])).2 rfl⟩ (by simp only []; omega)) (leK (Sub.refl _))
    · rw [stemFrom_end s f p hp] at hr
      have hz : (!(s.size == 0)) = stem s := by
        rw [← hr]; congr 1
        rw [Bool.eq_iff_iff, beq_iff_eq, List.isEmpty_iff, ← List.length_eq_zero_iff, ← Lib.size_eq]
      clear hr
      (repeat' (first | refine wk ?_ | refine wk2 ?_ ?_ | with_reducible refine wkF fun _ _ _ => ?_ | with_reducible intro _ | refine Doing.eq (oc_next_end (upd_self _ _ _) hp) ?_ | exact ag | fail))
      exact fin0
  · exact leK (Sub.refl _)
end Go.Abs
/- Names: splitting and checking, as the program does. -/
namespace Go.Abs
set_option linter.unusedSimpArgs false
set_option linter.unusedVariables false
set_option maxHeartbeats 4000000
open Go.Proofs Go.Nm Go.RowKit
set_option linter.unusedVariables false
set_option maxRecDepth 8000
variable {H : Heap}
theorem idx_spec (s : ByteArray) : (Nm.has s = false ∧ Nm.cutA s = s ∧ cutB s = ⟨#[]⟩ ∧ Lib.indexByte s.data.toList 64 = -1) ∨
    ∃ j : Nat, j < s.size ∧ Nm.has s = true ∧ Nm.cutA s = s.extract 0 j ∧ cutB s = s.extract (j + 1) s.size ∧ Lib.indexByte s.data.toList 64 = j := by
  rw [← Lib.index_one]
  rcases Lib.index_spec s.data.toList [64] with ⟨h1, h2⟩ | ⟨j, h1, h2, h3, h4⟩
  · refine .inl ⟨?_, ?_, ?_, h1⟩
    · unfold has Lib.cut; rw [h1]; rfl
    · unfold Nm.cutA Lib.cut; rw [h1]; cases s; rfl
    · unfold cutB Lib.cut; rw [h1]; rfl
  · have hlt : j < s.size := by
      rw [occ_one] at h3
      have h5 := of_decide_eq_true h3
      rw [Lib.size_eq]
      exact (List.getElem?_eq_some_iff.1 h5).1
    have hi : (0 : Int) ≤ Lib.index s.data.toList [64] := by rw [h1]; omega
    refine .inr ⟨j, hlt, ?_, ?_, ?_, h1⟩
    · unfold has Lib.cut; rw [if_pos hi]
    · unfold Nm.cutA Lib.cut; rw [if_pos hi, h1]
      apply ba_ext
      rw [Lib.extract_data]
      simp
    · unfold cutB Lib.cut; rw [if_pos hi, h1]
      apply ba_ext
      rw [Lib.extract_data]
      have hz := Lib.size_eq s
      simp only [Int.toNat_natCast, List.length_cons, List.length_nil]
      rw [List.take_of_length_le (by simp only [List.length_drop]; omega)]
theorem index1_c {s : ByteArray} : AC Tryd.prog 90 [.s (.string s), .s (.string ⟨#[64]⟩)] H (fun r H' => r = .s (.int .i64 (Lib.indexByte s.data.toList 64)) ∧ H' = H) :=
  AC.of_calls (vs := [.string s, .string ⟨#[64]⟩]) Tryd.func90 rfl rfl fun w hw => (Tryd.stringslite_Index_one s 64 w).mono fun e w' ⟨he, hw'⟩ => ⟨he, hw' ▸ Below.refl _ _⟩
/-- A text that fits in memory. -/
def fits (s : ByteArray) : Prop := s.size < 9223372036854775000
theorem lcut_c {s : ByteArray} (hs : fits s) : AC Tryd.prog 78 [.s (.string s), .s (.string ⟨#[64]⟩)] H (fun r H' => r = .tup [.s (.string (Nm.cutA s)), .s (.string (cutB s)), .s (.bool (Nm.has s))] ∧ H' = H) := by
  refine AC.body Tryd.func78 rfl rfl (n := 23) (res := [.tmp 4, .tmp 5, .tmp 6]) rfl rfl (by simp) ?_
  simp only [ent]
  have I := fun H => index1_c (H := H) (s := s)
  unfold fits at hs
  rcases idx_spec s with ⟨h1, h2, h3, h4⟩ | ⟨j, hj, h1, h2, h3, h4⟩
  · rw [h1, h2, h3]
    rw [h4] at I
    clear h1 h2 h3 h4
    (repeat' (first | refine wk ?_ | refine wk2 ?_ ?_ | with_reducible refine wkF fun _ _ _ => ?_ | with_reducible intro _ | refine Calling.eq (I _) ?_ | exact ag | fail))
    exact fin0
  · rw [h1, h2, h3]
    rw [h4] at I
    clear h1 h2 h3 h4
    have e1 : (0 : Int) ≤ j := by omega
    have e2 : (j : Int) ≤ s.size := by omega
    have e0 : ((#[64] : Array UInt8).size : Int) = 1 := rfl
    have e3 : IntKind.i64.wrap ((j : Int) + 1) = ((j + 1 : Nat) : Int) := by rw [wi64 (by omega) (by omega)]; simp
    have e5 : (0 : Int) ≤ ((j + 1 : Nat) : Int) := by omega
    have e4 : ((j + 1 : Nat) : Int) ≤ s.size := by omega
    (repeat' (first | refine wk ?_ | refine wk2 ?_ ?_ | with_reducible refine wkF fun _ _ _ => ?_ | with_reducible intro _ | refine Calling.eq (I _) ?_ | exact ag | fail))
    refine ARun.drawB mixed [([], [0, 1, 2, 3, 4, 5, 6, 7, 8, 9, 10, 11], none)] (by kernel_rfl) (by rfl) ?_
    (repeat' (first | refine wk ?_ | refine wk2 ?_ ?_ | with_reducible refine wkF fun _ _ _ => ?_ | with_reducible intro _ | exact ag | fail))
    exact fin0
theorem scut_c {s : ByteArray} (hs : fits s) : AC Tryd.prog 56 [.s (.string s), .s (.string ⟨#[64]⟩)] H (fun r H' => r = .tup [.s (.string (Nm.cutA s)), .s (.string (cutB s)), .s (.bool (Nm.has s))] ∧ H' = H) := by
  refine AC.body Tryd.func56 rfl rfl (n := 13) (res := [.tmp 4, .tmp 5, .tmp 6]) rfl rfl (by simp) ?_
  simp only [ent]
  (repeat' (first | refine wk ?_ | refine wk2 ?_ ?_ | with_reducible refine wkF fun _ _ _ => ?_ | with_reducible intro _ | refine Calling.eq (lcut_c hs) ?_ | exact ag | fail))
  exact fin0
theorem split_c {G : Heap} (g : GH G) (hs : Sub G H) {s : ByteArray} (hf : fits s) : AC Tryd.prog 40 [.s (.string s)] H (fun r H' => r = .tup [.s (.string (splitR s).1), .s (.int .i64 (splitR s).2.1), .s (.int .i64 (splitR s).2.2)] ∧ H' = H) := by
  refine AC.body Tryd.func40 rfl rfl (n := 34) (res := [.tmp 2, .tmp 3, .tmp 4]) rfl rfl (by simp) ?_
  simp only [ent]
  have S := fun (H : Heap) (hs : Sub G H) => stem_c (H := H) g hs (s := Nm.cutA s)
  have hz : Nm.has s = false → ver (cutB s) = 0 := ver_none s
  by_cases h : chk s = 0
  · have e : splitR s = (Nm.cutA s, ver (cutB s), 0) := by unfold splitR; rw [if_pos h]
    rw [e]
    clear e
    have h1 : stem (Nm.cutA s) = true := by unfold chk okN at h; cases hc : stem (Nm.cutA s) <;> simp [hc] at h ⊢
    have h2 : (Nm.has s && (ver (cutB s) == 0)) = false := by unfold chk okN at h; cases hc : Nm.has s <;> cases hd : (ver (cutB s) == 0) <;> simp_all
    have h3 : decide (24 < runes s) = false := by unfold chk at h; split at h <;> first | omega | (split at h <;> simp_all)
    clear h hz
    cases h4 : Nm.has s with
    | true =>
      rw [h4] at h2
      simp only [Bool.true_and] at h2
      (repeat' (first | refine wk ?_ | refine wk2 ?_ ?_ | with_reducible refine wkF fun _ _ _ => ?_ | with_reducible intro _ | refine Calling.eq (scut_c hf) ?_ | refine Calling.eq (version_c) ?_ | refine Calling.eq (S _ (by assumption)) ?_ | refine Calling.eq (runes_c) ?_ | exact ag | fail))
      exact fin0
    | false =>
      clear h2
      (repeat' (first | refine wk ?_ | refine wk2 ?_ ?_ | with_reducible refine wkF fun _ _ _ => ?_ | with_reducible intro _ | refine Calling.eq (scut_c hf) ?_ | refine Calling.eq (version_c) ?_ | refine Calling.eq (S _ (by assumption)) ?_ | refine Calling.eq (runes_c) ?_ | exact ag | fail))
      exact fin0
  · have e : splitR s = (⟨#[]⟩, 0, chk s) := by unfold splitR; rw [if_neg h]
    rw [e]
    clear e
    by_cases ho : okN s = false
    · have hc : chk s = 6 := by unfold chk; rw [if_pos ho]
      rw [hc]
      clear hc h
      cases h1 : stem (Nm.cutA s) with
      | false =>
        clear ho hz
        (repeat' (first | refine wk ?_ | refine wk2 ?_ ?_ | with_reducible refine wkF fun _ _ _ => ?_ | with_reducible intro _ | refine Calling.eq (scut_c hf) ?_ | refine Calling.eq (version_c) ?_ | refine Calling.eq (S _ (by assumption)) ?_ | refine Calling.eq (runes_c) ?_ | exact ag | fail))
        exact fin0
      | true =>
        have h2 : Nm.has s = true ∧ (ver (cutB s) == 0) = true := by unfold okN at ho; cases hc : Nm.has s <;> cases hd : (ver (cutB s) == 0) <;> simp_all
        obtain ⟨h2, h3⟩ := h2
        clear ho hz
        (repeat' (first | refine wk ?_ | refine wk2 ?_ ?_ | with_reducible refine wkF fun _ _ _ => ?_ | with_reducible intro _ | refine Calling.eq (scut_c hf) ?_ | refine Calling.eq (version_c) ?_ | refine Calling.eq (S _ (by assumption)) ?_ | refine Calling.eq (runes_c) ?_ | exact ag | fail))
        exact fin0
    · have ho : okN s = true := by simpa using ho
      have hc : chk s = 5 ∧ 24 < runes s := by unfold chk at h ⊢; simp [ho] at h ⊢; omega
      obtain ⟨hc, h3⟩ := hc
      rw [hc]
      clear hc h
      have h1 : stem (Nm.cutA s) = true := by unfold okN at ho; cases hc : stem (Nm.cutA s) <;> simp [hc] at ho ⊢
      have h2 : (Nm.has s && (ver (cutB s) == 0)) = false := by unfold okN at ho; cases hc : Nm.has s <;> cases hd : (ver (cutB s) == 0) <;> simp_all
      clear ho hz
      cases h4 : Nm.has s with
      | true =>
        rw [h4] at h2
        simp only [Bool.true_and] at h2
        (repeat' (first | refine wk ?_ | refine wk2 ?_ ?_ | with_reducible refine wkF fun _ _ _ => ?_ | with_reducible intro _ | refine Calling.eq (scut_c hf) ?_ | refine Calling.eq (version_c) ?_ | refine Calling.eq (S _ (by assumption)) ?_ | refine Calling.eq (runes_c) ?_ | exact ag | fail))
        exact fin0
      | false =>
        clear h2
        (repeat' (first | refine wk ?_ | refine wk2 ?_ ?_ | with_reducible refine wkF fun _ _ _ => ?_ | with_reducible intro _ | refine Calling.eq (scut_c hf) ?_ | refine Calling.eq (version_c) ?_ | refine Calling.eq (S _ (by assumption)) ?_ | refine Calling.eq (runes_c) ?_ | exact ag | fail))
        exact fin0
theorem check_c {G : Heap} (g : GH G) (hs : Sub G H) {s : ByteArray} (hf : fits s) : AC Tryd.prog 23 [.s (.string s)] H (fun r H' => r = .s (.int .i64 (chk s)) ∧ H' = H) := by
  refine AC.body Tryd.func23 rfl rfl (n := 13) (res := [.tmp 2]) rfl rfl (by simp) ?_
  simp only [ent]
  have h := splitR_e s
  have S := split_c (H := H) g hs hf
  rw [h] at S
  clear h
  (repeat' (first | refine wk ?_ | refine wk2 ?_ ?_ | with_reducible refine wkF fun _ _ _ => ?_ | with_reducible intro _ | refine Calling.eq (S) ?_ | exact ag | fail))
  exact fin0
end Go.Abs
/- Instructions: what the program's functions make. -/
namespace Go.Abs
set_option linter.unusedSimpArgs false
set_option linter.unusedVariables false
set_option maxHeartbeats 4000000
open Go.Proofs Go.Wd
set_option linter.unusedVariables false
set_option maxRecDepth 8000
variable {H : Heap}
/-- Four flags. -/
def b4 (u : Bool × Bool × Bool × Bool) : List TV := [.s (.bool u.1), .s (.bool u.2.1), .s (.bool u.2.2.1), .s (.bool u.2.2.2)]
theorem b4_mk (a b c d : Bool) : b4 (a, b, c, d) = [.s (.bool a), .s (.bool b), .s (.bool c), .s (.bool d)] := rfl
theorem uses_c {o : Nat} : AC Tryd.prog 85 [.s (.int .u8 o)] H (fun r H' => r = .tup (b4 (usesR o)) ∧ H' = H) := by
  refine AC.body Tryd.func85 rfl rfl (n := 35) (res := [.tmp 2, .tmp 3, .tmp 4, .tmp 5]) rfl rfl (by simp) ?_
  simp only [ent]
  have hc := op_cases (o : Int)
  have h0 : (0 : Int) ≤ o := Int.natCast_nonneg _
  generalize (o : Int) = z at hc h0
  rcases hc with h | h | h | h | h | h | h | h | h | h | h | h | h | h | h | h | h | h | h | h | h | h | h | h
  case inr.inr.inr.inr.inr.inr.inr.inr.inr.inr.inr.inr.inr.inr.inr.inr.inr.inr.inr.inr.inr.inr.inr =>
    have h1 : (3 : Int) ≤ z := by omega
    have h2 : decide (z ≤ 10) = false := by simp; omega
    have hu : usesR z = (false, false, false, false) := by unfold usesR; rw [if_neg (by omega), if_neg (by omega), if_neg (by omega), if_neg (by omega), if_neg (by omega)]
    rw [hu, b4_mk]
    clear hu
    (repeat' (first | refine wk ?_ | refine wk2 ?_ ?_ | with_reducible refine wkF fun _ _ _ => ?_ | with_reducible intro _ | exact ag | fail))
    exact fin0
  case inl => omega
  all_goals
    subst h
    (repeat' (first | refine wk ?_ | refine wk2 ?_ ?_ | with_reducible refine wkF fun _ _ _ => ?_ | with_reducible intro _ | exact ag | fail))
    exact fin0
theorem reg_c {r : Nat} {u : Bool} : AC Tryd.prog 96 [.s (.int .u8 r), .s (.bool u)] H (fun x H' => x = .s (.bool (regR r u)) ∧ H' = H) := by
  refine AC.body Tryd.func96 rfl rfl (n := 14) (res := [.tmp 4]) rfl rfl (by simp) ?_
  simp only [ent]
  (repeat' (first | refine wk ?_ | refine wk2 ?_ ?_ | with_reducible refine wkF fun _ _ _ => ?_ | with_reducible intro _ | exact ag | fail))
  all_goals
    refine fin1 ⟨?_, rfl⟩
    simp only [resV, regR]
    simp_all
    try omega
/-- An instruction's parts. -/
structure Ins where
  o : Nat
  d : Nat
  a : Nat
  b : Nat
  i : Int
  deriving DecidableEq
def Ins.enc (x : Ins) : List TV := [.s (.int .u8 x.o), .s (.int .u8 x.d), .s (.int .u8 x.a), .s (.int .u8 x.b), .s (.int .i32 x.i)]
def Ins.ok (x : Ins) : Prop := x.o < 256 ∧ x.d < 256 ∧ x.a < 256 ∧ x.b < 256 ∧ -2147483648 ≤ x.i ∧ x.i < 2147483648
def Ins.chk (x : Ins) : Int := checkR x.o x.d x.a x.b x.i
theorem Ins.enc_def (x : Ins) : x.enc = [.s (.int .u8 x.o), .s (.int .u8 x.d), .s (.int .u8 x.a), .s (.int .u8 x.b), .s (.int .i32 x.i)] := rfl
theorem isaCheck_c {x : Ins} (hx : x.ok) : AC Tryd.prog 87 [.agg x.enc] H (fun r H' => r = .s (.int .i64 x.chk) ∧ H' = H) := by
  refine AC.body Tryd.func87 rfl rfl (n := 82) (res := [.tmp 2]) rfl rfl (by simp) ?_
  simp only [ent]
  obtain ⟨o, d, a, b, i⟩ := x
  simp only [Ins.enc_def, Ins.ok] at hx ⊢
  obtain ⟨_, _, _, _, h5, h6⟩ := hx
  have hw : IntKind.i64.wrap i = i := wi64 (by omega) (by omega)
  have hf : ∀ H : Heap, AC Tryd.prog 76 [.s (.int .i64 i), .s (.int .i64 21)] H (fun r H' => r = .s (.bool (fits21 i)) ∧ H' = H) := fun H => fits_c (by omega) (by omega)
  have hu : usesR o = ((usesR o).1, (usesR o).2.1, (usesR o).2.2.1, (usesR o).2.2.2) := rfl
  generalize hu1 : (usesR o).1 = u1 at hu
  generalize hu2 : (usesR o).2.1 = u2 at hu
  generalize hu3 : (usesR o).2.2.1 = u3 at hu
  generalize hu4 : (usesR o).2.2.2 = u4 at hu
  have hU : ∀ H : Heap, AC Tryd.prog 85 [.s (.int .u8 o)] H (fun r H' => r = .tup [.s (.bool u1), .s (.bool u2), .s (.bool u3), .s (.bool u4)] ∧ H' = H) := fun H => by have := uses_c (H := H) (o := o); rw [hu] at this; exact this
  clear hu
  (repeat' (first | refine wk ?_ | refine wk2 ?_ ?_ | with_reducible refine wkF fun _ _ _ => ?_ | with_reducible intro _ | refine Calling.eq (hU _) ?_ | refine Calling.eq (reg_c) ?_ | refine Calling.eq (hf _) ?_ | exact ag | fail))
  all_goals
    refine fin1 ⟨?_, rfl⟩
    clear hU hf
    simp only [resV, Ins.chk, checkR, badR, hu1, hu2, hu3, hu4]
    simp_all
    try omega
end Go.Abs
