import Derived.Laws.BitsLemmas
import Derived.WalkKit
import Derived.RowKit
import Derived.Test.YtephimncnnogfaaDoorAbT
import Derived.Test.YtephimncnnogfaaDoorAb17
import Derived.Shelf.Unicode.DecodeAny
import Derived.Lib.IndexMore
import Derived.Lib.DecodeN
import Derived.Lib.CutLaws
import Derived.Test.YtephimncnnogfaaDoorShelf
import Derived.Lib.LaidU8
/- Words and instructions, pure. No program. -/
namespace Go.Wd
open Go.RowKit
set_option linter.unusedVariables false
def shl (k : IntKind) (x y : Int) : Int := k.wrap (x * 2 ^ min y.toNat k.bits)
def shr (k : IntKind) (x y : Int) : Int := x / 2 ^ min y.toNat k.bits
theorem wraps_u32 (n : Int) (h₀ : 0 ≤ n) (h₁ : n < 2 ^ 32) : IntKind.u32.wrap n = n := by rw [IntKind.wrap_u32]; omega
theorem and_nat (a b : Nat) (ha : a < 2 ^ 32) (hb : b < 2 ^ 32) : Go.bits .and .u32 (a : Int) (b : Int) = ((a &&& b : Nat) : Int) := (bits_nat .u32 32 (by decide) wraps_u32 a b ha hb).1
theorem or_nat (a b : Nat) (ha : a < 2 ^ 32) (hb : b < 2 ^ 32) : Go.bits .or .u32 (a : Int) (b : Int) = ((a ||| b : Nat) : Int) := (bits_nat .u32 32 (by decide) wraps_u32 a b ha hb).2
/-- What stands in a and not in b. -/
def ndN (a b : Nat) : Nat := (BitVec.ofNat 32 a &&& ~~~ BitVec.ofNat 32 b).toNat
theorem ndN_lt (a b : Nat) : ndN a b < 2 ^ 32 := BitVec.isLt _
theorem andNot_nat (a b : Nat) (ha : a < 2 ^ 32) (hb : b < 2 ^ 32) : Go.bits .andNot .u32 (a : Int) (b : Int) = ((ndN a b : Nat) : Int) := by
  have h : Go.bits .andNot .u32 (a : Int) (b : Int) = IntKind.u32.wrap ((ndN a b : Nat) : Int) := by
    show IntKind.u32.wrap _ = _
    rw [BitVec.ofInt_natCast, BitVec.ofInt_natCast]
    rfl
  rw [h]
  have := ndN_lt a b
  exact wraps_u32 _ (Int.natCast_nonneg _) (by exact_mod_cast this)
theorem ndN_bit (a b : Nat) (ha : a < 2 ^ 32) (hb : b < 2 ^ 32) (i : Nat) (hi : i < 32) : (ndN a b).testBit i = (a.testBit i && !b.testBit i) := by
  unfold ndN
  rw [BitVec.toNat_and, Nat.testBit_and, BitVec.toNat_not, BitVec.toNat_ofNat, BitVec.toNat_ofNat, Nat.mod_eq_of_lt ha, Nat.mod_eq_of_lt hb, show 2 ^ 32 - 1 - b = 2 ^ 32 - (b + 1) by omega, Nat.testBit_two_pow_sub_succ hb]
  simp [hi]
theorem shl_nat (a n : Nat) (hn : n ≤ 32) : shl .u32 (a : Int) (n : Int) = (((a <<< n) % 2 ^ 32 : Nat) : Int) := by
  unfold shl
  rw [Int.toNat_natCast, show min n IntKind.u32.bits = n from Nat.min_eq_left hn, IntKind.wrap_u32, Nat.shiftLeft_eq]
  simp
theorem shr_nat (a n : Nat) (hn : n ≤ 32) : shr .u32 (a : Int) (n : Int) = ((a >>> n : Nat) : Int) := by
  unfold shr
  rw [Int.toNat_natCast, show min n IntKind.u32.bits = n from Nat.min_eq_left hn, Nat.shiftRight_eq_div_pow]
  simp
theorem lt_of_bits {a n : Nat} (h : ∀ i, n ≤ i → a.testBit i = false) : a < 2 ^ n := Nat.lt_pow_two_of_testBit a h
theorem bit_out {a n i : Nat} (h : a < 2 ^ n) (hi : n ≤ i) : a.testBit i = false := Nat.testBit_lt_two_pow (Nat.lt_of_lt_of_le h (Nat.pow_le_pow_right (by decide) hi))
def maskN (n : Nat) : Nat := 2 ^ n - 1
theorem maskN_bit (n i : Nat) : (maskN n).testBit i = decide (i < n) := Nat.testBit_two_pow_sub_one n i
theorem maskN_lt (n : Nat) (h : n ≤ 32) : maskN n < 2 ^ 32 := by
  have := Nat.pow_le_pow_right (n := 2) (by decide) h
  have := Nat.two_pow_pos n
  unfold maskN; omega
theorem and_lt (a b n : Nat) (h : b < 2 ^ n) : a &&& b < 2 ^ n := Nat.and_lt_two_pow a h
theorem or_lt (a b n : Nat) (ha : a < 2 ^ n) (h : b < 2 ^ n) : a ||| b < 2 ^ n := Nat.or_lt_two_pow ha h
/-- A part of a word. -/
def bitsN (w at_ n : Nat) : Nat := (w >>> at_) &&& maskN n
theorem bitsN_bit (w at_ n i : Nat) : (bitsN w at_ n).testBit i = (decide (i < n) && w.testBit (at_ + i)) := by
  unfold bitsN
  rw [Nat.testBit_and, Nat.testBit_shiftRight, maskN_bit, Bool.and_comm]
theorem bitsN_lt (w at_ n : Nat) : bitsN w at_ n < 2 ^ n := lt_of_bits fun i hi => by rw [bitsN_bit, decide_eq_false (by omega)]; rfl
theorem bitsN_mod (w n : Nat) : bitsN w 0 n = w % 2 ^ n := by unfold bitsN maskN; rw [Nat.and_two_pow_sub_one_eq_mod]; rfl
/-- A part put into a word. -/
def withN (w at_ n v : Nat) : Nat := ndN w ((maskN n <<< at_) % 2 ^ 32) ||| (((v &&& maskN n) <<< at_) % 2 ^ 32)
theorem withN_lt (w at_ n v : Nat) : withN w at_ n v < 2 ^ 32 := or_lt _ _ _ (ndN_lt _ _) (Nat.mod_lt _ (by decide))
theorem withN_bit (w at_ n v i : Nat) (hw : w < 2 ^ 32) (h : at_ + n ≤ 32) (hi : i < 32) : (withN w at_ n v).testBit i = if at_ ≤ i ∧ i < at_ + n then v.testBit (i - at_) else w.testBit i := by
  unfold withN
  rw [Nat.testBit_or, ndN_bit _ _ hw (Nat.mod_lt _ (by decide)) _ hi, Nat.testBit_mod_two_pow, Nat.testBit_mod_two_pow, Nat.testBit_shiftLeft, Nat.testBit_shiftLeft, Nat.testBit_and, maskN_bit]
  rw [decide_eq_true hi]
  by_cases h1 : at_ ≤ i
  · by_cases h2 : i < at_ + n
    · rw [if_pos ⟨h1, h2⟩, decide_eq_true (show i ≥ at_ from h1), decide_eq_true (show i - at_ < n by omega)]
      simp
    · rw [if_neg (fun h => h2 h.2), decide_eq_true (show i ≥ at_ from h1), decide_eq_false (show ¬ i - at_ < n by omega)]
      simp
  · rw [if_neg (fun h => h1 h.1), decide_eq_false (show ¬ i ≥ at_ from h1)]
    simp
theorem word_ext {a b : Nat} (ha : a < 2 ^ 32) (hb : b < 2 ^ 32) (h : ∀ i, i < 32 → a.testBit i = b.testBit i) : a = b := by
  refine Nat.eq_of_testBit_eq fun i => ?_
  by_cases hi : i < 32
  · exact h i hi
  · rw [bit_out ha (by omega), bit_out hb (by omega)]
/-- Bit i set by or, above all that stand. -/
theorem put_bit (acc i : Nat) (t : Bool) (j : Nat) (h : acc < 2 ^ i) : (acc ||| ((t.toNat <<< i))).testBit j = if j = i then t else acc.testBit j := by
  rw [Nat.testBit_or, Nat.testBit_shiftLeft]
  by_cases hj : j = i
  · subst hj
    rw [if_pos rfl, bit_out h (Nat.le_refl _), Nat.sub_self]
    cases t <;> simp
  · rw [if_neg hj]
    by_cases h1 : j ≥ i
    · obtain ⟨d, hd⟩ : ∃ d, j - i = d + 1 := ⟨j - i - 1, by omega⟩
      rw [hd, decide_eq_true h1]
      cases t <;> simp [Nat.testBit_succ]
    · rw [decide_eq_false h1]; simp
theorem bit_one (w i : Nat) : (w >>> i) &&& 1 = (w.testBit i).toNat := by
  rw [Nat.testBit, Nat.and_comm]
  have : 1 &&& (w >>> i) = (w >>> i) % 2 := by rw [Nat.and_comm, show (1 : Nat) = 2 ^ 1 - 1 from rfl, Nat.and_two_pow_sub_one_eq_mod]
  rw [this]
  rcases Nat.mod_two_eq_zero_or_one (w >>> i) with h | h <;> rw [h] <;> rfl
/-- The lowest 21 bits of a number. -/
def cutN (v : Int) : Nat := (v % 2097152).toNat
theorem cutN_lt (v : Int) : cutN v < 2 ^ 21 := by unfold cutN; omega
theorem low32 (v : Int) : v % 4294967296 = (((v % 4294967296).toNat : Nat) : Int) := by omega
theorem cut_bits (v : Int) : bitsN (v % 4294967296).toNat 0 21 = cutN v := by rw [bitsN_mod]; unfold cutN; omega
/-- The lowest 21 bits of a word, as a number with a sign. -/
def signN (w : Nat) : Int := if w % 2097152 < 1048576 then ((w % 2097152 : Nat) : Int) else ((w % 2097152 : Nat) : Int) - 2097152
theorem bit20 (w : Nat) : (w.testBit 20).toNat = w % 2097152 / 1048576 := by
  rw [Nat.testBit_eq_decide_div_mod_eq]
  by_cases h : w / 2 ^ 20 % 2 = 1
  · rw [decide_eq_true h]; simp; omega
  · rw [decide_eq_false h]; simp; omega
/-- Has a number 21 bits? -/
def fits21 (v : Int) : Bool := decide (-1048576 ≤ v ∧ v < 1048576)
/-- Which parts an operation uses. -/
def usesR (o : Int) : Bool × Bool × Bool × Bool :=
  if 3 ≤ o ∧ o ≤ 10 then (true, true, true, false) else if o = 11 ∨ o = 12 ∨ o = 13 ∨ o = 15 ∨ o = 16 then (true, true, false, true) else if o = 2 then (true, false, false, true)
  else if o = 14 ∨ o = 17 ∨ o = 21 then (false, false, false, true) else if o = 19 then (false, true, false, false) else (false, false, false, false)
theorem op_cases (o : Int) : o < 0 ∨ o = 0 ∨ o = 1 ∨ o = 2 ∨ o = 3 ∨ o = 4 ∨ o = 5 ∨ o = 6 ∨ o = 7 ∨ o = 8 ∨ o = 9 ∨ o = 10 ∨ o = 11 ∨ o = 12 ∨ o = 13 ∨ o = 14 ∨ o = 15 ∨ o = 16 ∨ o = 17 ∨ o = 18 ∨ o = 19 ∨ o = 20 ∨ o = 21 ∨ 21 < o := by omega
/-- May a register's number stand there? -/
def regR (r : Int) (u : Bool) : Bool := decide (r = 0) || (u && decide (r < 8))
/-- Is something wrong with the parts? -/
def badR (o d a b i : Int) : Bool :=
  decide (21 < o) || !(regR d (usesR o).1) || !(regR a (usesR o).2.1) || !(regR b (usesR o).2.2.1) || (!(usesR o).2.2.2 && decide (i ≠ 0))
/-- What Check tells. -/
def checkR (o d a b i : Int) : Int :=
  if badR o d a b i = true then 10 else if fits21 i = false then 11 else if o = 17 ∧ i < 0 then 11 else if o = 21 ∧ (i < 0 ∨ 63 < i) then 11 else 0
/-- An instruction's word, its parts being what they may be. -/
def encN (o d a b : Nat) (i : Int) : Nat := withN (withN (withN (cutN i ||| b) 27 5 o) 24 3 d) 21 3 a
theorem u8_mod {x : Int} (h0 : 0 ≤ x) (h1 : x < 256) : x % 4294967296 = ((x.toNat : Nat) : Int) ∧ x.toNat < 2 ^ 32 := by omega
/-- What Encode tells. -/
def encR (o d a b i : Int) : Int × Int := if checkR o d a b i = 0 then (((encN o.toNat d.toNat a.toNat b.toNat i : Nat) : Int), 0) else (0, checkR o d a b i)
theorem check_zero {o d a b i : Int} (h : checkR o d a b i = 0) : o ≤ 21 ∧ regR d (usesR o).1 = true ∧ regR a (usesR o).2.1 = true ∧ regR b (usesR o).2.2.1 = true ∧ ((usesR o).2.2.2 = true ∨ i = 0) ∧ fits21 i = true ∧ (o = 17 → 0 ≤ i) := by
  unfold checkR at h
  by_cases hb : badR o d a b i = true
  · rw [if_pos hb] at h; omega
  · rw [if_neg hb] at h
    replace hb := Bool.eq_false_iff.mpr hb
    unfold badR at hb
    simp only [Bool.or_eq_false_iff, decide_eq_false_iff_not, Bool.not_eq_false'] at hb
    obtain ⟨⟨⟨⟨h1, h2⟩, h3⟩, h4⟩, h5⟩ := hb
    refine ⟨by omega, h2, h3, h4, ?_, ?_, ?_⟩
    · cases hu : (usesR o).2.2.2
      · rw [hu] at h5; simp at h5; exact .inr h5
      · exact .inl rfl
    · cases hf : fits21 i
      · rw [hf] at h; simp at h
      · rfl
    · intro h17
      cases hf : fits21 i
      · rw [hf] at h; simp at h
      · rw [hf] at h
        by_cases hi : i < 0
        · rw [if_neg (by simp), if_pos ⟨h17, hi⟩] at h; omega
        · omega
theorem reg_lt {r : Int} {u : Bool} (h0 : 0 ≤ r) (h : regR r u = true) : r < 8 ∧ (u = false → r = 0) := by
  unfold regR at h
  cases u
  · simp at h; exact ⟨by omega, fun _ => h⟩
  · simp at h; exact ⟨by omega, fun h => by cases h⟩
theorem usesB (o : Int) (h : (usesR o).2.2.1 = true) : (usesR o).2.2.2 = false := by
  unfold usesR at h ⊢
  repeat' split at h
  all_goals first | (simp at h; done) | skip
  all_goals simp [*]
def opN (w : Nat) : Int := ((bitsN w 27 5 : Nat) : Int)
def dN (w : Nat) : Int := ((bitsN w 24 3 : Nat) : Int)
def aN (w : Nat) : Int := ((bitsN w 21 3 : Nat) : Int)
def bN (w : Nat) : Int := if (usesR (opN w)).2.2.1 = true then ((bitsN w 0 3 : Nat) : Int) else 0
def iN (w : Nat) : Int := if (usesR (opN w)).2.2.1 = true then 0 else signN w
/-- Is the word an instruction's? -/
def isIns (w : Nat) : Bool := decide (encR (opN w) (dN w) (aN w) (bN w) (iN w) = ((w : Int), 0))
/-- What Decode tells. -/
def decR (w : Nat) : Int × Int × Int × Int × Int × Int := if isIns w = true then (opN w, dN w, aN w, bN w, iN w, 0) else (0, 0, 0, 0, 0, 10)
theorem opN_lt (w : Nat) : 0 ≤ opN w ∧ opN w < 256 := by unfold opN; have := bitsN_lt w 27 5; omega
theorem dN_lt (w : Nat) : 0 ≤ dN w ∧ dN w < 256 := by unfold dN; have := bitsN_lt w 24 3; omega
theorem aN_lt (w : Nat) : 0 ≤ aN w ∧ aN w < 256 := by unfold aN; have := bitsN_lt w 21 3; omega
theorem bN_lt (w : Nat) : 0 ≤ bN w ∧ bN w < 256 := by unfold bN; have := bitsN_lt w 0 3; split <;> omega
theorem signN_lt (w : Nat) : -2147483648 ≤ signN w ∧ signN w < 2147483648 := by unfold signN; split <;> omega
theorem iN_lt (w : Nat) : -2147483648 ≤ iN w ∧ iN w < 2147483648 := by unfold iN; have := signN_lt w; split <;> omega
theorem mod256 {x : Int} (h0 : 0 ≤ x ∧ x < 256) : x % 256 = x := by omega
/-- What Decode tells of an instruction's word has the form that Check asks for. -/
theorem dec_check (w : Nat) (h : isIns w = true) : checkR (opN w) (dN w) (aN w) (bN w) (iN w) = 0 := by
  have h1 := of_decide_eq_true h
  unfold encR at h1
  by_cases hc : checkR (opN w) (dN w) (aN w) (bN w) (iN w) = 0
  · exact hc
  · rw [if_neg hc] at h1
    have := congrArg Prod.snd h1
    exact absurd this hc
end Go.Wd
/- Words and instructions: what the program's functions make. -/
namespace Go.Abs
set_option linter.unusedSimpArgs false
set_option linter.unusedVariables false
open Go.Proofs Go.Wd
set_option linter.unusedVariables false
set_option maxRecDepth 8000
theorem mixed : Tryd.prog.follows .mixedOrders = true := by kernel_rfl
variable {H : Heap}
theorem w32 {x : Int} (h0 : 0 ≤ x) (h1 : x < 4294967296) : IntKind.u32.wrap x = x := by rw [IntKind.wrap_u32]; omega
theorem w8 {x : Int} (h0 : 0 ≤ x) (h1 : x < 256) : IntKind.u8.wrap x = x := by rw [IntKind.wrap_u8]; omega
theorem wi64 {x : Int} (h0 : -9223372036854775808 ≤ x) (h1 : x < 9223372036854775808) : IntKind.i64.wrap x = x := by rw [IntKind.wrap_i64]; omega
theorem wshl {a n : Nat} (hn : n ≤ 32) : shlK .u32 a n = (((a <<< n) % 2 ^ 32 : Nat) : Int) := shl_nat a n hn
theorem wshr {a n : Nat} (hn : n ≤ 32) : shrK .u32 a n = ((a >>> n : Nat) : Int) := by
  unfold shrK; rw [Int.fdiv_eq_ediv_of_nonneg _ (Int.le_of_lt (Int.pow_pos (by decide)))]; exact shr_nat a n hn
theorem shr_lt {a : Nat} (n : Nat) (h : a < 2 ^ 32) : a >>> n < 2 ^ 32 := by rw [Nat.shiftRight_eq_div_pow]; exact Nat.lt_of_le_of_lt (Nat.div_le_self _ _) h
theorem wcut (v : Int) : Go.bits .and .u32 (IntKind.u32.wrap v) ((maskN 21 : Nat) : Int) = ((cutN v : Nat) : Int) := by
  have h : IntKind.u32.wrap v = (((v % 4294967296).toNat : Nat) : Int) := by rw [IntKind.wrap_u32]; omega
  rw [h, and_nat _ _ (by omega) (by decide), ← cut_bits]; rfl
end Go.Abs
/- Lists: first places, elements of rows. -/
namespace Go.Abs
set_option linter.unusedSimpArgs false
set_option linter.unusedVariables false
open Go.Proofs
set_option linter.unusedVariables false
set_option maxRecDepth 8000
variable {H : Heap}
/-- The first place of a list with some property; -1: none. -/
def fi {α : Type} (p : α → Bool) (l : List α) : Int := match l.findIdx? p with | some i => i | none => -1
theorem fi_some {α : Type} {p : α → Bool} {l : List α} {i : Nat} {x : α} (hx : l[i]? = some x) (h : p x = true) (hn : ∀ (j : Nat) (y : α), j < i → l[j]? = some y → p y = false) : fi p l = i := by
  obtain ⟨hi, rfl⟩ := List.getElem?_eq_some_iff.1 hx
  have : l.findIdx? p = some i := by
    rw [List.findIdx?_eq_some_iff_getElem]
    exact ⟨hi, h, fun j hj => by simpa using hn j _ hj (List.getElem?_eq_getElem (by omega))⟩
  simp [fi, this]
theorem fi_none {α : Type} {p : α → Bool} {l : List α} (hn : ∀ (j : Nat) (y : α), l[j]? = some y → p y = false) : fi p l = -1 := by
  have : l.findIdx? p = none := by
    rw [List.findIdx?_eq_none_iff]
    intro x hx
    obtain ⟨j, hj⟩ := List.mem_iff_getElem?.1 hx
    exact hn j x hj
  simp [fi, this]
theorem fi_end {α : Type} {p : α → Bool} {l : List α} {i : Nat} (hi : l.length ≤ i) (hn : ∀ (j : Nat) (y : α), j < i → l[j]? = some y → p y = false) : fi p l = -1 :=
  fi_none fun j y hy => hn j y (by have := (List.getElem?_eq_some_iff.1 hy).1; omega) hy
/-- Nothing ahead of place i has the property. -/
def noneB {α : Type} (p : α → Bool) (l : List α) (i : Nat) : Prop := ∀ (j : Nat) (y : α), j < i → l[j]? = some y → p y = false
theorem noneB.zero {α : Type} {p : α → Bool} {l : List α} : noneB p l 0 := fun j y hj => by omega
theorem noneB.succ {α : Type} {p : α → Bool} {l : List α} {i : Nat} {x : α} (h : noneB p l i) (hx : l[i]? = some x) (hp : p x = false) : noneB p l (i + 1) := fun j y hj hy => by
  rcases Nat.lt_or_ge j i with g | g
  · exact h j y g hy
  · obtain rfl : j = i := by omega
    rw [hx] at hy; cases hy; exact hp
theorem vget {α : Type} (enc : α → List TV) {l : List α} {i : Nat} {x : α} (h : l[i]? = some x) : (l.map enc)[i]? = some (enc x) := by rw [List.getElem?_map, h]; rfl
theorem at_ {α : Type} {l : List α} {i : Nat} (h : i < l.length) : ∃ x, l[i]? = some x := ⟨_, List.getElem?_eq_getElem h⟩
theorem w64s {i : Nat} (h : i < 9223372036854775807) : IntKind.i64.wrap ((i : Int) + 1) = ((i + 1 : Nat) : Int) := by rw [wi64 (by omega) (by omega)]; simp
theorem AC.func {P : Program} {f g : FuncId} {a : TV} {H : Heap} {C : TV → Heap → Prop} (h : AC P f [a, .clo (.func g) [] []] H C) : AC P f [a, .s (.func (.func g) #[] #[])] H C := by
  intro argv w ha hh
  refine h argv w ?_ hh
  simp only [RepL, Rep] at ha ⊢
  obtain ⟨y, ys, rfl, h1, z, zs, rfl, rfl, h3⟩ := ha
  exact ⟨y, _, rfl, h1, _, _, rfl, ⟨#[], #[], rfl, rfl, rfl⟩, h3⟩
theorem toList_inj {a c : ByteArray} : a.toList = c.toList ↔ a = c := by
  constructor
  · intro h; rw [ByteArray.toList_eq, ByteArray.toList_eq] at h
    obtain ⟨⟨x⟩⟩ := a; obtain ⟨⟨y⟩⟩ := c; simp at h; rw [h]
  · rintro rfl; rfl
theorem str_eq (a c : ByteArray) : (a.toList == c.toList) = decide (a = c) := by rw [Bool.eq_iff_iff]; simp [toList_inj]
attribute [go_sem] List.length_map
/-- Elements of rows. -/
def s1 (x : ByteArray) : List TV := [.s (.string x)]
def u1 (x : Nat) : List TV := [.s (.int .u32 x)]
theorem s1_def (x : ByteArray) : s1 x = [.s (.string x)] := rfl
theorem u1_def (x : Nat) : u1 x = [.s (.int .u32 x)] := rfl
end Go.Abs
/- Modules: how they are seen, and lists of texts and relocations. -/
namespace Go.Abs
set_option linter.unusedSimpArgs false
set_option linter.unusedVariables false
set_option maxHeartbeats 4000000
open Go.Proofs
set_option linter.unusedVariables false
set_option maxRecDepth 8000
variable {H : Heap}
structure Rlc where
  k : Nat
  a : Nat
  w : Nat
  deriving DecidableEq
def relE (x : Rlc) : List TV := [.s (.int .u8 x.k), .s (.int .u16 x.a), .s (.int .u16 x.w)]
theorem relE_def (x : Rlc) : relE x = [.s (.int .u8 x.k), .s (.int .u16 x.a), .s (.int .u16 x.w)] := rfl
structure Mod where
  nm : ByteArray
  ex : List ByteArray
  im : List ByteArray
  co : List Nat
  da : List Nat
  re : List Rlc
  deriving DecidableEq
def Mod.tv (m : Mod) : TV := .agg [.s (.string m.nm), .vs 1 (m.ex.map s1), .vs 1 (m.im.map s1), .vs 1 (m.co.map u1), .vs 1 (m.da.map u1), .vs 3 (m.re.map relE)]
theorem Mod.tv_def (m : Mod) : m.tv = .agg [.s (.string m.nm), .vs 1 (m.ex.map s1), .vs 1 (m.im.map s1), .vs 1 (m.co.map u1), .vs 1 (m.da.map u1), .vs 3 (m.re.map relE)] := rfl
theorem ixfS_c (L : List ByteArray) (hL : L.length < 4611686018427387904) (g : FuncId) (cs : List TV) (p : ByteArray → Bool) (H : Heap)
    (hp : ∀ x : ByteArray, x ∈ L → AC Tryd.prog g ([] ++ [.s (.string x)] ++ cs) H (fun r H' => r = .s (.bool (p x)) ∧ H' = H)) :
    AC Tryd.prog 44 [.vs 1 (L.map s1), .clo (.func g) [] cs] H (fun r H' => r = .s (.int .i64 (fi p L)) ∧ H' = H) := by
  refine AC.body Tryd.func44 rfl rfl (n := 19) (res := [.tmp 4]) rfl rfl (by simp) ?_
  simp only [ent]
  (repeat' (first | refine wk ?_ | refine wk2 ?_ ?_ | with_reducible refine wkF fun _ _ _ => ?_ | with_reducible intro _ | exact ag | fail))
  refine ARun.rounds (fun i : Nat => ⟨[(0, .vs 1 (L.map s1)), (1, .clo (.func g) [] cs), (7, .s (.int .i64 L.length)), (8, .s (.int .i64 i))], H⟩) (fun i => L.length - i) (fun i => i ≤ L.length ∧ noneB p L i) ?_ 0 ⟨by omega, .zero⟩ ?_
  · rintro i ⟨hi, hno⟩ next
    replace hno := later hno
    by_cases hlt : i < L.length
    · have h1 : (i : Int) < L.length := by omega
      have h2 : (0 : Int) ≤ i := by omega
      obtain ⟨x, hx⟩ := at_ hlt
      have hx1 := vget s1 hx
      have ha := hp x (List.mem_of_getElem? hx)
      simp only [List.nil_append, List.cons_append] at ha
      have hw := w64s (i := i) (by omega)
      simp only [s1_def] at hx1 ha
      replace hp := later hp
      cases hpx : p x with
      | true =>
        rw [hpx] at ha
        rw [fi_some hx hpx hno.go]
        clear hx next
        (repeat' (first | refine wk ?_ | refine wk2 ?_ ?_ | with_reducible refine wkF fun _ _ _ => ?_ | with_reducible intro _ | refine Calling.eq (ha) ?_ | exact ag | fail))
        exact fin0
      | false =>
        rw [hpx] at ha
        replace hx := later hx
        (repeat' (first | refine wk ?_ | refine wk2 ?_ ?_ | with_reducible refine wkF fun _ _ _ => ?_ | with_reducible intro _ | refine Calling.eq (ha) ?_ | exact ag | fail))
        exact ARun.weaken (next.go (i + 1) ⟨by omega, hno.go.succ hx.go hpx⟩ (by omega)) (leK (Sub.refl _))
    · have h1 : decide ((i : Int) < L.length) = false := by simp; omega
      rw [fi_end (by omega) hno.go]
      clear next hp
      (repeat' (first | refine wk ?_ | refine wk2 ?_ ?_ | with_reducible refine wkF fun _ _ _ => ?_ | with_reducible intro _ | exact ag | fail))
      exact fin0
  · exact leK (Sub.refl _)

theorem cofS_c (L : List ByteArray) (hL : L.length < 4611686018427387904) (g : FuncId) (cs : List TV) (p : ByteArray → Bool) (H : Heap)
    (hp : ∀ x : ByteArray, x ∈ L → AC Tryd.prog g ([] ++ [.s (.string x)] ++ cs) H (fun r H' => r = .s (.bool (p x)) ∧ H' = H)) :
    AC Tryd.prog 26 [.vs 1 (L.map s1), .clo (.func g) [] cs] H (fun r H' => r = .s (.bool (decide (0 ≤ fi p L))) ∧ H' = H) := by
  refine AC.body Tryd.func26 rfl rfl (n := 9) (res := [.tmp 4]) rfl rfl (by simp) ?_
  simp only [ent]
  have I := ixfS_c L hL g cs p H hp
  clear hp
  (repeat' (first | refine wk ?_ | refine wk2 ?_ ?_ | with_reducible refine wkF fun _ _ _ => ?_ | with_reducible intro _ | refine Calling.eq (I) ?_ | exact ag | fail))
  exact fin0

end Go.Abs
/- Names, pure. No program. -/
namespace Go.Nm
open Go.Lib Go.RowKit
set_option linter.unusedVariables false
theorem width_pos (s : ByteArray) (pos : Nat) : 1 ≤ (Utf8.decode s pos).2 := by
  rw [decode_at]; unfold decodeN
  repeat' split
  all_goals simp
/-- How many runes stand from place pos on, by at most so many rounds. -/
def runesFrom (s : ByteArray) : Nat → Nat → Int → Int
  | 0, _, n => n
  | f + 1, pos, n => if pos < s.size then runesFrom s f (pos + (Utf8.decode s pos).2) (wrap64 (n + 1)) else n
def runes (s : ByteArray) : Int := runesFrom s s.size 0 0
/-- A version's digits. -/
def verFrom (s : ByteArray) : Nat → Nat → Int → Int
  | 0, _, n => n
  | f + 1, pos, n => if pos < s.size then (if ((Utf8.decode s pos).1 : Int) < 48 ∨ 57 < ((Utf8.decode s pos).1 : Int) then 0 else verFrom s f (pos + (Utf8.decode s pos).2) (wrap64 (wrap64 (10 * n) + (((Utf8.decode s pos).1 : Int) - 48)))) else n
def ver (s : ByteArray) : Int := if s.size = 0 ∨ 3 < s.size ∨ (s.get! 0).toNat = 48 then 0 else verFrom s s.size 0 0
def letter (r : Int) (wrong : Bool) : Bool := (decide (97 ≤ r) && decide (r ≤ 122)) || (decide (65 ≤ r) && decide (r ≤ 90)) || (decide (128 ≤ r) && !wrong)
/-- Is the rune at place pos a wrong one (one byte that begins no rune)? -/
def wrongAt (s : ByteArray) (pos : Nat) : Bool := decide (((Utf8.decode s pos).1 : Int) = 65533) && decide ((decodeGo (s.extract pos s.size)).2 = 1)
def badAt (s : ByteArray) (pos : Nat) : Bool :=
  !(letter ((Utf8.decode s pos).1 : Int) (wrongAt s pos)) && (decide (pos = 0) || (!decide (((Utf8.decode s pos).1 : Int) = 95) && (decide (((Utf8.decode s pos).1 : Int) < 48) || decide (57 < ((Utf8.decode s pos).1 : Int)))))
def stemFrom (s : ByteArray) : Nat → Nat → Bool
  | 0, _ => !s.data.toList.isEmpty
  | f + 1, pos => if pos < s.size then (if badAt s pos then false else stemFrom s f (pos + (Utf8.decode s pos).2)) else !s.data.toList.isEmpty
def stem (s : ByteArray) : Bool := stemFrom s s.size 0
theorem runesFrom_end (s : ByteArray) (f pos : Nat) (n : Int) (h : ¬ pos < s.size) : runesFrom s f pos n = n := by cases f <;> simp [runesFrom, h]
theorem verFrom_end (s : ByteArray) (f pos : Nat) (n : Int) (h : ¬ pos < s.size) : verFrom s f pos n = n := by cases f <;> simp [verFrom, h]
theorem stemFrom_end (s : ByteArray) (f pos : Nat) (h : ¬ pos < s.size) : stemFrom s f pos = !s.data.toList.isEmpty := by cases f <;> simp [stemFrom, h]
theorem wraps_i64 (n : Int) (h₀ : 0 ≤ n) (h₁ : n < 2 ^ 63) : IntKind.i64.wrap n = n := by rw [IntKind.wrap_i64]; omega
theorem i64_and31 (x : Int) (h₀ : 0 ≤ x) (h₁ : x < 256) : Go.bits .and .i64 x 31 = x % 32 := bits_mask .i64 63 (by decide) wraps_i64 5 (by decide) x h₀ (by omega)
theorem i64_and15 (x : Int) (h₀ : 0 ≤ x) (h₁ : x < 256) : Go.bits .and .i64 x 15 = x % 16 := bits_mask .i64 63 (by decide) wraps_i64 4 (by decide) x h₀ (by omega)
theorem i64_and7 (x : Int) (h₀ : 0 ≤ x) (h₁ : x < 256) : Go.bits .and .i64 x 7 = x % 8 := bits_mask .i64 63 (by decide) wraps_i64 3 (by decide) x h₀ (by omega)
theorem i64_or6 (x y : Int) (hx₀ : 0 ≤ x) (hx : x % 64 = 0) (hx₁ : x < 2147483648) (h₀ : 0 ≤ y) (h₁ : y < 64) : Go.bits .or .i64 x y = x + y :=
  bits_join .i64 63 (by decide) wraps_i64 6 x y hx₀ hx (by omega) h₀ h₁ (by omega)
theorem i64_or12 (x y : Int) (hx₀ : 0 ≤ x) (hx : x % 4096 = 0) (hx₁ : x < 2147483648) (h₀ : 0 ≤ y) (h₁ : y < 4096) : Go.bits .or .i64 x y = x + y :=
  bits_join .i64 63 (by decide) wraps_i64 12 x y hx₀ hx (by omega) h₀ h₁ (by omega)
theorem i64_or18 (x y : Int) (hx₀ : 0 ≤ x) (hx : x % 262144 = 0) (hx₁ : x < 2147483648) (h₀ : 0 ≤ y) (h₁ : y < 262144) : Go.bits .or .i64 x y = x + y :=
  bits_join .i64 63 (by decide) wraps_i64 18 x y hx₀ hx (by omega) h₀ h₁ (by omega)
theorem u8_and192 (x : Int) (h₀ : 0 ≤ x) (h₁ : x < 256) : Go.bits .and .u8 x 192 = x / 64 * 64 := by
  have h : ∀ n : Fin 256, Go.bits .and .u8 ((n.val : Nat) : Int) 192 = ((n.val : Nat) : Int) / 64 * 64 := by decide +kernel
  have := h ⟨x.toNat, by omega⟩
  simp only [Int.toNat_of_nonneg h₀] at this
  exact this
theorem w64 {x : Int} (h₀ : 0 ≤ x) (h₁ : x < 9223372036854775808) : wrap64 x = x := by unfold wrap64; omega
/-- The rune at place p: -1 of a wrong one. -/
def rv (s : ByteArray) (p : Nat) : Int := if (Utf8.decode s p).2 = 1 ∧ (Utf8.decode s p).1 = 65533 then -1 else ((Utf8.decode s p).1 : Int)
theorem val2 (x y : Int) (hx : 0 ≤ x ∧ x < 256) (hy : 0 ≤ y ∧ y < 256) : Go.bits .or .i64 (wrap64 ((Go.bits .and .i64 x 31) * 64)) (wrap64 (Go.bits .and .u8 y 63)) = x % 32 * 64 + y % 64 := by
  obtain ⟨hx0, hx1⟩ := hx
  obtain ⟨hy0, hy1⟩ := hy
  rw [i64_and31 x hx0 hx1, u8_and63 y hy0 hy1, w64 (x := x % 32 * 64) (by omega) (by omega), w64 (x := y % 64) (by omega) (by omega)]
  exact i64_or6 _ _ (by omega) (by omega) (by omega) (by omega) (by omega)
theorem val3 (x y z : Int) (hx : 0 ≤ x ∧ x < 256) (hy : 0 ≤ y ∧ y < 256) (hz : 0 ≤ z ∧ z < 256) :
    Go.bits .or .i64 (Go.bits .or .i64 (wrap64 ((Go.bits .and .i64 x 15) * 4096)) (wrap64 ((wrap64 (Go.bits .and .u8 y 63)) * 64))) (wrap64 (Go.bits .and .u8 z 63)) = x % 16 * 4096 + y % 64 * 64 + z % 64 := by
  obtain ⟨hx0, hx1⟩ := hx
  obtain ⟨hy0, hy1⟩ := hy
  obtain ⟨hz0, hz1⟩ := hz
  rw [i64_and15 x hx0 hx1, u8_and63 y hy0 hy1, u8_and63 z hz0 hz1, w64 (x := x % 16 * 4096) (by omega) (by omega), w64 (x := y % 64) (by omega) (by omega), w64 (x := z % 64) (by omega) (by omega), w64 (x := y % 64 * 64) (by omega) (by omega),
    i64_or12 (x % 16 * 4096) (y % 64 * 64) (by omega) (by omega) (by omega) (by omega) (by omega)]
  exact i64_or6 _ _ (by omega) (by omega) (by omega) (by omega) (by omega)
theorem val4 (x y z u : Int) (hx : 0 ≤ x ∧ x < 256) (hy : 0 ≤ y ∧ y < 256) (hz : 0 ≤ z ∧ z < 256) (hu : 0 ≤ u ∧ u < 256) :
    Go.bits .or .i64 (Go.bits .or .i64 (Go.bits .or .i64 (wrap64 ((Go.bits .and .i64 x 7) * 262144)) (wrap64 ((wrap64 (Go.bits .and .u8 y 63)) * 4096))) (wrap64 ((wrap64 (Go.bits .and .u8 z 63)) * 64))) (wrap64 (Go.bits .and .u8 u 63)) = x % 8 * 262144 + y % 64 * 4096 + z % 64 * 64 + u % 64 := by
  obtain ⟨hx0, hx1⟩ := hx
  obtain ⟨hy0, hy1⟩ := hy
  obtain ⟨hz0, hz1⟩ := hz
  obtain ⟨hu0, hu1⟩ := hu
  rw [i64_and7 x hx0 hx1, u8_and63 y hy0 hy1, u8_and63 z hz0 hz1, u8_and63 u hu0 hu1, w64 (x := x % 8 * 262144) (by omega) (by omega), w64 (x := y % 64) (by omega) (by omega), w64 (x := z % 64) (by omega) (by omega), w64 (x := u % 64) (by omega) (by omega), w64 (x := y % 64 * 4096) (by omega) (by omega), w64 (x := z % 64 * 64) (by omega) (by omega),
    i64_or18 (x % 8 * 262144) (y % 64 * 4096) (by omega) (by omega) (by omega) (by omega) (by omega), i64_or12 (x % 8 * 262144 + y % 64 * 4096) (z % 64 * 64) (by omega) (by omega) (by omega) (by omega) (by omega)]
  exact i64_or6 _ _ (by omega) (by omega) (by omega) (by omega) (by omega)
theorem ba_ext {a b : ByteArray} (h : a.data.toList = b.data.toList) : a = b := by
  cases a; cases b; simp at h; subst h; rfl
theorem ex_size (s : ByteArray) (a b : Nat) (hb : b ≤ s.size) : (s.extract a b).size = b - a := by
  rw [ByteArray.size_extract]; omega
theorem ex_ex (s : ByteArray) (p k : Nat) : (s.extract p s.size).extract k (s.extract p s.size).size = s.extract (p + k) s.size := by
  apply ba_ext
  have h : s.size = s.data.toList.length := Lib.size_eq s
  rw [Lib.extract_data, Lib.extract_data, Lib.extract_data, ex_size _ _ _ (Nat.le_refl _), h]
  have e : ∀ (l : List UInt8) (a : Nat), (l.drop a).take (l.length - a) = l.drop a := fun l a => List.take_of_length_le (by simp)
  rw [e, e, List.drop_drop]
  exact List.take_of_length_le (by simp; omega)
theorem ex_all (s : ByteArray) : s.extract 0 s.size = s := by
  apply ba_ext
  rw [Lib.extract_data]
  rw [Lib.size_eq s, List.drop_zero, Nat.sub_zero, List.take_length]
theorem get!_out (s : ByteArray) (i : Nat) (h : s.size ≤ i) : s.get! i = 0 := by
  have hd : ¬ i < s.data.size := by have : s.data.size = s.size := rfl; omega
  exact getElem!_neg s.data i hd
theorem get!_in (s : ByteArray) (i : Nat) (h : i < s.size) : s.get! i = s[i]'h := getElem!_pos s.data i h
theorem get!_list (s : ByteArray) (i : Nat) : s.get! i = s.data.toList.getD i 0 := by
  by_cases h : i < s.size
  · have h2 : i < s.data.toList.length := by rw [← Lib.size_eq]; exact h
    rw [get!_in s i h, List.getD_eq_getElem?_getD, List.getElem?_eq_getElem h2]
    rfl
  · have h2 : s.data.toList.length ≤ i := by rw [← Lib.size_eq]; omega
    rw [get!_out s i (by omega), List.getD_eq_getElem?_getD, List.getElem?_eq_none h2]
    rfl
theorem get!_ex (s : ByteArray) (p i : Nat) : (s.extract p s.size).get! i = s.get! (p + i) := by
  rw [get!_list, get!_list, Lib.extract_data]
  have h : s.size = s.data.toList.length := Lib.size_eq s
  rw [h, List.take_of_length_le (by simp)]
  simp [List.getD_eq_getElem?_getD, List.getElem?_drop]
theorem decode_ex (s : ByteArray) (p : Nat) (hp : p ≤ s.size) : Utf8.decode (s.extract p s.size) 0 = Utf8.decode s p := by
  rw [decode_at, decode_at, ex_size _ _ _ (Nat.le_refl _)]
  simp only [get!_ex, Nat.zero_add, Nat.sub_zero, Nat.add_zero]
theorem decodeN_width (n b0 b1 b2 b3 : Nat) (h : 0 < n) : (decodeN n b0 b1 b2 b3).2 ≤ n := by
  unfold decodeN
  repeat' split
  all_goals simp
  all_goals omega
theorem width_le (s : ByteArray) (p : Nat) (hp : p < s.size) : p + (Utf8.decode s p).2 ≤ s.size := by
  have := decodeN_width (s.size - p) (s.get! p).toNat (s.get! (p + 1)).toNat (s.get! (p + 2)).toNat (s.get! (p + 3)).toNat (by omega)
  rw [← decode_at] at this
  omega
/-- The runes from place p on. -/
def rl (s : ByteArray) : Nat → Nat → List Int
  | 0, _ => []
  | f + 1, p => if p < s.size then rv s p :: rl s f (p + (Utf8.decode s p).2) else []
theorem rl_length (s : ByteArray) : ∀ f p, (rl s f p).length ≤ f
  | 0, _ => by simp [rl]
  | f + 1, p => by
    unfold rl
    split
    · have := rl_length s f (p + (Utf8.decode s p).2)
      simp only [List.length_cons]
      omega
    · simp
theorem rv_ex (s : ByteArray) (p : Nat) (hp : p ≤ s.size) : rv (s.extract p s.size) 0 = rv s p := by
  unfold rv
  rw [decode_ex s p hp]
def rlist (s : ByteArray) : List Int := rl s s.size 0
theorem runesFrom_rl (s : ByteArray) : ∀ (f p : Nat) (n : Int), 0 ≤ n → n + f < 9223372036854775807 → runesFrom s f p n = n + (rl s f p).length
  | 0, p, n, h0, h => by simp [runesFrom, rl]
  | f + 1, p, n, h0, h => by
    unfold runesFrom rl
    split
    · rw [w64 (by omega) (by omega), runesFrom_rl s f _ (n + 1) (by omega) (by omega)]
      simp
      omega
    · simp
theorem runes_rl (s : ByteArray) (h : s.size < 17592186044416) : runes s = ((rlist s).length : Int) := by
  unfold runes rlist
  rw [runesFrom_rl s s.size 0 0 (by omega) (by omega)]
  omega
def letR (c : Int) : Bool := (decide (97 ≤ c) && decide (c ≤ 122)) || (decide (65 ≤ c) && decide (c ≤ 90)) || decide (128 ≤ c)
def digR (c : Int) : Bool := decide (48 ≤ c) && decide (c ≤ 57)
def okR (c : Int) : Bool := letR c || digR c || decide (c = 95)
def stemL : List Int → Bool
  | [] => false
  | c :: t => letR c && t.all okR
theorem nm_ne (s : ByteArray) (hs : 0 < s.size) : s.data.toList.isEmpty = false := by
  have : s.data.toList.length ≠ 0 := by rw [← Lib.size_eq]; omega
  cases h : s.data.toList with
  | nil => rw [h] at this; exact absurd rfl this
  | cons a t => rfl
theorem wrong_iff (s : ByteArray) (p : Nat) (hp : p < s.size) : wrongAt s p = decide ((Utf8.decode s p).2 = 1 ∧ (Utf8.decode s p).1 = 65533) := by
  unfold wrongAt decodeGo
  rw [if_neg (by rw [ex_size _ _ _ (Nat.le_refl _)]; omega), decode_ex s p (by omega), Bool.eq_iff_iff]
  simp
  omega
theorem bad_core (s : ByteArray) (p : Nat) (hp : p < s.size) (z : Bool) : (!(letter ((Utf8.decode s p).1 : Int) (wrongAt s p)) && (z || (!decide (((Utf8.decode s p).1 : Int) = 95) && (decide (((Utf8.decode s p).1 : Int) < 48) || decide (57 < ((Utf8.decode s p).1 : Int)))))) = !(letR (rv s p) || (!z && (digR (rv s p) || decide (rv s p = 95)))) := by
  rw [wrong_iff s p hp]
  unfold rv
  by_cases hw : (Utf8.decode s p).2 = 1 ∧ (Utf8.decode s p).1 = 65533
  · rw [if_pos hw, decide_eq_true hw, hw.2]
    cases z <;> rfl
  · rw [if_neg hw, decide_eq_false hw]
    have h0 : (0 : Int) ≤ ((Utf8.decode s p).1 : Int) := Int.natCast_nonneg _
    generalize ((Utf8.decode s p).1 : Int) = R at *
    have hl : letter R false = letR R := by unfold letter letR; simp
    rw [hl]
    cases letR R
    · unfold digR
      cases z
      · by_cases h1 : R = 95 <;> by_cases h2 : R < 48 <;> by_cases h3 : 57 < R <;> simp [h1, h2, h3] <;> omega
      · simp
    · simp
theorem bad_ok (s : ByteArray) (p : Nat) (hp : p < s.size) (h0 : p ≠ 0) : badAt s p = !okR (rv s p) := by
  have := bad_core s p hp false
  unfold badAt okR
  rw [decide_eq_false h0, this]
  simp [Bool.or_assoc]
theorem bad_let (s : ByteArray) (hs : 0 < s.size) : badAt s 0 = !letR (rv s 0) := by
  have := bad_core s 0 hs true
  unfold badAt
  rw [decide_eq_true rfl, this]
  simp
theorem stemFrom_rl (s : ByteArray) (hs : 0 < s.size) : ∀ (f p : Nat), 0 < p → s.size ≤ p + f → stemFrom s f p = (rl s f p).all okR
  | 0, p, h0, hf => by simp [stemFrom, rl, nm_ne s hs]
  | f + 1, p, h0, hf => by
    unfold stemFrom rl
    split
    · rename_i hp
      have ih := stemFrom_rl s hs f (p + (Utf8.decode s p).2) (by omega) (by have := width_pos s p; omega)
      rw [List.all_cons, ih, bad_ok s p hp (by omega)]
      cases okR (rv s p) <;> simp
    · simp [nm_ne s hs]
theorem stem_rl (s : ByteArray) : stem s = stemL (rlist s) := by
  unfold stem rlist
  by_cases hs : 0 < s.size
  · obtain ⟨f, hf⟩ : ∃ f, s.size = f + 1 := ⟨s.size - 1, by omega⟩
    rw [hf]
    unfold stemFrom rl
    rw [if_pos hs, if_pos hs, stemL, stemFrom_rl s hs f _ (by have := width_pos s 0; omega) (by have := width_pos s 0; omega), bad_let s hs]
    cases letR (rv s 0) <;> simp
  · have h0 : s.size = 0 := by omega
    rw [h0]
    have hl : s.data.toList = [] := List.eq_nil_of_length_eq_zero (by rw [← Lib.size_eq]; exact h0)
    simp [stemFrom, rl, stemL, hl]
theorem dec_ascii (s : ByteArray) (p : Nat) (h : (s.get! p).toNat < 128) : Utf8.decode s p = ((s.get! p).toNat, 1) := by
  rw [decode_at]
  unfold decodeN
  rw [if_pos h]
theorem dec_high (s : ByteArray) (p : Nat) (h : ¬ (s.get! p).toNat < 128) : 128 ≤ (Utf8.decode s p).1 := by
  rw [decode_at]
  unfold decodeN
  rw [if_neg h]
  repeat' split
  all_goals simp
  all_goals omega
def cutA (s : ByteArray) : ByteArray := ⟨(Lib.cut s.data.toList [64]).1.toArray⟩
def cutB (s : ByteArray) : ByteArray := ⟨(Lib.cut s.data.toList [64]).2.1.toArray⟩
def has (s : ByteArray) : Bool := (Lib.cut s.data.toList [64]).2.2
theorem occ_one (l : List UInt8) (c : UInt8) (j : Nat) : occAt l [c] j = decide (l[j]? = some c) := by
  unfold occAt
  rcases Nat.lt_or_ge j l.length with h | h
  · rw [List.drop_eq_getElem_cons h, List.getElem?_eq_getElem h]
    simp only [List.isPrefixOf, Bool.and_true, Option.some.injEq]
    rw [Bool.eq_iff_iff, beq_iff_eq, decide_eq_true_iff]
    exact eq_comm
  · rw [List.drop_of_length_le h, List.getElem?_eq_none h]
    simp
/-- Either no '@' stands in the text, or the first one stands at place j. -/
theorem at_spec (s : ByteArray) : (has s = false ∧ cutA s = s ∧ cutB s = ⟨#[]⟩ ∧ ∀ j, j < s.size → (s.get! j).toNat ≠ 64) ∨
    ∃ j, j < s.size ∧ has s = true ∧ cutA s = s.extract 0 j ∧ cutB s = s.extract (j + 1) s.size ∧ (s.get! j).toNat = 64 ∧ ∀ i, i < j → (s.get! i).toNat ≠ 64 := by
  have hn : ∀ j, j < s.size → (s.data.toList[j]? = some 64 ↔ (s.get! j).toNat = 64) := fun j hj => by
    have hj2 : j < s.data.toList.length := by rw [← Lib.size_eq]; exact hj
    rw [get!_list, List.getD_eq_getElem?_getD, List.getElem?_eq_getElem hj2]
    simp only [Option.some.injEq, Option.getD_some]
    constructor
    · intro h; rw [h]; rfl
    · intro h; exact UInt8.toNat_inj.mp (by rw [h]; rfl)
  rcases index_spec s.data.toList [64] with ⟨h1, h2⟩ | ⟨j, h1, h2, h3, h4⟩
  · refine .inl ⟨?_, ?_, ?_, fun j hj hc => ?_⟩
    · unfold has Lib.cut; rw [h1]; rfl
    · unfold cutA Lib.cut; rw [h1]; cases s; rfl
    · unfold cutB Lib.cut; rw [h1]; rfl
    · have := h2 j (by rw [← Lib.size_eq]; omega)
      rw [occ_one] at this
      exact of_decide_eq_false this ((hn j hj).mpr hc)
  · have hlt : j < s.size := by
      rw [occ_one] at h3
      have h5 := of_decide_eq_true h3
      rw [Lib.size_eq]
      exact (List.getElem?_eq_some_iff.1 h5).1
    have hi : (0 : Int) ≤ Lib.index s.data.toList [64] := by rw [h1]; omega
    refine .inr ⟨j, hlt, ?_, ?_, ?_, ?_, fun i hi2 hc => ?_⟩
    · unfold has Lib.cut; rw [if_pos hi]
    · unfold cutA Lib.cut; rw [if_pos hi, h1]
      apply ba_ext
      rw [Lib.extract_data]
      simp
    · unfold cutB Lib.cut; rw [if_pos hi, h1]
      apply ba_ext
      rw [Lib.extract_data]
      have hz := Lib.size_eq s
      simp only [Int.toNat_natCast, List.length_cons, List.length_nil]
      rw [List.take_of_length_le (by simp only [List.length_drop]; omega)]
    · rw [occ_one] at h3
      exact (hn j hlt).mp (of_decide_eq_true h3)
    · have := h4 i hi2
      rw [occ_one] at this
      exact of_decide_eq_false this ((hn i (by omega)).mpr hc)
theorem cutA_size (s : ByteArray) : (cutA s).size ≤ s.size := by
  rcases at_spec s with ⟨h1, h2, h3, h4⟩ | ⟨j, hj, h1, h2, h3, h4, h5⟩
  · rw [h2]; exact Nat.le_refl _
  · rw [h2, ex_size _ _ _ (by omega)]; omega
theorem cutB_size (s : ByteArray) : (cutB s).size ≤ s.size := by
  rcases at_spec s with ⟨h1, h2, h3, h4⟩ | ⟨j, hj, h1, h2, h3, h4, h5⟩
  · rw [h3]; exact Nat.zero_le _
  · rw [h3, ex_size _ _ _ (by omega)]; omega

/-! ### checks and splits -/
def okN (s : ByteArray) : Bool := stem (cutA s) && !(has s && decide (ver (cutB s) = 0))
/-- What Check tells: 6: no name; 5: too long. -/
def chk (s : ByteArray) : Int := if okN s = false then 6 else if runes s > 24 then 5 else 0
theorem ver_nil : ver (⟨#[]⟩ : ByteArray) = 0 := rfl
theorem ver_none (s : ByteArray) (h : has s = false) : ver (cutB s) = 0 := by
  rcases at_spec s with ⟨h1, h2, h3, h4⟩ | ⟨j, hj, h1, h2, h3, h4, h5⟩
  · rw [h3]; rfl
  · rw [h1] at h; cases h
/-- What Split tells. -/
def splitR (s : ByteArray) : ByteArray × Int × Int := if chk s = 0 then (cutA s, ver (cutB s), 0) else ((⟨#[]⟩ : ByteArray), 0, chk s)
theorem splitR_e (s : ByteArray) : (splitR s).2.2 = chk s := by
  unfold splitR
  split
  · rename_i h; rw [h]
  · rfl
end Go.Nm
/- Names: what the program's functions make. -/
namespace Go.Abs
set_option linter.unusedSimpArgs false
set_option linter.unusedVariables false
set_option maxHeartbeats 4000000
open Go.Proofs Go.Nm Go.RowKit
set_option linter.unusedVariables false
set_option maxRecDepth 8000
variable {H : Heap}
/-- The program's globals, held as they are; utf8's tables are what they are laid as. -/
structure GH (G : Heap) : Prop where
  exact : ∀ b, G b ≠ none → ∃ o, G b = some (.exact o)
  tabs : ∀ w, HRel G w → Lib.Utf8Tabs 1 2 w
  first : ∃ c e fz, G 1 = some (.exact (.cells c e fz)) ∧ ∀ i, i < 256 → c[i]? = some (.int .u8 (Lib.firstT i))
  acc : ∃ c e fz, G 2 = some (.exact (.cells c e fz)) ∧ ∀ i, i < 16 → c[2 * i]? = some (.int .u8 (Lib.accLo i)) ∧ c[2 * i + 1]? = some (.int .u8 (Lib.accHi i))
theorem HRel.sub {G H : Heap} {w : World} (hs : Sub G H) (hg : ∀ b, G b ≠ none → ∃ o, G b = some (.exact o)) (h : HRel H w) : HRel G w := by
  intro b r hr
  obtain ⟨o, ho⟩ := hg b (by rw [hr]; simp)
  rw [hr] at ho; cases ho
  exact h b _ (hs b _ hr)
theorem Sub.none {G H : Heap} (hs : Sub G H) {b : Nat} (h : H b = none) : G b = none := by
  cases e : G b with
  | none => rfl
  | some r => rw [hs b r e] at h; cases h
theorem AC.rconv {P : Program} {g : FuncId} {args : List TV} {H H0 : Heap} {t t' : TV} (h : AC P g args H (fun r H' => r = t ∧ H' = H0)) (hc : ∀ w F v, Rep w F t v → Rep w F t' v) : AC P g args H (fun r H' => r = t' ∧ H' = H0) := by
  have hA : ∀ {H : Heap} {w : World} {v : Value} {w' : World}, After (fun r H' => r = t ∧ H' = H0) H w v w' → After (fun r H' => r = t' ∧ H' = H0) H w v w' := fun ⟨r, H', ⟨h1, h2⟩, h3, h4⟩ => ⟨t', H', ⟨rfl, h2⟩, hc _ _ _ (h1 ▸ h3), h4⟩
  intro argv w ha hh
  rcases h argv w ha hh with ⟨h1, h2⟩ | ⟨v, w', h1, h2⟩
  · refine .inl ⟨h1, fun cs => ?_⟩
    obtain ⟨e, w', fr, ⟨v, he, g⟩, s⟩ := h2 cs
    exact ⟨e, w', fr, ⟨v, he, hA g⟩, s⟩
  · exact .inr ⟨v, w', h1, hA h2⟩
theorem rep_tup2 {w : World} {F : Nat → Prop} {a b v : Value} (h : Rep w F (.s (.tuple #[a, b])) v) : Rep w F (.tup [.s a, .s b]) v := by
  simp only [Rep, RepL] at h ⊢; exact ⟨#[a, b], h, _, _, rfl, rfl, _, _, rfl, rfl, rfl⟩
theorem ix_get {P : Program} {T : TypeId} {s : ByteArray} {k : IntKind} {i : Int} (h : isStr P T = true) (hi : 0 ≤ i) (hl : i.toNat < s.size) : indexA P T (.s (.string s)) (.s (.int k i)) = some (.s (.int .u8 ((s.get! i.toNat).toNat : Nat))) := by
  refine ix_str T s k i _ h hi ?_
  rw [get!_in s _ hl]; exact getElem?_pos s _ hl
theorem str_nil (s : ByteArray) : (s.toList == (⟨#[]⟩ : ByteArray).toList) = (s.size == 0) := by
  rw [ByteArray.toList_eq, ByteArray.toList_eq, Bool.eq_iff_iff, beq_iff_eq, beq_iff_eq, Lib.size_eq]
  exact List.length_eq_zero_iff.symm
attribute [go_sem] upd_upd ix_get str_nil
theorem w64_eq (x : Int) : IntKind.i64.wrap x = wrap64 x := by rw [IntKind.wrap_i64]; unfold wrap64; rfl
theorem runes_c {s : ByteArray} : AC Tryd.prog 56 [.s (.string s)] H (fun r H' => r = .s (.int .i64 (runes s)) ∧ H' = H) := by
  refine AC.body Tryd.func56 rfl rfl (n := 11) (res := [.tmp 2]) rfl rfl (by simp) ?_
  simp only [ent]
  (repeat' (first | refine wk ?_ | refine wk2 ?_ ?_ | with_reducible refine wkF fun _ _ _ => ?_ | with_reducible intro _ | refine Doing.fresh (oc_range_str (by simp only [go_sem])) fun _ _ _ => ?_ | exact ag | fail))
  rename_i b hb hne
  refine ARun.rounds (fun st : Nat × Nat × Int => ⟨[(3, .s (.int .i64 st.2.2)), (5, .s (.pointer (some ⟨b, 0, none⟩)))], upd H b (.strIter s st.2.1)⟩) (fun st => st.1) (fun st => s.size ≤ st.2.1 + st.1 ∧ runesFrom s st.1 st.2.1 st.2.2 = runes s) ?_ (s.size, 0, 0) ⟨by simp, rfl⟩ ?_
  · rintro ⟨f, p, n⟩ ⟨hf, hr⟩ next
    simp only [] at hf hr ⊢
    by_cases hp : p < s.size
    · obtain ⟨f, rfl⟩ : ∃ g, f = g + 1 := ⟨f - 1, by omega⟩
      have hw := Nm.width_pos s p
      rw [runesFrom, if_pos hp, ← w64_eq] at hr
      (repeat' (first | refine wk ?_ | refine wk2 ?_ ?_ | with_reducible refine wkF fun _ _ _ => ?_ | with_reducible intro _ | refine Doing.eq (oc_next_at (upd_self _ _ _) hp) ?_ | exact ag | fail))
      exact ARun.weaken (next.go (f, p + (Utf8.decode s p).2, IntKind.i64.wrap (n + 1)) ⟨by simp only []; omega, hr⟩ (by simp only []; omega)) (leK (Sub.refl _))
    · rw [runesFrom_end s f p n hp] at hr
      subst hr
      (repeat' (first | refine wk ?_ | refine wk2 ?_ ?_ | with_reducible refine wkF fun _ _ _ => ?_ | with_reducible intro _ | refine Doing.eq (oc_next_end (upd_self _ _ _) hp) ?_ | exact ag | fail))
      exact fin0
  · exact leK (Sub.refl _)
theorem version_c {s : ByteArray} : AC Tryd.prog 54 [.s (.string s)] H (fun r H' => r = .s (.int .i64 (ver s)) ∧ H' = H) := by
  refine AC.body Tryd.func54 rfl rfl (n := 36) (res := [.tmp 2]) rfl rfl (by simp) ?_
  simp only [ent]
  by_cases hz : s.size = 0
  · have h0 : (s.size == 0) = true := by simpa using hz
    have hv : ver s = 0 := by unfold ver; rw [if_pos (.inl hz)]
    rw [hv]
    (repeat' (first | refine wk ?_ | refine wk2 ?_ ?_ | with_reducible refine wkF fun _ _ _ => ?_ | with_reducible intro _ | exact ag | fail))
    exact fin0
  have h0 : (s.size == 0) = false := by simpa using hz
  by_cases h3 : 3 < s.size
  · have h3' : (3 : Int) < s.size := by omega
    have hv : ver s = 0 := by unfold ver; rw [if_pos (.inr (.inl h3))]
    rw [hv]
    (repeat' (first | refine wk ?_ | refine wk2 ?_ ?_ | with_reducible refine wkF fun _ _ _ => ?_ | with_reducible intro _ | exact ag | fail))
    exact fin0
  have h3' : decide ((3 : Int) < s.size) = false := by simp; omega
  have hpos : 0 < s.size := by omega
  by_cases h48 : (s.get! 0).toNat = 48
  · have h4 : ((((s.get! 0).toNat : Nat) : Int) == 48) = true := by simp; omega
    have hv : ver s = 0 := by unfold ver; rw [if_pos (.inr (.inr h48))]
    rw [hv]
    clear hv
    (repeat' (first | refine wk ?_ | refine wk2 ?_ ?_ | with_reducible refine wkF fun _ _ _ => ?_ | with_reducible intro _ | exact ag | fail))
    exact fin0
  have h4 : ((((s.get! 0).toNat : Nat) : Int) == 48) = false := by simp; omega
  have hv : ver s = verFrom s s.size 0 0 := by unfold ver; rw [if_neg (by omega)]
  replace hv := later hv
  clear h48
  (repeat' (first | refine wk ?_ | refine wk2 ?_ ?_ | with_reducible refine wkF fun _ _ _ => ?_ | with_reducible intro _ | refine Doing.fresh (oc_range_str (by simp only [go_sem])) fun _ _ _ => ?_ | exact ag | fail))
  rename_i b hb hne
  clear h4 h3' h0 h3 hz
  refine ARun.rounds (fun st : Nat × Nat × Int => ⟨[(3, .s (.int .i64 st.2.2)), (19, .s (.pointer (some ⟨b, 0, none⟩)))], upd H b (.strIter s st.2.1)⟩) (fun st => st.1) (fun st => s.size ≤ st.2.1 + st.1 ∧ verFrom s st.1 st.2.1 st.2.2 = ver s) ?_ (s.size, 0, 0) ⟨by simp, hv.go.symm⟩ ?_
  · rintro ⟨f, p, n⟩ ⟨hf, hr⟩ next
    simp only [] at hf hr ⊢
    clear hv
    by_cases hp : p < s.size
    · obtain ⟨f, rfl⟩ : ∃ g, f = g + 1 := ⟨f - 1, by omega⟩
      have hw := Nm.width_pos s p
      rw [verFrom, if_pos hp] at hr
      by_cases hlo : ((Utf8.decode s p).1 : Int) < 48
      · rw [if_pos (.inl hlo)] at hr
        rw [← hr]
        clear hr
        (repeat' (first | refine wk ?_ | refine wk2 ?_ ?_ | with_reducible refine wkF fun _ _ _ => ?_ | with_reducible intro _ | refine Doing.eq (oc_next_at (upd_self _ _ _) hp) ?_ | exact ag | fail))
        exact fin0
      · have hlo' : decide (((Utf8.decode s p).1 : Int) < 48) = false := by simp; omega
        by_cases hhi : 57 < ((Utf8.decode s p).1 : Int)
        · rw [if_pos (.inr hhi)] at hr
          rw [← hr]
          clear hr hlo
          (repeat' (first | refine wk ?_ | refine wk2 ?_ ?_ | with_reducible refine wkF fun _ _ _ => ?_ | with_reducible intro _ | refine Doing.eq (oc_next_at (upd_self _ _ _) hp) ?_ | exact ag | fail))
          exact fin0
        · have hhi' : decide (57 < ((Utf8.decode s p).1 : Int)) = false := by simp; omega
          rw [if_neg (by omega), ← w64_eq, ← w64_eq] at hr
          have e1 : IntKind.i32.wrap (((Utf8.decode s p).1 : Int) - 48) = ((Utf8.decode s p).1 : Int) - 48 := by rw [IntKind.wrap_i32]; omega
          have e2 : IntKind.i64.wrap (((Utf8.decode s p).1 : Int) - 48) = ((Utf8.decode s p).1 : Int) - 48 := wi64 (by omega) (by omega)
          clear hlo hhi
          (repeat' (first | refine wk ?_ | refine wk2 ?_ ?_ | with_reducible refine wkF fun _ _ _ => ?_ | with_reducible intro _ | refine Doing.eq (oc_next_at (upd_self _ _ _) hp) ?_ | exact ag | fail))
          exact ARun.weaken (next.go (f, p + (Utf8.decode s p).2, IntKind.i64.wrap (IntKind.i64.wrap (10 * n) + (((Utf8.decode s p).1 : Int) - 48))) ⟨by simp only []; omega, hr⟩ (by simp only []; omega)) (leK (Sub.refl _))
    · rw [verFrom_end s f p n hp] at hr
      subst hr
      (repeat' (first | refine wk ?_ | refine wk2 ?_ ?_ | with_reducible refine wkF fun _ _ _ => ?_ | with_reducible intro _ | refine Doing.eq (oc_next_end (upd_self _ _ _) hp) ?_ | exact ag | fail))
      exact fin0
  · exact leK (Sub.refl _)
theorem letter_c {r : Int} {u : Bool} : AC Tryd.prog 74 [.s (.int .i32 r), .s (.bool u)] H (fun x H' => x = .s (.bool (letter r u)) ∧ H' = H) := by
  refine AC.body Tryd.func74 rfl rfl (n := 27) (res := [.tmp 4]) rfl rfl (by simp) ?_
  simp only [ent]
  (repeat' (first | refine wk ?_ | refine wk2 ?_ ?_ | with_reducible refine wkF fun _ _ _ => ?_ | with_reducible intro _ | exact ag | fail))
  all_goals
    refine fin1 ⟨?_, rfl⟩
    simp only [resV, letter]
    cases u <;> simp_all <;> omega
theorem tab_drop {c : Array Value} {i : Nat} {v : Value} (h : c[i]? = some v) : ∃ l, (c.toList.map TV.s).drop i = .s v :: l := by
  obtain ⟨hi, e⟩ := Array.getElem?_eq_some_iff.1 h
  refine ⟨(c.toList.map TV.s).drop (i + 1), ?_⟩
  rw [List.drop_eq_getElem_cons (by simpa using hi)]
  simp [e]
theorem tab_drop2 {c : Array Value} {i : Nat} {v u : Value} (h : c[2 * i]? = some v) (g : c[2 * i + 1]? = some u) : ∃ l, (c.toList.map TV.s).drop (i * 2) = .s v :: .s u :: l := by
  obtain ⟨hi, e⟩ := Array.getElem?_eq_some_iff.1 h
  obtain ⟨gi, e'⟩ := Array.getElem?_eq_some_iff.1 g
  refine ⟨(c.toList.map TV.s).drop (2 * i + 1 + 1), ?_⟩
  rw [Nat.mul_comm i 2, List.drop_eq_getElem_cons (by simpa using hi), List.drop_eq_getElem_cons (by simpa using gi)]
  simp [e, e']
theorem wi32 {n : Int} (h₀ : 0 ≤ n) (h₁ : n < 2147483648) : IntKind.i32.wrap n = n := by unfold IntKind.wrap; simp [IntKind.bits, IntKind.signed]; omega
theorem u8_and {n m k : Nat} (hk : (∀ x : _root_.Fin 256, Go.bits .and .u8 ((x.val : Nat) : Int) (m : Nat) = ((x.val % k : Nat) : Int))) (h : n < 256) : Go.bits .and .u8 ((n : Nat) : Int) (m : Nat) = ((n % k : Nat) : Int) := hk ⟨n, h⟩
theorem shl32 {a : Nat} {m : Nat} (h : a * 2 ^ m < 2147483648) (hm : m ≤ 32) : shlK .i32 ((a : Nat) : Int) (m : Nat) = ((a * 2 ^ m : Nat) : Int) := by
  unfold shlK
  rw [show min ((m : Nat) : Int).toNat IntKind.i32.bits = m by simp [IntKind.bits]; omega]
  have e : ((a : Nat) : Int) * 2 ^ m = ((a * 2 ^ m : Nat) : Int) := by simp
  rw [e, wi32 (by omega) (by omega)]
theorem or32 {x y : Nat} (s : Nat) (hs : s < 31) (hx : x % 2 ^ s = 0) (hx1 : x < 2147483648) (hy : y < 2 ^ s) : Go.bits .or .i32 ((x : Nat) : Int) ((y : Nat) : Int) = ((x + y : Nat) : Int) := by
  have hp : 2 ^ s ≤ 2 ^ 31 := Nat.pow_le_pow_right (by decide) (by omega)
  have := bits_join .i32 31 (by decide) (fun n h₀ h₁ => wi32 h₀ (by simpa using h₁)) s x y (by omega) (by rw [show ((2 : Int) ^ s) = ((2 ^ s : Nat) : Int) by simp]; omega) (by omega) (by omega) (by rw [show ((2 : Int) ^ s) = ((2 ^ s : Nat) : Int) by simp]; omega) (by omega)
  rw [this]; simp
theorem dec2 {x0 x1 : Nat} (h0 : x0 < 256) (h1 : x1 < 256) : Go.bits .or .i32 (shlK .i32 (IntKind.i32.wrap (Go.bits .and .u8 ((x0 : Nat) : Int) 31)) 6) (IntKind.i32.wrap (Go.bits .and .u8 ((x1 : Nat) : Int) 63)) = ((x0 % 32 * 64 + x1 % 64 : Nat) : Int) := by
  have a1 := u8_and (m := 31) (k := 32) (by decide +kernel) h0
  have a2 := u8_and (m := 63) (k := 64) (by decide +kernel) h1
  simp only [Int.cast_ofNat_Int] at a1 a2
  rw [a1, a2, wi32 (by omega) (by omega), wi32 (by omega) (by omega)]
  have b1 := shl32 (a := x0 % 32) (m := 6) (by omega) (by decide)
  simp only [Int.cast_ofNat_Int] at b1
  rw [b1, or32 6 (by decide) (by omega) (by omega) (by omega)]
theorem dec3 {x0 x1 x2 : Nat} (h0 : x0 < 256) (h1 : x1 < 256) (h2 : x2 < 256) : Go.bits .or .i32 (Go.bits .or .i32 (shlK .i32 (IntKind.i32.wrap (Go.bits .and .u8 ((x0 : Nat) : Int) 15)) 12) (shlK .i32 (IntKind.i32.wrap (Go.bits .and .u8 ((x1 : Nat) : Int) 63)) 6)) (IntKind.i32.wrap (Go.bits .and .u8 ((x2 : Nat) : Int) 63)) = ((x0 % 16 * 4096 + x1 % 64 * 64 + x2 % 64 : Nat) : Int) := by
  have a1 := u8_and (m := 15) (k := 16) (by decide +kernel) h0
  have a2 := u8_and (m := 63) (k := 64) (by decide +kernel) h1
  have a3 := u8_and (m := 63) (k := 64) (by decide +kernel) h2
  simp only [Int.cast_ofNat_Int] at a1 a2 a3
  rw [a1, a2, a3, wi32 (by omega) (by omega), wi32 (by omega) (by omega), wi32 (by omega) (by omega)]
  have b1 := shl32 (a := x0 % 16) (m := 12) (by omega) (by decide)
  have b2 := shl32 (a := x1 % 64) (m := 6) (by omega) (by decide)
  simp only [Int.cast_ofNat_Int] at b1 b2
  rw [b1, b2, or32 12 (by decide) (by omega) (by omega) (by omega), or32 6 (by decide) (by omega) (by omega) (by omega)]
theorem dec4 {x0 x1 x2 x3 : Nat} (h0 : x0 < 256) (h1 : x1 < 256) (h2 : x2 < 256) (h3 : x3 < 256) : Go.bits .or .i32 (Go.bits .or .i32 (Go.bits .or .i32 (shlK .i32 (IntKind.i32.wrap (Go.bits .and .u8 ((x0 : Nat) : Int) 7)) 18) (shlK .i32 (IntKind.i32.wrap (Go.bits .and .u8 ((x1 : Nat) : Int) 63)) 12)) (shlK .i32 (IntKind.i32.wrap (Go.bits .and .u8 ((x2 : Nat) : Int) 63)) 6)) (IntKind.i32.wrap (Go.bits .and .u8 ((x3 : Nat) : Int) 63)) = ((x0 % 8 * 262144 + x1 % 64 * 4096 + x2 % 64 * 64 + x3 % 64 : Nat) : Int) := by
  have a1 := u8_and (m := 7) (k := 8) (by decide +kernel) h0
  have a2 := u8_and (m := 63) (k := 64) (by decide +kernel) h1
  have a3 := u8_and (m := 63) (k := 64) (by decide +kernel) h2
  have a4 := u8_and (m := 63) (k := 64) (by decide +kernel) h3
  simp only [Int.cast_ofNat_Int] at a1 a2 a3 a4
  rw [a1, a2, a3, a4, wi32 (by omega) (by omega), wi32 (by omega) (by omega), wi32 (by omega) (by omega), wi32 (by omega) (by omega)]
  have b1 := shl32 (a := x0 % 8) (m := 18) (by omega) (by decide)
  have b2 := shl32 (a := x1 % 64) (m := 12) (by omega) (by decide)
  have b3 := shl32 (a := x2 % 64) (m := 6) (by omega) (by decide)
  simp only [Int.cast_ofNat_Int] at b1 b2 b3
  rw [b1, b2, b3, or32 18 (by decide) (by omega) (by omega) (by omega), or32 12 (by decide) (by omega) (by omega) (by omega), or32 6 (by decide) (by omega) (by omega) (by omega)]
theorem keep240 {x : Nat} (h : x < 256) : Go.bits .or .i32 (Go.bits .andNot .i32 (IntKind.i32.wrap ((x : Nat) : Int)) (shrK .i32 (shlK .i32 (IntKind.i32.wrap 240) 31) 31)) (Go.bits .and .i32 65533 (shrK .i32 (shlK .i32 (IntKind.i32.wrap 240) 31) 31)) = ((x : Nat) : Int) := by
  have k : ∀ x : _root_.Fin 256, Go.bits .or .i32 (Go.bits .andNot .i32 (IntKind.i32.wrap ((x.val : Nat) : Int)) (shrK .i32 (shlK .i32 (IntKind.i32.wrap 240) 31) 31)) (Go.bits .and .i32 65533 (shrK .i32 (shlK .i32 (IntKind.i32.wrap 240) 31) 31)) = ((x.val : Nat) : Int) := by decide +kernel
  exact k ⟨x, h⟩
theorem drop241 {x : Nat} (h : x < 256) : Go.bits .or .i32 (Go.bits .andNot .i32 (IntKind.i32.wrap ((x : Nat) : Int)) (shrK .i32 (shlK .i32 (IntKind.i32.wrap 241) 31) 31)) (Go.bits .and .i32 65533 (shrK .i32 (shlK .i32 (IntKind.i32.wrap 241) 31) 31)) = 65533 := by
  have k : ∀ x : _root_.Fin 256, Go.bits .or .i32 (Go.bits .andNot .i32 (IntKind.i32.wrap ((x.val : Nat) : Int)) (shrK .i32 (shlK .i32 (IntKind.i32.wrap 241) 31) 31)) (Go.bits .and .i32 65533 (shrK .i32 (shlK .i32 (IntKind.i32.wrap 241) 31) 31)) = 65533 := by decide +kernel
  exact k ⟨x, h⟩
theorem u8_and7 (f : Nat) (h : f < 256) : Go.bits .and .u8 ((f : Nat) : Int) 7 = ((f % 8 : Nat) : Int) := u8_and (m := 7) (k := 8) (by decide +kernel) h
theorem u8_shr4 (f : Nat) : shrK .u8 ((f : Nat) : Int) 4 = ((f / 16 : Nat) : Int) := by
  unfold shrK
  rw [show min (4 : Int).toNat IntKind.u8.bits = 4 from rfl, Int.fdiv_eq_ediv_of_nonneg _ (by decide)]
  omega
theorem dslow_c {G : Heap} (g : GH G) (hs : Sub G H) {s : ByteArray} : AC Tryd.prog 85 [.s (.string s)] H (fun r H' => r = .tup [.s (.int .i32 (Lib.decodeGo s).1), .s (.int .i64 (Lib.decodeGo s).2)] ∧ H' = H) := by
  refine AC.body Tryd.func85 rfl rfl (n := 117) (res := [.tmp 2, .tmp 3]) rfl rfl (by simp) ?_
  simp only [ent]
  by_cases h0 : s.size = 0
  · have e : Lib.decodeGo s = (65533, 0) := if_pos h0
    rw [e]
    have z : decide ((s.size : Int) < 1) = true := by simp; omega
    (repeat' (first | refine wk ?_ | refine wk2 ?_ ?_ | with_reducible refine wkF fun _ _ _ => ?_ | with_reducible intro _ | exact ag | fail))
    exact fin0
  · have z : decide ((s.size : Int) < 1) = false := by simp; omega
    have p0 : 0 < s.size := by omega
    obtain ⟨c1, e1, z1, hG1, t1⟩ := g.first
    obtain ⟨c2, e2, z2, hG2, t2⟩ := g.acc
    have k1 := hs _ _ hG1
    have k2 := hs _ _ hG2
    have hdec : Lib.decodeGo s = Lib.decodeN s.size (s.get! 0).toNat (s.get! 1).toNat (s.get! 2).toNat (s.get! 3).toNat := by
      unfold Lib.decodeGo
      rw [if_neg h0, Lib.decode_at, Nat.sub_zero, Nat.zero_add, Nat.zero_add, Nat.zero_add]
    have l0 : (s.get! 0).toNat < 256 := (s.get! 0).toNat_lt
    have l1 : (s.get! 1).toNat < 256 := (s.get! 1).toNat_lt
    have l2 : (s.get! 2).toNat < 256 := (s.get! 2).toNat_lt
    have l3 : (s.get! 3).toNat < 256 := (s.get! 3).toNat_lt
    have hx0 : indexA Tryd.prog 9 (.s (.string s)) (.s (.int .i64 0)) = some (.s (.int .u8 ((s.get! 0).toNat : Nat))) := ix_get rfl (by decide) p0
    have hx1 : 1 < s.size → indexA Tryd.prog 9 (.s (.string s)) (.s (.int .i64 1)) = some (.s (.int .u8 ((s.get! 1).toNat : Nat))) := fun h => ix_get rfl (by decide) h
    have hx2 : 2 < s.size → indexA Tryd.prog 9 (.s (.string s)) (.s (.int .i64 2)) = some (.s (.int .u8 ((s.get! 2).toNat : Nat))) := fun h => ix_get rfl (by decide) h
    have hx3 : 3 < s.size → indexA Tryd.prog 9 (.s (.string s)) (.s (.int .i64 3)) = some (.s (.int .u8 ((s.get! 3).toNat : Nat))) := fun h => ix_get rfl (by decide) h
    obtain ⟨r1, d1⟩ := tab_drop (t1 _ l0)
    rw [hdec]
    clear hG1 hG2 t1 hdec h0 g hs
    generalize (s.get! 0).toNat = x0 at *
    generalize (s.get! 1).toNat = x1 at *
    generalize (s.get! 2).toNat = x2 at *
    generalize (s.get! 3).toNat = x3 at *
    have i0 : (x0 : Int) < 256 := by omega
    by_cases hf : Lib.firstT x0 < 240
    · obtain ⟨t3, t4⟩ := t2 (Lib.firstT x0 / 16) (by omega)
      obtain ⟨r3, d2⟩ := tab_drop2 t3 t4
      rw [← Lib.slow_eq _ _ _ _ _ p0 l1 l2 l3 hf]
      have hsz : 2 ≤ Lib.firstT x0 % 8 ∧ Lib.firstT x0 % 8 ≤ 4 := by
        rcases Lib.firstT_cases x0 with h | h | h | h | h | h | h | h | h <;> rw [h] at hf ⊢ <;> first | exact ⟨by decide, by decide⟩ | exact absurd hf (by decide)
      clear t2 t3 t4
      have qa := u8_and7 (Lib.firstT x0) (by omega)
      have qs := u8_shr4 (Lib.firstT x0)
      generalize Lib.firstT x0 = f at *
      generalize Lib.accLo (f / 16) = lo at *
      generalize Lib.accHi (f / 16) = hi at *
      have q1 : decide ((240 : Int) ≤ (f : Nat)) = false := by simp; omega
      have q2 : ((f / 16 : Nat) : Int) < 16 := by omega
      have q3 : (0 : Int) ≤ ((f / 16 : Nat) : Int) := by omega
      clear hf
      generalize f / 16 = fi at *
      generalize f % 8 = sz at *
      have q4 : IntKind.i64.wrap (sz : Nat) = (sz : Nat) := by rw [wi64 (by omega) (by omega)]
      unfold Lib.slowN
      by_cases b1 : s.size < sz
      · rw [if_pos b1]
        have g1 : decide ((s.size : Int) < (sz : Nat)) = true := by simp; omega
        clear hx1 hx2 hx3
        (repeat' (first | refine wk ?_ | refine wk2 ?_ ?_ | with_reducible refine wkF fun _ _ _ => ?_ | with_reducible intro _ | exact ag | fail))
        exact fin0
      rw [if_neg b1]
      have g1 : decide ((s.size : Int) < (sz : Nat)) = false := by simp; omega
      replace hx1 := hx1 (by omega)
      by_cases b2 : x1 < lo ∨ hi < x1
      · rw [if_pos b2]
        clear hx2 hx3
        by_cases b3 : x1 < lo
        · have g2 : decide (((x1 : Nat) : Int) < (lo : Nat)) = true := by simp; omega
          (repeat' (first | refine wk ?_ | refine wk2 ?_ ?_ | with_reducible refine wkF fun _ _ _ => ?_ | with_reducible intro _ | exact ag | fail))
          exact fin0
        · have g2 : decide (((x1 : Nat) : Int) < (lo : Nat)) = false := by simp; omega
          have g3 : decide (((hi : Nat) : Int) < (x1 : Nat)) = true := by simp; omega
          (repeat' (first | refine wk ?_ | refine wk2 ?_ ?_ | with_reducible refine wkF fun _ _ _ => ?_ | with_reducible intro _ | exact ag | fail))
          exact fin0
      rw [if_neg b2]
      have g2 : decide (((x1 : Nat) : Int) < (lo : Nat)) = false := by simp; omega
      have g3 : decide (((hi : Nat) : Int) < (x1 : Nat)) = false := by simp; omega
      by_cases b4 : sz ≤ 2
      · rw [if_pos b4]
        have g4 : decide (((sz : Nat) : Int) ≤ 2) = true := by simp; omega
        clear hx2 hx3
        (repeat' (first | refine wk ?_ | refine wk2 ?_ ?_ | with_reducible refine wkF fun _ _ _ => ?_ | with_reducible intro _ | exact ag | fail))
        refine fin1 ⟨?_, rfl⟩
        simp only [resV]
        rw [dec2 l0 l1]
      rw [if_neg b4]
      have g4 : decide (((sz : Nat) : Int) ≤ 2) = false := by simp; omega
      replace hx2 := hx2 (by omega)
      by_cases b5 : x2 < 128 ∨ 191 < x2
      · rw [if_pos b5]
        clear hx3
        by_cases b6 : x2 < 128
        · have g5 : decide (((x2 : Nat) : Int) < 128) = true := by simp; omega
          (repeat' (first | refine wk ?_ | refine wk2 ?_ ?_ | with_reducible refine wkF fun _ _ _ => ?_ | with_reducible intro _ | exact ag | fail))
          exact fin0
        · have g5 : decide (((x2 : Nat) : Int) < 128) = false := by simp; omega
          have g6 : decide ((191 : Int) < (x2 : Nat)) = true := by simp; omega
          (repeat' (first | refine wk ?_ | refine wk2 ?_ ?_ | with_reducible refine wkF fun _ _ _ => ?_ | with_reducible intro _ | exact ag | fail))
          exact fin0
      rw [if_neg b5]
      have g5 : decide (((x2 : Nat) : Int) < 128) = false := by simp; omega
      have g6 : decide ((191 : Int) < (x2 : Nat)) = false := by simp; omega
      by_cases b7 : sz ≤ 3
      · rw [if_pos b7]
        have g7 : decide (((sz : Nat) : Int) ≤ 3) = true := by simp; omega
        clear hx3
        (repeat' (first | refine wk ?_ | refine wk2 ?_ ?_ | with_reducible refine wkF fun _ _ _ => ?_ | with_reducible intro _ | exact ag | fail))
        refine fin1 ⟨?_, rfl⟩
        simp only [resV]
        rw [dec3 l0 l1 l2]
      rw [if_neg b7]
      have g7 : decide (((sz : Nat) : Int) ≤ 3) = false := by simp; omega
      replace hx3 := hx3 (by omega)
      by_cases b8 : x3 < 128 ∨ 191 < x3
      · rw [if_pos b8]
        by_cases b9 : x3 < 128
        · have g8 : decide (((x3 : Nat) : Int) < 128) = true := by simp; omega
          (repeat' (first | refine wk ?_ | refine wk2 ?_ ?_ | with_reducible refine wkF fun _ _ _ => ?_ | with_reducible intro _ | exact ag | fail))
          exact fin0
        · have g8 : decide (((x3 : Nat) : Int) < 128) = false := by simp; omega
          have g9 : decide ((191 : Int) < (x3 : Nat)) = true := by simp; omega
          (repeat' (first | refine wk ?_ | refine wk2 ?_ ?_ | with_reducible refine wkF fun _ _ _ => ?_ | with_reducible intro _ | exact ag | fail))
          exact fin0
      rw [if_neg b8]
      have g8 : decide (((x3 : Nat) : Int) < 128) = false := by simp; omega
      have g9 : decide ((191 : Int) < (x3 : Nat)) = false := by simp; omega
      (repeat' (first | refine wk ?_ | refine wk2 ?_ ?_ | with_reducible refine wkF fun _ _ _ => ?_ | with_reducible intro _ | exact ag | fail))
      refine fin1 ⟨?_, rfl⟩
      simp only [resV]
      rw [dec4 l0 l1 l2 l3]
    · have hf2 : Lib.firstT x0 = 240 ∨ Lib.firstT x0 = 241 := by
        rcases Lib.firstT_cases x0 with h | h | h | h | h | h | h | h | h
        · exact .inl h
        · exact .inr h
        all_goals (exfalso; rw [h] at hf; exact hf (by decide))
      clear hx1 hx2 hx3 l1 l2 l3 hf t2 k2
      rcases hf2 with hf | hf
      · rw [hf] at d1
        have hd : Lib.decodeN s.size x0 x1 x2 x3 = (x0, 1) := by
          unfold Lib.firstT at hf
          unfold Lib.decodeN
          have h1 : x0 < 128 := by
            rcases Nat.lt_or_ge x0 128 with c | c
            · exact c
            · exfalso
              rw [if_neg (by omega)] at hf
              repeat' split at hf
              all_goals omega
          rw [if_pos h1]
        rw [hd]
        clear hd hf
        (repeat' (first | refine wk ?_ | refine wk2 ?_ ?_ | with_reducible refine wkF fun _ _ _ => ?_ | with_reducible intro _ | exact ag | fail))
        refine fin1 ⟨?_, rfl⟩
        simp only [resV]
        rw [keep240 l0]
      · rw [hf] at d1
        have hd : Lib.decodeN s.size x0 x1 x2 x3 = (65533, 1) := by
          have h2 : ¬ x0 < 128 ∧ (x0 < 194 ∨ 245 ≤ x0) := by
            unfold Lib.firstT at hf
            repeat' split at hf
            all_goals omega
          unfold Lib.decodeN
          repeat' split
          all_goals first | rfl | (exfalso; omega)
        rw [hd]
        clear hd hf
        (repeat' (first | refine wk ?_ | refine wk2 ?_ ?_ | with_reducible refine wkF fun _ _ _ => ?_ | with_reducible intro _ | exact ag | fail))
        refine fin1 ⟨?_, rfl⟩
        simp only [resV]
        rw [drop241 l0]
theorem dru_c {G : Heap} (g : GH G) (hs : Sub G H) {s : ByteArray} : AC Tryd.prog 73 [.s (.string s)] H (fun r H' => r = .tup [.s (.int .i32 (Lib.decodeGo s).1), .s (.int .i64 (Lib.decodeGo s).2)] ∧ H' = H) := by
  refine AC.body Tryd.func73 rfl rfl (n := 19) (res := [.tmp 2, .tmp 3]) rfl rfl (by simp) ?_
  simp only [ent]
  have D := fun (s : ByteArray) => dslow_c g hs (s := s)
  by_cases h0 : s.size = 0
  · have z : (s.size != 0) = false := by simp [h0]
    have z2 : (s.size == 0) = true := by simp [h0]
    (repeat' (first | refine wk ?_ | refine wk2 ?_ ?_ | with_reducible refine wkF fun _ _ _ => ?_ | with_reducible intro _ | refine Calling.eq (D _) ?_ | exact ag | fail))
    exact fin0
  · have z : (s.size != 0) = true := by simp [h0]
    have z2 : (s.size == 0) = false := by simp [h0]
    have hx0 : indexA Tryd.prog 9 (.s (.string s)) (.s (.int .i64 0)) = some (.s (.int .u8 ((s.get! 0).toNat : Nat))) := ix_get rfl (by decide) (show 0 < s.size by omega)
    have l0 : (s.get! 0).toNat < 256 := (s.get! 0).toNat_lt
    by_cases h1 : (s.get! 0).toNat < 128
    · have hd : Lib.decodeGo s = ((s.get! 0).toNat, 1) := by
        unfold Lib.decodeGo
        rw [if_neg h0, Lib.decode_at]
        unfold Lib.decodeN
        rw [if_pos h1]
      have g1 : decide ((((s.get! 0).toNat : Nat) : Int) < 128) = true := by simp; omega
      rw [hd]
      have hw := wi32 (n := ((s.get! 0).toNat : Nat)) (by omega) (by omega)
      clear hd D h0
      generalize (s.get! 0).toNat = x0 at *
      (repeat' (first | refine wk ?_ | refine wk2 ?_ ?_ | with_reducible refine wkF fun _ _ _ => ?_ | with_reducible intro _ | exact ag | fail))
      exact fin0
    · have g1 : decide ((((s.get! 0).toNat : Nat) : Int) < 128) = false := by simp; omega
      clear h0
      generalize (s.get! 0).toNat = x0 at *
      (repeat' (first | refine wk ?_ | refine wk2 ?_ ?_ | with_reducible refine wkF fun _ _ _ => ?_ | with_reducible intro _ | refine Calling.eq (D _) ?_ | exact ag | fail))
      exact fin0
theorem stem_c {G : Heap} (g : GH G) (hs : Sub G H) {s : ByteArray} : AC Tryd.prog 55 [.s (.string s)] H (fun r H' => r = .s (.bool (stem s)) ∧ H' = H) := by
  refine AC.body Tryd.func55 rfl rfl (n := 47) (res := [.tmp 2]) rfl rfl (by simp) ?_
  simp only [ent]
  (repeat' (first | refine wk ?_ | refine wk2 ?_ ?_ | with_reducible refine wkF fun _ _ _ => ?_ | with_reducible intro _ | refine Doing.fresh (oc_range_str (by simp only [go_sem])) fun _ _ _ => ?_ | exact ag | fail))
  rename_i b hb hne
  have D := fun (s : ByteArray) (r : Root) => dru_c (H := upd H b r) g (Sub.upd hs (hs.none hb)) (s := s)
  refine ARun.rounds (fun st : Nat × Nat => ⟨[(0, .s (.string s)), (9, .s (.pointer (some ⟨b, 0, none⟩)))], upd H b (.strIter s st.2)⟩) (fun st => st.1) (fun st => s.size ≤ st.2 + st.1 ∧ stemFrom s st.1 st.2 = stem s) ?_ (s.size, 0) ⟨by simp, rfl⟩ ?_
  · rintro ⟨f, p⟩ ⟨hf, hr⟩ next
    simp only [] at hf hr ⊢
    by_cases hp : p < s.size
    · obtain ⟨f, rfl⟩ : ∃ g, f = g + 1 := ⟨f - 1, by omega⟩
      have hw := Nm.width_pos s p
      rw [stemFrom, if_pos hp] at hr
      have hp0 : (0 : Int) ≤ p := by omega
      have hp1 : (p : Int) ≤ s.size := by omega
      obtain ⟨c, hc⟩ : ∃ c : Int, ((Utf8.decode s p).1 : Int) = c := ⟨_, rfl⟩
      have key : ∀ v : Bool, badAt s p = v → (v = true → stem s = false) ∧ (v = false → stemFrom s f (p + (Utf8.decode s p).2) = stem s) := fun v hv => by
        rw [hv] at hr
        cases v
        · exact ⟨fun h => Bool.noConfusion h, fun _ => by simpa using hr⟩
        · exact ⟨fun _ => by simpa using hr.symm, fun h => Bool.noConfusion h⟩
      replace key := later key
      clear hr
      have leaf : ∀ W : Bool, wrongAt s p = W → badAt s p = (!(letter c W) && (((p : Int) == 0) || ((c != 95) && (decide (c < 48) || decide (57 < c))))) := fun W hW => by
        unfold badAt; rw [hc, hW]
        have e1 : (((p : Int) == 0)) = decide (p = 0) := by rw [Bool.eq_iff_iff]; simp
        have e2 : (c != 95) = !decide (c = 95) := by rw [Bool.eq_iff_iff]; simp
        rw [e1, e2]
      by_cases hu : c = 65533
      · have hu' : (c == 65533) = true := by simpa using hu
        have hW : wrongAt s p = (((Lib.decodeGo (s.extract p s.size)).2 : Int) == 1) := by
          unfold wrongAt; rw [hc, hu]; rw [Bool.eq_iff_iff]; simp; omega
        have leaf := later (leaf _ hW)
        clear hW hu
        (repeat' (first | refine wk ?_ | refine wk2 ?_ ?_ | with_reducible refine wkF fun _ _ _ => ?_ | with_reducible intro _ | refine Doing.eq (oc_next_at (upd_self _ _ _) hp) ?_ | refine Calling.eq (D _ _) ?_ | refine Calling.eq (letter_c) ?_ | exact ag | fail))
        all_goals
          have leaf := leaf.go
          first
            | (refine fin1 ⟨?_, rfl⟩; simp only [resV]; rw [(key.go true (by rw [leaf]; simp only [*, Bool.true_and, Bool.false_and, Bool.and_true, Bool.and_false, Bool.true_or, Bool.false_or, Bool.or_true, Bool.or_false, Bool.not_true, Bool.not_false])).1 rfl])
            | exact ARun.weaken (next.go (f, p + (Utf8.decode s p).2) ⟨by simp only []; omega, (key.go false (by rw [leaf]; simp only [*, Bool.true_and, Bool.false_and, Bool.and_true, Bool.and_false, Bool.true_or, Bool.false_or, Bool.or_true, Bool.or_false, Bool.not_true, Bool.not_false])).2 rfl⟩ (by simp only []; omega)) (leK (Sub.refl _))
      · have hu' : (c == 65533) = false := by simpa using hu
        have hW : wrongAt s p = false := by
          unfold wrongAt; rw [hc]; simp [hu]
        have leaf := later (leaf _ hW)
        clear hW hu
        (repeat' (first | refine wk ?_ | refine wk2 ?_ ?_ | with_reducible refine wkF fun _ _ _ => ?_ | with_reducible intro _ | refine Doing.eq (oc_next_at (upd_self _ _ _) hp) ?_ | refine Calling.eq (D _ _) ?_ | refine Calling.eq (letter_c) ?_ | exact ag | fail))
        all_goals
          have leaf := leaf.go
          first
            | (refine fin1 ⟨?_, rfl⟩; simp only [resV]; rw [(key.go true (by rw [leaf]; simp only [*, Bool.true_and, Bool.false_and, Bool.and_true, Bool.and_false, Bool.true_or, Bool.false_or, Bool.or_true, Bool.or_false, Bool.not_true, Bool.not_false])).1 rfl])
            | exact ARun.weaken (next.go (f, p + (Utf8.decode s p).2) ⟨by simp only []; omega, (key.go false (by rw [leaf]; simp only [*, Bool.true_and, Bool.false_and, Bool.and_true, Bool.and_false, Bool.true_or, Bool.false_or, Bool.or_true, Bool.or_false, Bool.not_true, Bool.not_false])).2 rfl⟩ (by simp only []; omega)) (leK (Sub.refl _))
    · rw [stemFrom_end s f p hp] at hr
      have hz : (!(s.size == 0)) = stem s := by
        rw [← hr]; congr 1
        rw [Bool.eq_iff_iff, beq_iff_eq, List.isEmpty_iff, ← List.length_eq_zero_iff, ← Lib.size_eq]
      clear hr
      (repeat' (first | refine wk ?_ | refine wk2 ?_ ?_ | with_reducible refine wkF fun _ _ _ => ?_ | with_reducible intro _ | refine Doing.eq (oc_next_end (upd_self _ _ _) hp) ?_ | exact ag | fail))
      exact fin0
  · exact leK (Sub.refl _)
end Go.Abs
/- Names: splitting and checking, as the program does. -/
namespace Go.Abs
set_option linter.unusedSimpArgs false
set_option linter.unusedVariables false
set_option maxHeartbeats 4000000
open Go.Proofs Go.Nm Go.RowKit
set_option linter.unusedVariables false
set_option maxRecDepth 8000
variable {H : Heap}
theorem idx_spec (s : ByteArray) : (Nm.has s = false ∧ Nm.cutA s = s ∧ cutB s = ⟨#[]⟩ ∧ Lib.indexByte s.data.toList 64 = -1) ∨
    ∃ j : Nat, j < s.size ∧ Nm.has s = true ∧ Nm.cutA s = s.extract 0 j ∧ cutB s = s.extract (j + 1) s.size ∧ Lib.indexByte s.data.toList 64 = j := by
  rw [← Lib.index_one]
  rcases Lib.index_spec s.data.toList [64] with ⟨h1, h2⟩ | ⟨j, h1, h2, h3, h4⟩
  · refine .inl ⟨?_, ?_, ?_, h1⟩
    · unfold has Lib.cut; rw [h1]; rfl
    · unfold Nm.cutA Lib.cut; rw [h1]; cases s; rfl
    · unfold cutB Lib.cut; rw [h1]; rfl
  · have hlt : j < s.size := by
      rw [occ_one] at h3
      have h5 := of_decide_eq_true h3
      rw [Lib.size_eq]
      exact (List.getElem?_eq_some_iff.1 h5).1
    have hi : (0 : Int) ≤ Lib.index s.data.toList [64] := by rw [h1]; omega
    refine .inr ⟨j, hlt, ?_, ?_, ?_, h1⟩
    · unfold has Lib.cut; rw [if_pos hi]
    · unfold Nm.cutA Lib.cut; rw [if_pos hi, h1]
      apply ba_ext
      rw [Lib.extract_data]
      simp
    · unfold cutB Lib.cut; rw [if_pos hi, h1]
      apply ba_ext
      rw [Lib.extract_data]
      have hz := Lib.size_eq s
      simp only [Int.toNat_natCast, List.length_cons, List.length_nil]
      rw [List.take_of_length_le (by simp only [List.length_drop]; omega)]
theorem index1_c {s : ByteArray} : AC Tryd.prog 84 [.s (.string s), .s (.string ⟨#[64]⟩)] H (fun r H' => r = .s (.int .i64 (Lib.indexByte s.data.toList 64)) ∧ H' = H) :=
  AC.of_calls (vs := [.string s, .string ⟨#[64]⟩]) Tryd.func84 rfl rfl fun w hw => (Tryd.stringslite_Index_one s 64 w).mono fun e w' ⟨he, hw'⟩ => ⟨he, hw' ▸ Below.refl _ _, hw' ▸ Nat.le_refl _⟩
/-- A text that fits in memory. -/
def fits (s : ByteArray) : Prop := s.size < 9223372036854775808
theorem lcut_c {s : ByteArray} (hs : fits s) : AC Tryd.prog 72 [.s (.string s), .s (.string ⟨#[64]⟩)] H (fun r H' => r = .tup [.s (.string (Nm.cutA s)), .s (.string (cutB s)), .s (.bool (Nm.has s))] ∧ H' = H) := by
  refine AC.body Tryd.func72 rfl rfl (n := 23) (res := [.tmp 4, .tmp 5, .tmp 6]) rfl rfl (by simp) ?_
  simp only [ent]
  have I := fun H => index1_c (H := H) (s := s)
  unfold fits at hs
  rcases idx_spec s with ⟨h1, h2, h3, h4⟩ | ⟨j, hj, h1, h2, h3, h4⟩
  · rw [h1, h2, h3]
    rw [h4] at I
    clear h1 h2 h3 h4
    (repeat' (first | refine wk ?_ | refine wk2 ?_ ?_ | with_reducible refine wkF fun _ _ _ => ?_ | with_reducible intro _ | refine Calling.eq (I _) ?_ | exact ag | fail))
    exact fin0
  · rw [h1, h2, h3]
    rw [h4] at I
    clear h1 h2 h3 h4
    have e1 : (0 : Int) ≤ j := by omega
    have e2 : (j : Int) ≤ s.size := by omega
    have e0 : ((#[64] : Array UInt8).size : Int) = 1 := rfl
    have e3 : IntKind.i64.wrap ((j : Int) + 1) = ((j + 1 : Nat) : Int) := by rw [wi64 (by omega) (by omega)]; simp
    have e5 : (0 : Int) ≤ ((j + 1 : Nat) : Int) := by omega
    have e4 : ((j + 1 : Nat) : Int) ≤ s.size := by omega
    (repeat' (first | refine wk ?_ | refine wk2 ?_ ?_ | with_reducible refine wkF fun _ _ _ => ?_ | with_reducible intro _ | refine Calling.eq (I _) ?_ | exact ag | fail))
    refine ARun.drawB mixed [([], [0, 1, 2, 3, 4, 5, 6, 7, 8, 9, 10, 11], none)] (by kernel_rfl) (by rfl) ?_
    (repeat' (first | refine wk ?_ | refine wk2 ?_ ?_ | with_reducible refine wkF fun _ _ _ => ?_ | with_reducible intro _ | exact ag | fail))
    exact fin0
theorem scut_c {s : ByteArray} (hs : fits s) : AC Tryd.prog 53 [.s (.string s), .s (.string ⟨#[64]⟩)] H (fun r H' => r = .tup [.s (.string (Nm.cutA s)), .s (.string (cutB s)), .s (.bool (Nm.has s))] ∧ H' = H) := by
  refine AC.body Tryd.func53 rfl rfl (n := 13) (res := [.tmp 4, .tmp 5, .tmp 6]) rfl rfl (by simp) ?_
  simp only [ent]
  (repeat' (first | refine wk ?_ | refine wk2 ?_ ?_ | with_reducible refine wkF fun _ _ _ => ?_ | with_reducible intro _ | refine Calling.eq (lcut_c hs) ?_ | exact ag | fail))
  exact fin0
theorem split_c {G : Heap} (g : GH G) (hs : Sub G H) {s : ByteArray} (hf : fits s) : AC Tryd.prog 43 [.s (.string s)] H (fun r H' => r = .tup [.s (.string (splitR s).1), .s (.int .i64 (splitR s).2.1), .s (.int .i64 (splitR s).2.2)] ∧ H' = H) := by
  refine AC.body Tryd.func43 rfl rfl (n := 34) (res := [.tmp 2, .tmp 3, .tmp 4]) rfl rfl (by simp) ?_
  simp only [ent]
  have S := fun (H : Heap) (hs : Sub G H) => stem_c (H := H) g hs (s := Nm.cutA s)
  have hz : Nm.has s = false → ver (cutB s) = 0 := ver_none s
  by_cases h : chk s = 0
  · have e : splitR s = (Nm.cutA s, ver (cutB s), 0) := by unfold splitR; rw [if_pos h]
    rw [e]
    clear e
    have h1 : stem (Nm.cutA s) = true := by unfold chk okN at h; cases hc : stem (Nm.cutA s) <;> simp [hc] at h ⊢
    have h2 : (Nm.has s && (ver (cutB s) == 0)) = false := by unfold chk okN at h; cases hc : Nm.has s <;> cases hd : (ver (cutB s) == 0) <;> simp_all
    have h3 : decide (24 < runes s) = false := by unfold chk at h; split at h <;> first | omega | (split at h <;> simp_all)
    clear h hz
    cases h4 : Nm.has s with
    | true =>
      rw [h4] at h2
      simp only [Bool.true_and] at h2
      (repeat' (first | refine wk ?_ | refine wk2 ?_ ?_ | with_reducible refine wkF fun _ _ _ => ?_ | with_reducible intro _ | refine Calling.eq (scut_c hf) ?_ | refine Calling.eq (version_c) ?_ | refine Calling.eq (S _ (by assumption)) ?_ | refine Calling.eq (runes_c) ?_ | exact ag | fail))
      exact fin0
    | false =>
      clear h2
      (repeat' (first | refine wk ?_ | refine wk2 ?_ ?_ | with_reducible refine wkF fun _ _ _ => ?_ | with_reducible intro _ | refine Calling.eq (scut_c hf) ?_ | refine Calling.eq (version_c) ?_ | refine Calling.eq (S _ (by assumption)) ?_ | refine Calling.eq (runes_c) ?_ | exact ag | fail))
      exact fin0
  · have e : splitR s = (⟨#[]⟩, 0, chk s) := by unfold splitR; rw [if_neg h]
    rw [e]
    clear e
    by_cases ho : okN s = false
    · have hc : chk s = 6 := by unfold chk; rw [if_pos ho]
      rw [hc]
      clear hc h
      cases h1 : stem (Nm.cutA s) with
      | false =>
        clear ho hz
        (repeat' (first | refine wk ?_ | refine wk2 ?_ ?_ | with_reducible refine wkF fun _ _ _ => ?_ | with_reducible intro _ | refine Calling.eq (scut_c hf) ?_ | refine Calling.eq (version_c) ?_ | refine Calling.eq (S _ (by assumption)) ?_ | refine Calling.eq (runes_c) ?_ | exact ag | fail))
        exact fin0
      | true =>
        have h2 : Nm.has s = true ∧ (ver (cutB s) == 0) = true := by unfold okN at ho; cases hc : Nm.has s <;> cases hd : (ver (cutB s) == 0) <;> simp_all
        obtain ⟨h2, h3⟩ := h2
        clear ho hz
        (repeat' (first | refine wk ?_ | refine wk2 ?_ ?_ | with_reducible refine wkF fun _ _ _ => ?_ | with_reducible intro _ | refine Calling.eq (scut_c hf) ?_ | refine Calling.eq (version_c) ?_ | refine Calling.eq (S _ (by assumption)) ?_ | refine Calling.eq (runes_c) ?_ | exact ag | fail))
        exact fin0
    · have ho : okN s = true := by simpa using ho
      have hc : chk s = 5 ∧ 24 < runes s := by unfold chk at h ⊢; simp [ho] at h ⊢; omega
      obtain ⟨hc, h3⟩ := hc
      rw [hc]
      clear hc h
      have h1 : stem (Nm.cutA s) = true := by unfold okN at ho; cases hc : stem (Nm.cutA s) <;> simp [hc] at ho ⊢
      have h2 : (Nm.has s && (ver (cutB s) == 0)) = false := by unfold okN at ho; cases hc : Nm.has s <;> cases hd : (ver (cutB s) == 0) <;> simp_all
      clear ho hz
      cases h4 : Nm.has s with
      | true =>
        rw [h4] at h2
        simp only [Bool.true_and] at h2
        (repeat' (first | refine wk ?_ | refine wk2 ?_ ?_ | with_reducible refine wkF fun _ _ _ => ?_ | with_reducible intro _ | refine Calling.eq (scut_c hf) ?_ | refine Calling.eq (version_c) ?_ | refine Calling.eq (S _ (by assumption)) ?_ | refine Calling.eq (runes_c) ?_ | exact ag | fail))
        exact fin0
      | false =>
        clear h2
        (repeat' (first | refine wk ?_ | refine wk2 ?_ ?_ | with_reducible refine wkF fun _ _ _ => ?_ | with_reducible intro _ | refine Calling.eq (scut_c hf) ?_ | refine Calling.eq (version_c) ?_ | refine Calling.eq (S _ (by assumption)) ?_ | refine Calling.eq (runes_c) ?_ | exact ag | fail))
        exact fin0
theorem check_c {G : Heap} (g : GH G) (hs : Sub G H) {s : ByteArray} (hf : fits s) : AC Tryd.prog 25 [.s (.string s)] H (fun r H' => r = .s (.int .i64 (chk s)) ∧ H' = H) := by
  refine AC.body Tryd.func25 rfl rfl (n := 13) (res := [.tmp 2]) rfl rfl (by simp) ?_
  simp only [ent]
  have h := splitR_e s
  have S := split_c (H := H) g hs hf
  rw [h] at S
  clear h
  (repeat' (first | refine wk ?_ | refine wk2 ?_ ?_ | with_reducible refine wkF fun _ _ _ => ?_ | with_reducible intro _ | refine Calling.eq (S) ?_ | exact ag | fail))
  exact fin0
end Go.Abs
/- Instructions: what the program's functions make. -/
namespace Go.Abs
set_option linter.unusedSimpArgs false
set_option linter.unusedVariables false
open Go.Proofs Go.Wd
set_option linter.unusedVariables false
set_option maxRecDepth 8000
variable {H : Heap}
/-- Four flags. -/
def b4 (u : Bool × Bool × Bool × Bool) : List TV := [.s (.bool u.1), .s (.bool u.2.1), .s (.bool u.2.2.1), .s (.bool u.2.2.2)]
theorem b4_mk (a b c d : Bool) : b4 (a, b, c, d) = [.s (.bool a), .s (.bool b), .s (.bool c), .s (.bool d)] := rfl
/-- An instruction's parts. -/
structure Ins where
  o : Nat
  d : Nat
  a : Nat
  b : Nat
  i : Int
  deriving DecidableEq
def Ins.enc (x : Ins) : List TV := [.s (.int .u8 x.o), .s (.int .u8 x.d), .s (.int .u8 x.a), .s (.int .u8 x.b), .s (.int .i32 x.i)]
def Ins.ok (x : Ins) : Prop := x.o < 256 ∧ x.d < 256 ∧ x.a < 256 ∧ x.b < 256 ∧ -2147483648 ≤ x.i ∧ x.i < 2147483648
def Ins.chk (x : Ins) : Int := checkR x.o x.d x.a x.b x.i
theorem Ins.enc_def (x : Ins) : x.enc = [.s (.int .u8 x.o), .s (.int .u8 x.d), .s (.int .u8 x.a), .s (.int .u8 x.b), .s (.int .i32 x.i)] := rfl
end Go.Abs
/- Instructions, as words: what the program's functions make. -/
namespace Go.Abs
set_option linter.unusedSimpArgs false
set_option linter.unusedVariables false
open Go.Proofs Go.Wd
set_option linter.unusedVariables false
set_option maxRecDepth 8000
variable {H : Heap}
/-- What Encode tells. -/
def Ins.word (x : Ins) : Nat := if x.chk = 0 then encN x.o x.d x.a x.b x.i else 0
theorem Ins.word_lt (x : Ins) : x.word < 2 ^ 32 := by unfold Ins.word; split; exact withN_lt _ _ _ _; decide
theorem w8to32 {x : Nat} (h : x < 256) : IntKind.u32.wrap (x : Int) = (x : Int) := w32 (by omega) (by omega)
/-- What a word's parts are. -/
def parts (w : Nat) : Ins := ⟨bitsN w 27 5, bitsN w 24 3, bitsN w 21 3, if (usesR (opN w)).2.2.1 = true then bitsN w 0 3 else 0, iN w⟩
theorem parts_ok (w : Nat) : (parts w).ok := by
  have h1 := bitsN_lt w 27 5
  have h2 := bitsN_lt w 24 3
  have h3 := bitsN_lt w 21 3
  have h4 := bitsN_lt w 0 3
  have h5 := iN_lt w
  refine ⟨?_, ?_, ?_, ?_, h5.1, h5.2⟩ <;> simp only [parts] <;> try omega
  split <;> omega
def insOk (w : Nat) : Bool := decide ((parts w).chk = 0) && (parts w).word == w
def Ins.zero : Ins := ⟨0, 0, 0, 0, 0⟩
/-- What Decode tells. -/
def dec (w : Nat) : Ins := if insOk w = true then parts w else Ins.zero
def decE (w : Nat) : Int := if insOk w = true then 0 else 10
theorem bits_c' {w a n : Nat} (hw : w < 2 ^ 32) (h : a + n ≤ 32) (hn : n ≤ 8) : IntKind.u8.wrap ((bitsN w a n : Nat) : Int) = ((bitsN w a n : Nat) : Int) := by
  have h1 := bitsN_lt w a n
  have : 2 ^ n ≤ 2 ^ 8 := Nat.pow_le_pow_right (by decide) hn
  exact w8 (by omega) (by omega)
end Go.Abs
/- Modules that are looked at: what the program's functions make. -/
namespace Go.Abs
set_option linter.unusedSimpArgs false
set_option linter.unusedVariables false
open Go.Proofs Go.Nm Go.Wd
set_option linter.unusedVariables false
set_option maxRecDepth 8000
variable {H : Heap}
/-- Numbers in their ranges; lists and texts that memory holds. -/
structure Mod.ok (m : Mod) : Prop where
  co : ∀ x ∈ m.co, x < 2 ^ 32
  da : ∀ x ∈ m.da, x < 2 ^ 32
  re : ∀ r ∈ m.re, r.k < 256 ∧ r.a < 65536 ∧ r.w < 65536
  lex : m.ex.length < 4611686018427387904
  lim : m.im.length < 4611686018427387904
  lco : m.co.length < 4611686018427387904
  lda : m.da.length < 4611686018427387904
  lre : m.re.length < 4611686018427387904
def longB (s : ByteArray) : Bool := decide ((96 : Int) < s.size)
def kindB (r : Rlc) : Bool := decide ((7 : Int) < r.k)
def anyB {α : Type} (p : α → Bool) (l : List α) : Bool := decide (0 ≤ fi p l)
def Mod.obj (m : Mod) : Int :=
  if decide ((8 : Int) < m.ex.length) || (decide ((16 : Int) < m.im.length) || decide ((256 : Int) < m.re.length)) then 5
  else if decide ((512 : Int) < m.co.length) || decide ((128 : Int) < m.da.length) then 5
  else if longB m.nm || (decide (0 ≤ fi longB m.ex) || decide (0 ≤ fi longB m.im)) then 5
  else if decide (0 ≤ fi kindB m.re) then 2 else 0
def badN (s : ByteArray) : Bool := chk s != 0
/-- A text that stood ahead. -/
def dup (l : List ByteArray) (i : Nat) : Bool := match l[i]? with
  | some x => decide (0 ≤ fi (fun y => x.toList == y.toList) (l.take i))
  | none => false
def rep (l : List ByteArray) : Int := fi (dup l) (List.range l.length)
theorem range_get {n i : Nat} (h : i < n) : (List.range n)[i]? = some i := by rw [List.getElem?_eq_getElem (by simpa using h)]; simp
theorem rep_some {l : List ByteArray} {i : Nat} (hi : i < l.length) (h : dup l i = true) (hn : noneB (dup l) (List.range l.length) i) : rep l = i := fi_some (range_get hi) h hn
end Go.Abs
/- Modules that are looked at: names and words. -/
namespace Go.Abs
set_option linter.unusedSimpArgs false
set_option linter.unusedVariables false
open Go.Proofs Go.Nm Go.Wd
set_option linter.unusedVariables false
set_option maxRecDepth 8000
variable {H : Heap}
theorem each_s1 (l : List ByteArray) : Each 1 (l.map s1) := fun e he => by obtain ⟨x, _, rfl⟩ := List.mem_map.1 he; rfl
theorem one_s1 (l : List ByteArray) : (l.map s1).flatten.all oneT = true := by
  induction l with
  | nil => rfl
  | cons x l ih => rw [List.map_cons, List.flatten_cons, List.all_append, ih]; rfl
/-- What texts tells. -/
def Mod.txt (m : Mod) : Int × Int :=
  if decide (0 ≤ fi badN (m.nm :: m.ex)) then (2, fi badN (m.nm :: m.ex)) else if decide (0 ≤ fi badN m.im) then (2, IntKind.i64.wrap (9 + fi badN m.im))
  else if decide (0 ≤ rep m.ex) then (3, rep m.ex) else if decide (0 ≤ rep m.im) then (3, IntKind.i64.wrap (8 + rep m.im)) else (0, 0)
def badW (w : Nat) : Bool := (decE w != 0) || (((dec w).o : Int) == 21)
theorem chk_bad {s : ByteArray} {b : Bool} (h : badN s = b) : (chk s != 0) = b := h
theorem o_lt {w : Nat} : (dec w).o < 256 := by unfold dec; split; exact (parts_ok w).1; decide
/-- What words tells. -/
def Mod.wrd (m : Mod) : Int × Int :=
  if ((m.co.length : Nat) : Int) == 0 || decide (((m.co.length : Nat) : Int) < m.ex.length) then (4, 0) else if decide (0 ≤ fi badW m.co) then (5, fi badW m.co) else (0, 0)
end Go.Abs
