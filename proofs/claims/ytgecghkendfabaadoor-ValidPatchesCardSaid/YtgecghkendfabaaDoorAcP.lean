import Derived.Shelf.Unicode.DecodeAny
import Derived.Lib.IndexMore
import Derived.Lib.DecodeN
import Derived.Laws.BitsLemmas
import Derived.Lib.CutLaws
import Derived.RowKit
/- Names, pure. No program. -/
namespace Go.Nm
open Go.Lib Go.RowKit
set_option linter.unusedVariables false
theorem width_pos (s : ByteArray) (pos : Nat) : 1 ≤ (Utf8.decode s pos).2 := by
  rw [decode_at]; unfold decodeN
  repeat' split
  all_goals simp
/-- How many runes stand from place pos on, by at most so many rounds. -/
def runesFrom (s : ByteArray) : Nat → Nat → Int → Int
  | 0, _, n => n
  | f + 1, pos, n => if pos < s.size then runesFrom s f (pos + (Utf8.decode s pos).2) (wrap64 (n + 1)) else n
def runes (s : ByteArray) : Int := runesFrom s s.size 0 0
/-- A version's digits. -/
def verFrom (s : ByteArray) : Nat → Nat → Int → Int
  | 0, _, n => n
  | f + 1, pos, n => if pos < s.size then (if ((Utf8.decode s pos).1 : Int) < 48 ∨ 57 < ((Utf8.decode s pos).1 : Int) then 0 else verFrom s f (pos + (Utf8.decode s pos).2) (wrap64 (wrap64 (10 * n) + (((Utf8.decode s pos).1 : Int) - 48)))) else n
def ver (s : ByteArray) : Int := if s.size = 0 ∨ 3 < s.size ∨ (s.get! 0).toNat = 48 then 0 else verFrom s s.size 0 0
def letter (r : Int) (wrong : Bool) : Bool := (decide (97 ≤ r) && decide (r ≤ 122)) || (decide (65 ≤ r) && decide (r ≤ 90)) || (decide (128 ≤ r) && !wrong)
/-- Is the rune at place pos a wrong one (one byte that begins no rune)? -/
def wrongAt (s : ByteArray) (pos : Nat) : Bool := decide (((Utf8.decode s pos).1 : Int) = 65533) && decide ((decodeGo (s.extract pos s.size)).2 = 1)
def badAt (s : ByteArray) (pos : Nat) : Bool :=
  !(letter ((Utf8.decode s pos).1 : Int) (wrongAt s pos)) && (decide (pos = 0) || (!decide (((Utf8.decode s pos).1 : Int) = 95) && (decide (((Utf8.decode s pos).1 : Int) < 48) || decide (57 < ((Utf8.decode s pos).1 : Int)))))
def stemFrom (s : ByteArray) : Nat → Nat → Bool
  | 0, _ => !s.data.toList.isEmpty
  | f + 1, pos => if pos < s.size then (if badAt s pos then false else stemFrom s f (pos + (Utf8.decode s pos).2)) else !s.data.toList.isEmpty
def stem (s : ByteArray) : Bool := stemFrom s s.size 0
theorem runesFrom_end (s : ByteArray) (f pos : Nat) (n : Int) (h : ¬ pos < s.size) : runesFrom s f pos n = n := by cases f <;> simp [runesFrom, h]
theorem verFrom_end (s : ByteArray) (f pos : Nat) (n : Int) (h : ¬ pos < s.size) : verFrom s f pos n = n := by cases f <;> simp [verFrom, h]
theorem stemFrom_end (s : ByteArray) (f pos : Nat) (h : ¬ pos < s.size) : stemFrom s f pos = !s.data.toList.isEmpty := by cases f <;> simp [stemFrom, h]
theorem wraps_i64 (n : Int) (h₀ : 0 ≤ n) (h₁ : n < 2 ^ 63) : IntKind.i64.wrap n = n := by rw [IntKind.wrap_i64]; omega
theorem i64_and31 (x : Int) (h₀ : 0 ≤ x) (h₁ : x < 256) : Go.bits .and .i64 x 31 = x % 32 := bits_mask .i64 63 (by decide) wraps_i64 5 (by decide) x h₀ (by omega)
theorem i64_and15 (x : Int) (h₀ : 0 ≤ x) (h₁ : x < 256) : Go.bits .and .i64 x 15 = x % 16 := bits_mask .i64 63 (by decide) wraps_i64 4 (by decide) x h₀ (by omega)
theorem i64_and7 (x : Int) (h₀ : 0 ≤ x) (h₁ : x < 256) : Go.bits .and .i64 x 7 = x % 8 := bits_mask .i64 63 (by decide) wraps_i64 3 (by decide) x h₀ (by omega)
theorem i64_or6 (x y : Int) (hx₀ : 0 ≤ x) (hx : x % 64 = 0) (hx₁ : x < 2147483648) (h₀ : 0 ≤ y) (h₁ : y < 64) : Go.bits .or .i64 x y = x + y :=
  bits_join .i64 63 (by decide) wraps_i64 6 x y hx₀ hx (by omega) h₀ h₁ (by omega)
theorem i64_or12 (x y : Int) (hx₀ : 0 ≤ x) (hx : x % 4096 = 0) (hx₁ : x < 2147483648) (h₀ : 0 ≤ y) (h₁ : y < 4096) : Go.bits .or .i64 x y = x + y :=
  bits_join .i64 63 (by decide) wraps_i64 12 x y hx₀ hx (by omega) h₀ h₁ (by omega)
theorem i64_or18 (x y : Int) (hx₀ : 0 ≤ x) (hx : x % 262144 = 0) (hx₁ : x < 2147483648) (h₀ : 0 ≤ y) (h₁ : y < 262144) : Go.bits .or .i64 x y = x + y :=
  bits_join .i64 63 (by decide) wraps_i64 18 x y hx₀ hx (by omega) h₀ h₁ (by omega)
theorem u8_and192 (x : Int) (h₀ : 0 ≤ x) (h₁ : x < 256) : Go.bits .and .u8 x 192 = x / 64 * 64 := by
  have h : ∀ n : Fin 256, Go.bits .and .u8 ((n.val : Nat) : Int) 192 = ((n.val : Nat) : Int) / 64 * 64 := by decide +kernel
  have := h ⟨x.toNat, by omega⟩
  simp only [Int.toNat_of_nonneg h₀] at this
  exact this
theorem w64 {x : Int} (h₀ : 0 ≤ x) (h₁ : x < 9223372036854775808) : wrap64 x = x := by unfold wrap64; omega
/-- The rune at place p: -1 of a wrong one. -/
def rv (s : ByteArray) (p : Nat) : Int := if (Utf8.decode s p).2 = 1 ∧ (Utf8.decode s p).1 = 65533 then -1 else ((Utf8.decode s p).1 : Int)
theorem val2 (x y : Int) (hx : 0 ≤ x ∧ x < 256) (hy : 0 ≤ y ∧ y < 256) : Go.bits .or .i64 (wrap64 ((Go.bits .and .i64 x 31) * 64)) (wrap64 (Go.bits .and .u8 y 63)) = x % 32 * 64 + y % 64 := by
  obtain ⟨hx0, hx1⟩ := hx
  obtain ⟨hy0, hy1⟩ := hy
  rw [i64_and31 x hx0 hx1, u8_and63 y hy0 hy1, w64 (x := x % 32 * 64) (by omega) (by omega), w64 (x := y % 64) (by omega) (by omega)]
  exact i64_or6 _ _ (by omega) (by omega) (by omega) (by omega) (by omega)
theorem val3 (x y z : Int) (hx : 0 ≤ x ∧ x < 256) (hy : 0 ≤ y ∧ y < 256) (hz : 0 ≤ z ∧ z < 256) :
    Go.bits .or .i64 (Go.bits .or .i64 (wrap64 ((Go.bits .and .i64 x 15) * 4096)) (wrap64 ((wrap64 (Go.bits .and .u8 y 63)) * 64))) (wrap64 (Go.bits .and .u8 z 63)) = x % 16 * 4096 + y % 64 * 64 + z % 64 := by
  obtain ⟨hx0, hx1⟩ := hx
  obtain ⟨hy0, hy1⟩ := hy
  obtain ⟨hz0, hz1⟩ := hz
  rw [i64_and15 x hx0 hx1, u8_and63 y hy0 hy1, u8_and63 z hz0 hz1, w64 (x := x % 16 * 4096) (by omega) (by omega), w64 (x := y % 64) (by omega) (by omega), w64 (x := z % 64) (by omega) (by omega), w64 (x := y % 64 * 64) (by omega) (by omega),
    i64_or12 (x % 16 * 4096) (y % 64 * 64) (by omega) (by omega) (by omega) (by omega) (by omega)]
  exact i64_or6 _ _ (by omega) (by omega) (by omega) (by omega) (by omega)
theorem val4 (x y z u : Int) (hx : 0 ≤ x ∧ x < 256) (hy : 0 ≤ y ∧ y < 256) (hz : 0 ≤ z ∧ z < 256) (hu : 0 ≤ u ∧ u < 256) :
    Go.bits .or .i64 (Go.bits .or .i64 (Go.bits .or .i64 (wrap64 ((Go.bits .and .i64 x 7) * 262144)) (wrap64 ((wrap64 (Go.bits .and .u8 y 63)) * 4096))) (wrap64 ((wrap64 (Go.bits .and .u8 z 63)) * 64))) (wrap64 (Go.bits .and .u8 u 63)) = x % 8 * 262144 + y % 64 * 4096 + z % 64 * 64 + u % 64 := by
  obtain ⟨hx0, hx1⟩ := hx
  obtain ⟨hy0, hy1⟩ := hy
  obtain ⟨hz0, hz1⟩ := hz
  obtain ⟨hu0, hu1⟩ := hu
  rw [i64_and7 x hx0 hx1, u8_and63 y hy0 hy1, u8_and63 z hz0 hz1, u8_and63 u hu0 hu1, w64 (x := x % 8 * 262144) (by omega) (by omega), w64 (x := y % 64) (by omega) (by omega), w64 (x := z % 64) (by omega) (by omega), w64 (x := u % 64) (by omega) (by omega), w64 (x := y % 64 * 4096) (by omega) (by omega), w64 (x := z % 64 * 64) (by omega) (by omega),
    i64_or18 (x % 8 * 262144) (y % 64 * 4096) (by omega) (by omega) (by omega) (by omega) (by omega), i64_or12 (x % 8 * 262144 + y % 64 * 4096) (z % 64 * 64) (by omega) (by omega) (by omega) (by omega) (by omega)]
  exact i64_or6 _ _ (by omega) (by omega) (by omega) (by omega) (by omega)
theorem ba_ext {a b : ByteArray} (h : a.data.toList = b.data.toList) : a = b := by
  cases a; cases b; simp at h; subst h; rfl
theorem ex_size (s : ByteArray) (a b : Nat) (hb : b ≤ s.size) : (s.extract a b).size = b - a := by
  rw [ByteArray.size_extract]; omega
theorem ex_ex (s : ByteArray) (p k : Nat) : (s.extract p s.size).extract k (s.extract p s.size).size = s.extract (p + k) s.size := by
  apply ba_ext
  have h : s.size = s.data.toList.length := Lib.size_eq s
  rw [Lib.extract_data, Lib.extract_data, Lib.extract_data, ex_size _ _ _ (Nat.le_refl _), h]
  have e : ∀ (l : List UInt8) (a : Nat), (l.drop a).take (l.length - a) = l.drop a := fun l a => List.take_of_length_le (by simp)
  rw [e, e, List.drop_drop]
  exact List.take_of_length_le (by simp; omega)
theorem ex_all (s : ByteArray) : s.extract 0 s.size = s := by
  apply ba_ext
  rw [Lib.extract_data]
  rw [Lib.size_eq s, List.drop_zero, Nat.sub_zero, List.take_length]
theorem get!_out (s : ByteArray) (i : Nat) (h : s.size ≤ i) : s.get! i = 0 := by
  have hd : ¬ i < s.data.size := by have : s.data.size = s.size := rfl; omega
  exact getElem!_neg s.data i hd
theorem get!_in (s : ByteArray) (i : Nat) (h : i < s.size) : s.get! i = s[i]'h := getElem!_pos s.data i h
theorem get!_list (s : ByteArray) (i : Nat) : s.get! i = s.data.toList.getD i 0 := by
  by_cases h : i < s.size
  · have h2 : i < s.data.toList.length := by rw [← Lib.size_eq]; exact h
    rw [get!_in s i h, List.getD_eq_getElem?_getD, List.getElem?_eq_getElem h2]
    rfl
  · have h2 : s.data.toList.length ≤ i := by rw [← Lib.size_eq]; omega
    rw [get!_out s i (by omega), List.getD_eq_getElem?_getD, List.getElem?_eq_none h2]
    rfl
theorem get!_ex (s : ByteArray) (p i : Nat) : (s.extract p s.size).get! i = s.get! (p + i) := by
  rw [get!_list, get!_list, Lib.extract_data]
  have h : s.size = s.data.toList.length := Lib.size_eq s
  rw [h, List.take_of_length_le (by simp)]
  simp [List.getD_eq_getElem?_getD, List.getElem?_drop]
theorem decode_ex (s : ByteArray) (p : Nat) (hp : p ≤ s.size) : Utf8.decode (s.extract p s.size) 0 = Utf8.decode s p := by
  rw [decode_at, decode_at, ex_size _ _ _ (Nat.le_refl _)]
  simp only [get!_ex, Nat.zero_add, Nat.sub_zero, Nat.add_zero]
theorem decodeN_width (n b0 b1 b2 b3 : Nat) (h : 0 < n) : (decodeN n b0 b1 b2 b3).2 ≤ n := by
  unfold decodeN
  repeat' split
  all_goals simp
  all_goals omega
theorem width_le (s : ByteArray) (p : Nat) (hp : p < s.size) : p + (Utf8.decode s p).2 ≤ s.size := by
  have := decodeN_width (s.size - p) (s.get! p).toNat (s.get! (p + 1)).toNat (s.get! (p + 2)).toNat (s.get! (p + 3)).toNat (by omega)
  rw [← decode_at] at this
  omega
/-- The runes from place p on. -/
def rl (s : ByteArray) : Nat → Nat → List Int
  | 0, _ => []
  | f + 1, p => if p < s.size then rv s p :: rl s f (p + (Utf8.decode s p).2) else []
theorem rl_length (s : ByteArray) : ∀ f p, (rl s f p).length ≤ f
  | 0, _ => by simp [rl]
  | f + 1, p => by
    unfold rl
    split
    · have := rl_length s f (p + (Utf8.decode s p).2)
      simp only [List.length_cons]
      omega
    · simp
theorem rv_ex (s : ByteArray) (p : Nat) (hp : p ≤ s.size) : rv (s.extract p s.size) 0 = rv s p := by
  unfold rv
  rw [decode_ex s p hp]
def rlist (s : ByteArray) : List Int := rl s s.size 0
theorem runesFrom_rl (s : ByteArray) : ∀ (f p : Nat) (n : Int), 0 ≤ n → n + f < 9223372036854775807 → runesFrom s f p n = n + (rl s f p).length
  | 0, p, n, h0, h => by simp [runesFrom, rl]
  | f + 1, p, n, h0, h => by
    unfold runesFrom rl
    split
    · rw [w64 (by omega) (by omega), runesFrom_rl s f _ (n + 1) (by omega) (by omega)]
      simp
      omega
    · simp
theorem runes_rl (s : ByteArray) (h : s.size < 17592186044416) : runes s = ((rlist s).length : Int) := by
  unfold runes rlist
  rw [runesFrom_rl s s.size 0 0 (by omega) (by omega)]
  omega
def letR (c : Int) : Bool := (decide (97 ≤ c) && decide (c ≤ 122)) || (decide (65 ≤ c) && decide (c ≤ 90)) || decide (128 ≤ c)
def digR (c : Int) : Bool := decide (48 ≤ c) && decide (c ≤ 57)
def okR (c : Int) : Bool := letR c || digR c || decide (c = 95)
def stemL : List Int → Bool
  | [] => false
  | c :: t => letR c && t.all okR
theorem nm_ne (s : ByteArray) (hs : 0 < s.size) : s.data.toList.isEmpty = false := by
  have : s.data.toList.length ≠ 0 := by rw [← Lib.size_eq]; omega
  cases h : s.data.toList with
  | nil => rw [h] at this; exact absurd rfl this
  | cons a t => rfl
theorem wrong_iff (s : ByteArray) (p : Nat) (hp : p < s.size) : wrongAt s p = decide ((Utf8.decode s p).2 = 1 ∧ (Utf8.decode s p).1 = 65533) := by
  unfold wrongAt decodeGo
  rw [if_neg (by rw [ex_size _ _ _ (Nat.le_refl _)]; omega), decode_ex s p (by omega), Bool.eq_iff_iff]
  simp
  omega
theorem bad_core (s : ByteArray) (p : Nat) (hp : p < s.size) (z : Bool) : (!(letter ((Utf8.decode s p).1 : Int) (wrongAt s p)) && (z || (!decide (((Utf8.decode s p).1 : Int) = 95) && (decide (((Utf8.decode s p).1 : Int) < 48) || decide (57 < ((Utf8.decode s p).1 : Int)))))) = !(letR (rv s p) || (!z && (digR (rv s p) || decide (rv s p = 95)))) := by
  rw [wrong_iff s p hp]
  unfold rv
  by_cases hw : (Utf8.decode s p).2 = 1 ∧ (Utf8.decode s p).1 = 65533
  · rw [if_pos hw, decide_eq_true hw, hw.2]
    cases z <;> rfl
  · rw [if_neg hw, decide_eq_false hw]
    have h0 : (0 : Int) ≤ ((Utf8.decode s p).1 : Int) := Int.natCast_nonneg _
    generalize ((Utf8.decode s p).1 : Int) = R at *
    have hl : letter R false = letR R := by unfold letter letR; simp
    rw [hl]
    cases letR R
    · unfold digR
      cases z
      · by_cases h1 : R = 95 <;> by_cases h2 : R < 48 <;> by_cases h3 : 57 < R <;> simp [h1, h2, h3] <;> omega
      · simp
    · simp
theorem bad_ok (s : ByteArray) (p : Nat) (hp : p < s.size) (h0 : p ≠ 0) : badAt s p = !okR (rv s p) := by
  have := bad_core s p hp false
  unfold badAt okR
  rw [decide_eq_false h0, this]
  simp [Bool.or_assoc]
theorem bad_let (s : ByteArray) (hs : 0 < s.size) : badAt s 0 = !letR (rv s 0) := by
  have := bad_core s 0 hs true
  unfold badAt
  rw [decide_eq_true rfl, this]
  simp
theorem stemFrom_rl (s : ByteArray) (hs : 0 < s.size) : ∀ (f p : Nat), 0 < p → s.size ≤ p + f → stemFrom s f p = (rl s f p).all okR
  | 0, p, h0, hf => by simp [stemFrom, rl, nm_ne s hs]
  | f + 1, p, h0, hf => by
    unfold stemFrom rl
    split
    · rename_i hp
      have ih := stemFrom_rl s hs f (p + (Utf8.decode s p).2) (by omega) (by have := width_pos s p; omega)
      rw [List.all_cons, ih, bad_ok s p hp (by omega)]
      cases okR (rv s p) <;> simp
    · simp [nm_ne s hs]
theorem stem_rl (s : ByteArray) : stem s = stemL (rlist s) := by
  unfold stem rlist
  by_cases hs : 0 < s.size
  · obtain ⟨f, hf⟩ : ∃ f, s.size = f + 1 := ⟨s.size - 1, by omega⟩
    rw [hf]
    unfold stemFrom rl
    rw [if_pos hs, if_pos hs, stemL, stemFrom_rl s hs f _ (by have := width_pos s 0; omega) (by have := width_pos s 0; omega), bad_let s hs]
    cases letR (rv s 0) <;> simp
  · have h0 : s.size = 0 := by omega
    rw [h0]
    have hl : s.data.toList = [] := List.eq_nil_of_length_eq_zero (by rw [← Lib.size_eq]; exact h0)
    simp [stemFrom, rl, stemL, hl]
theorem dec_ascii (s : ByteArray) (p : Nat) (h : (s.get! p).toNat < 128) : Utf8.decode s p = ((s.get! p).toNat, 1) := by
  rw [decode_at]
  unfold decodeN
  rw [if_pos h]
theorem dec_high (s : ByteArray) (p : Nat) (h : ¬ (s.get! p).toNat < 128) : 128 ≤ (Utf8.decode s p).1 := by
  rw [decode_at]
  unfold decodeN
  rw [if_neg h]
  repeat' split
  all_goals simp
  all_goals omega
def cutA (s : ByteArray) : ByteArray := ⟨(Lib.cut s.data.toList [64]).1.toArray⟩
def cutB (s : ByteArray) : ByteArray := ⟨(Lib.cut s.data.toList [64]).2.1.toArray⟩
def has (s : ByteArray) : Bool := (Lib.cut s.data.toList [64]).2.2
theorem occ_one (l : List UInt8) (c : UInt8) (j : Nat) : occAt l [c] j = decide (l[j]? = some c) := by
  unfold occAt
  rcases Nat.lt_or_ge j l.length with h | h
  · rw [List.drop_eq_getElem_cons h, List.getElem?_eq_getElem h]
    simp only [List.isPrefixOf, Bool.and_true, Option.some.injEq]
    rw [Bool.eq_iff_iff, beq_iff_eq, decide_eq_true_iff]
    exact eq_comm
  · rw [List.drop_of_length_le h, List.getElem?_eq_none h]
    simp
/-- Either no '@' stands in the text, or the first one stands at place j. -/
theorem at_spec (s : ByteArray) : (has s = false ∧ cutA s = s ∧ cutB s = ⟨#[]⟩ ∧ ∀ j, j < s.size → (s.get! j).toNat ≠ 64) ∨
    ∃ j, j < s.size ∧ has s = true ∧ cutA s = s.extract 0 j ∧ cutB s = s.extract (j + 1) s.size ∧ (s.get! j).toNat = 64 ∧ ∀ i, i < j → (s.get! i).toNat ≠ 64 := by
  have hn : ∀ j, j < s.size → (s.data.toList[j]? = some 64 ↔ (s.get! j).toNat = 64) := fun j hj => by
    have hj2 : j < s.data.toList.length := by rw [← Lib.size_eq]; exact hj
    rw [get!_list, List.getD_eq_getElem?_getD, List.getElem?_eq_getElem hj2]
    simp only [Option.some.injEq, Option.getD_some]
    constructor
    · intro h; rw [h]; rfl
    · intro h; exact UInt8.toNat_inj.mp (by rw [h]; rfl)
  rcases index_spec s.data.toList [64] with ⟨h1, h2⟩ | ⟨j, h1, h2, h3, h4⟩
  · refine .inl ⟨?_, ?_, ?_, fun j hj hc => ?_⟩
    · unfold has Lib.cut; rw [h1]; rfl
    · unfold cutA Lib.cut; rw [h1]; cases s; rfl
    · unfold cutB Lib.cut; rw [h1]; rfl
    · have := h2 j (by rw [← Lib.size_eq]; omega)
      rw [occ_one] at this
      exact of_decide_eq_false this ((hn j hj).mpr hc)
  · have hlt : j < s.size := by
      rw [occ_one] at h3
      have h5 := of_decide_eq_true h3
      rw [Lib.size_eq]
      exact (List.getElem?_eq_some_iff.1 h5).1
    have hi : (0 : Int) ≤ Lib.index s.data.toList [64] := by rw [h1]; omega
    refine .inr ⟨j, hlt, ?_, ?_, ?_, ?_, fun i hi2 hc => ?_⟩
    · unfold has Lib.cut; rw [if_pos hi]
    · unfold cutA Lib.cut; rw [if_pos hi, h1]
      apply ba_ext
      rw [Lib.extract_data]
      simp
    · unfold cutB Lib.cut; rw [if_pos hi, h1]
      apply ba_ext
      rw [Lib.extract_data]
      have hz := Lib.size_eq s
      simp only [Int.toNat_natCast, List.length_cons, List.length_nil]
      rw [List.take_of_length_le (by simp only [List.length_drop]; omega)]
    · rw [occ_one] at h3
      exact (hn j hlt).mp (of_decide_eq_true h3)
    · have := h4 i hi2
      rw [occ_one] at this
      exact of_decide_eq_false this ((hn i (by omega)).mpr hc)
theorem cutA_size (s : ByteArray) : (cutA s).size ≤ s.size := by
  rcases at_spec s with ⟨h1, h2, h3, h4⟩ | ⟨j, hj, h1, h2, h3, h4, h5⟩
  · rw [h2]; exact Nat.le_refl _
  · rw [h2, ex_size _ _ _ (by omega)]; omega
theorem cutB_size (s : ByteArray) : (cutB s).size ≤ s.size := by
  rcases at_spec s with ⟨h1, h2, h3, h4⟩ | ⟨j, hj, h1, h2, h3, h4, h5⟩
  · rw [h3]; exact Nat.zero_le _
  · rw [h3, ex_size _ _ _ (by omega)]; omega

/-! ### checks and splits -/
def okN (s : ByteArray) : Bool := stem (cutA s) && !(has s && decide (ver (cutB s) = 0))
/-- What Check tells: 6: no name; 5: too long. -/
def chk (s : ByteArray) : Int := if okN s = false then 6 else if runes s > 24 then 5 else 0
theorem ver_nil : ver (⟨#[]⟩ : ByteArray) = 0 := rfl
theorem ver_none (s : ByteArray) (h : has s = false) : ver (cutB s) = 0 := by
  rcases at_spec s with ⟨h1, h2, h3, h4⟩ | ⟨j, hj, h1, h2, h3, h4, h5⟩
  · rw [h3]; rfl
  · rw [h1] at h; cases h
/-- What Split tells. -/
def splitR (s : ByteArray) : ByteArray × Int × Int := if chk s = 0 then (cutA s, ver (cutB s), 0) else ((⟨#[]⟩ : ByteArray), 0, chk s)
theorem splitR_e (s : ByteArray) : (splitR s).2.2 = chk s := by
  unfold splitR
  split
  · rename_i h; rw [h]
  · rfl
end Go.Nm
