import Derived.Test.YtlgmboaoemlnpaaDoorNmPure
/- Names, pure: lists of runes, stems, versions, parts, checks: both sides tell one thing. -/
namespace Go.Proofs.YtlgmboaoemlnpaaDoor.Nm
open Go.Lib Go.RowKit Go.Proofs.YtlgmboaoemlnpaaDoorW.PrintWords Go.Proofs.YtlgmboaoemlnpaaDoor.P
set_option linter.unusedVariables false

theorem ba_ext {a b : ByteArray} (h : a.data.toList = b.data.toList) : a = b := by
  cases a; cases b; simp at h; subst h; rfl
theorem ex_size (s : ByteArray) (a b : Nat) (hb : b ≤ s.size) : (s.extract a b).size = b - a := by
  rw [ByteArray.size_extract]; omega
theorem ex_ex (s : ByteArray) (p k : Nat) : (s.extract p s.size).extract k (s.extract p s.size).size = s.extract (p + k) s.size := by
  apply ba_ext
  have h : s.size = s.data.toList.length := Lib.size_eq s
  rw [Lib.extract_data, Lib.extract_data, Lib.extract_data, ex_size _ _ _ (Nat.le_refl _), h]
  have e : ∀ (l : List UInt8) (a : Nat), (l.drop a).take (l.length - a) = l.drop a := fun l a => List.take_of_length_le (by simp)
  rw [e, e, List.drop_drop]
  exact List.take_of_length_le (by simp; omega)
theorem ex_all (s : ByteArray) : s.extract 0 s.size = s := by
  apply ba_ext
  rw [Lib.extract_data]
  rw [Lib.size_eq s, List.drop_zero, Nat.sub_zero, List.take_length]
theorem one_f3 (s : ByteArray) (h : 0 < s.size) (k : Nat) (hk : 3 ≤ k) : budwoodref02_One.f k s = some (rv s 0, ((Utf8.decode s 0).2 : Int)) := by
  obtain ⟨m, rfl⟩ : ∃ m, k = m + 3 := ⟨k - 3, by omega⟩
  exact one_f s h m
theorem get!_out (s : ByteArray) (i : Nat) (h : s.size ≤ i) : s.get! i = 0 := by
  have hd : ¬ i < s.data.size := by have : s.data.size = s.size := rfl; omega
  exact getElem!_neg s.data i hd
theorem get!_in (s : ByteArray) (i : Nat) (h : i < s.size) : s.get! i = s[i]'h := getElem!_pos s.data i h
theorem get!_list (s : ByteArray) (i : Nat) : s.get! i = s.data.toList.getD i 0 := by
  by_cases h : i < s.size
  · have h2 : i < s.data.toList.length := by rw [← Lib.size_eq]; exact h
    rw [get!_in s i h, List.getD_eq_getElem?_getD, List.getElem?_eq_getElem h2]
    rfl
  · have h2 : s.data.toList.length ≤ i := by rw [← Lib.size_eq]; omega
    rw [get!_out s i (by omega), List.getD_eq_getElem?_getD, List.getElem?_eq_none h2]
    rfl
theorem get!_ex (s : ByteArray) (p i : Nat) : (s.extract p s.size).get! i = s.get! (p + i) := by
  rw [get!_list, get!_list, Lib.extract_data]
  have h : s.size = s.data.toList.length := Lib.size_eq s
  rw [h, List.take_of_length_le (by simp)]
  simp [List.getD_eq_getElem?_getD, List.getElem?_drop]
theorem decode_ex (s : ByteArray) (p : Nat) (hp : p ≤ s.size) : Utf8.decode (s.extract p s.size) 0 = Utf8.decode s p := by
  rw [decode_at, decode_at, ex_size _ _ _ (Nat.le_refl _)]
  simp only [get!_ex, Nat.zero_add, Nat.sub_zero, Nat.add_zero]
theorem decodeN_width (n b0 b1 b2 b3 : Nat) (h : 0 < n) : (decodeN n b0 b1 b2 b3).2 ≤ n := by
  unfold decodeN
  repeat' split
  all_goals simp
  all_goals omega
theorem width_le (s : ByteArray) (p : Nat) (hp : p < s.size) : p + (Utf8.decode s p).2 ≤ s.size := by
  have := decodeN_width (s.size - p) (s.get! p).toNat (s.get! (p + 1)).toNat (s.get! (p + 2)).toNat (s.get! (p + 3)).toNat (by omega)
  rw [← decode_at] at this
  omega

/-- The runes from place p on. -/
def rl (s : ByteArray) : Nat → Nat → List Int
  | 0, _ => []
  | f + 1, p => if p < s.size then rv s p :: rl s f (p + (Utf8.decode s p).2) else []
theorem rl_length (s : ByteArray) : ∀ f p, (rl s f p).length ≤ f
  | 0, _ => by simp [rl]
  | f + 1, p => by
    unfold rl
    split
    · have := rl_length s f (p + (Utf8.decode s p).2)
      simp only [List.length_cons]
      omega
    · simp
theorem rv_ex (s : ByteArray) (p : Nat) (hp : p ≤ s.size) : rv (s.extract p s.size) 0 = rv s p := by
  unfold rv
  rw [decode_ex s p hp]

theorem list_l0 (s : ByteArray) : ∀ (f p : Nat) (acc : List Int) (k : Nat), p ≤ s.size → s.size ≤ p + f → acc.length + f < 17592186044416 → f + 4 ≤ k →
    budwoodref02_List.l0 k (s.extract p s.size) acc = some (acc ++ rl s f p) := by
  intro f
  induction f with
  | zero =>
    intro p acc k hp hf ha hk
    obtain ⟨k, rfl⟩ : ∃ m, k = m + 1 := ⟨k - 1, by omega⟩
    simp only [budwoodref02_List.l0]
    rw [if_neg (by rw [ex_size _ _ _ (Nat.le_refl _)]; omega)]
    simp [rl]
  | succ f ih =>
    intro p acc k hp hf ha hk
    obtain ⟨k, rfl⟩ : ∃ m, k = m + 1 := ⟨k - 1, by omega⟩
    simp only [budwoodref02_List.l0]
    by_cases h : p < s.size
    · have hw := width_le s p h
      rw [if_pos (by rw [ex_size _ _ _ (Nat.le_refl _)]; omega), one_f3 _ (by rw [ex_size _ _ _ (Nat.le_refl _)]; omega) k (by omega)]
      simp only [Option.bind_some]
      rw [rv_ex s p hp, decode_ex s p hp, if_pos (by omega), if_pos (by omega), if_pos (by rw [ex_size _ _ _ (Nat.le_refl _)]; omega), Int.toNat_natCast, ex_ex,
        ih (p + (Utf8.decode s p).2) (acc ++ [rv s p]) k hw (by have := Lib.width_pos s p; omega) (by simp; omega) (by omega)]
      rw [rl, if_pos h]
      simp
    · rw [if_neg (by rw [ex_size _ _ _ (Nat.le_refl _)]; omega), rl, if_neg h]
      simp
def rlist (s : ByteArray) : List Int := rl s s.size 0
theorem list_ev (s : ByteArray) (h : s.size < 17592186044416) : Ev (fun k => budwoodref02_List.f k s) (rlist s) := by
  refine ⟨s.size + 4, fun k hk => ?_⟩
  have := list_l0 s s.size 0 [] k (by omega) (by omega) (by simp; omega) (by omega)
  rw [ex_all] at this
  exact this

theorem runesFrom_rl (s : ByteArray) : ∀ (f p : Nat) (n : Int), 0 ≤ n → n + f < 9223372036854775807 → runesFrom s f p n = n + (rl s f p).length
  | 0, p, n, h0, h => by simp [runesFrom, rl]
  | f + 1, p, n, h0, h => by
    unfold runesFrom rl
    split
    · rw [w64 (by omega) (by omega), runesFrom_rl s f _ (n + 1) (by omega) (by omega)]
      simp
      omega
    · simp
theorem runes_rl (s : ByteArray) (h : s.size < 17592186044416) : runes s = ((rlist s).length : Int) := by
  unfold runes rlist
  rw [runesFrom_rl s s.size 0 0 (by omega) (by omega)]
  omega
theorem refRunes_ev (s : ByteArray) (h : s.size < 17592186044416) : Ev (fun k => budwoodref02_Runes.f k s) (runes s) := by
  unfold budwoodref02_Runes.f
  rw [runes_rl s h]
  exact Ev.bind (list_ev s h) (Ev.now _)

/-! ### stems -/
def letR (c : Int) : Bool := (decide (97 ≤ c) && decide (c ≤ 122)) || (decide (65 ≤ c) && decide (c ≤ 90)) || decide (128 ≤ c)
def digR (c : Int) : Bool := decide (48 ≤ c) && decide (c ≤ 57)
def okR (c : Int) : Bool := letR c || digR c || decide (c = 95)
theorem letter_f (c : Int) : budwoodref02_letter.f c = some (letR c) := by
  unfold budwoodref02_letter.f letR
  by_cases h1 : 97 ≤ c <;> by_cases h2 : c ≤ 122 <;> by_cases h3 : 65 ≤ c <;> by_cases h4 : c ≤ 90 <;> by_cases h5 : 128 ≤ c <;> simp [h1, h2, h3, h4, h5]
theorem digit_f (c : Int) : budwoodref02_digit.f c = some (digR c) := by
  unfold budwoodref02_digit.f digR
  by_cases h1 : 48 ≤ c <;> simp [h1]
def stemL : List Int → Bool
  | [] => false
  | c :: t => letR c && t.all okR
theorem stem_l0 (l : List Int) (hl : l.length < 17592186044416) : ∀ (d i k : Nat), i ≤ l.length → l.length - i = d → d < k → budwoodref02_stem.l0 k l (i : Int) = some ((l.drop i).all okR) := by
  intro d
  induction d with
  | zero =>
    intro i k hi hd hk
    obtain ⟨k, rfl⟩ : ∃ m, k = m + 1 := ⟨k - 1, by omega⟩
    simp only [budwoodref02_stem.l0]
    rw [if_neg (by omega), List.drop_of_length_le (by omega)]
    rfl
  | succ d ih =>
    intro i k hi hd hk
    obtain ⟨k, rfl⟩ : ∃ m, k = m + 1 := ⟨k - 1, by omega⟩
    have hlt : i < l.length := by omega
    have hrd : rd l (i : Int) = l[i] := by unfold rd; rw [Int.toNat_natCast, List.getD_eq_getElem?_getD, List.getElem?_eq_getElem hlt]; rfl
    have ih2 := ih (i + 1) k (by omega) (by omega) (by omega)
    simp only [budwoodref02_stem.l0]
    rw [if_pos (by omega), if_pos (by omega), hrd, letter_f, digit_f, w64 (by omega) (by omega), List.drop_eq_getElem_cons hlt, List.all_cons]
    simp only [Option.bind_some]
    rw [show ((i : Int) + 1) = ((i + 1 : Nat) : Int) by simp, ih2]
    unfold okR
    by_cases h1 : letR l[i] = true
    · rw [if_pos h1, h1]; simp
    · rw [if_neg h1]
      replace h1 := Bool.eq_false_iff.mpr h1
      rw [h1]
      by_cases h2 : digR l[i] = true
      · rw [if_pos h2, h2]; simp
      · rw [if_neg h2]
        replace h2 := Bool.eq_false_iff.mpr h2
        rw [h2]
        by_cases h3 : l[i] = 95
        · rw [if_pos h3, h3]; simp
        · rw [if_neg h3]; simp [h3]
theorem stem_ev' (s : ByteArray) (h : s.size < 17592186044416) : Ev (fun k => budwoodref02_stem.f k s) (stemL (rlist s)) := by
  unfold budwoodref02_stem.f
  refine Ev.bind (list_ev s h) ?_
  have hl : (rlist s).length < 17592186044416 := by have := rl_length s s.size 0; unfold rlist; omega
  generalize rlist s = l at hl ⊢
  cases l with
  | nil =>
    refine ⟨1, fun k hk => ?_⟩
    obtain ⟨k, rfl⟩ : ∃ m, k = m + 1 := ⟨k - 1, by omega⟩
    simp [budwoodref02_stem.j0, stemL]
  | cons c t =>
    refine ⟨t.length + 3, fun k hk => ?_⟩
    obtain ⟨k, rfl⟩ : ∃ m, k = m + 1 := ⟨k - 1, by omega⟩
    have h1 := stem_l0 (c :: t) hl t.length 1 k (by simp) (by simp) (by omega)
    have hrd : rd (c :: t) 0 = c := rfl
    simp only [List.length_cons] at hl
    dsimp only
    rw [if_neg (by simp only [List.length_cons]; omega), if_pos (by simp only [List.length_cons]; omega), hrd, letter_f]
    simp only [Option.bind_some, budwoodref02_stem.j0]
    by_cases h2 : letR c = true
    · rw [h2]
      simp only [Bool.not_true, Bool.false_eq_true, if_false]
      rw [show ((1 : Int)) = ((1 : Nat) : Int) from rfl, h1]
      simp [stemL, h2]
    · replace h2 := Bool.eq_false_iff.mpr h2
      rw [h2]
      simp [stemL, h2]

theorem nm_ne (s : ByteArray) (hs : 0 < s.size) : s.data.toList.isEmpty = false := by
  have : s.data.toList.length ≠ 0 := by rw [← Lib.size_eq]; omega
  cases h : s.data.toList with
  | nil => rw [h] at this; exact absurd rfl this
  | cons a t => rfl
theorem wrong_iff (s : ByteArray) (p : Nat) (hp : p < s.size) : wrongAt s p = decide ((Utf8.decode s p).2 = 1 ∧ (Utf8.decode s p).1 = 65533) := by
  unfold wrongAt decodeGo
  rw [if_neg (by rw [ex_size _ _ _ (Nat.le_refl _)]; omega), decode_ex s p (by omega), Bool.eq_iff_iff]
  simp
  omega
theorem bad_core (s : ByteArray) (p : Nat) (hp : p < s.size) (z : Bool) : (!(letter ((Utf8.decode s p).1 : Int) (wrongAt s p)) && (z || (!decide (((Utf8.decode s p).1 : Int) = 95) && (decide (((Utf8.decode s p).1 : Int) < 48) || decide (57 < ((Utf8.decode s p).1 : Int)))))) = !(letR (rv s p) || (!z && (digR (rv s p) || decide (rv s p = 95)))) := by
  rw [wrong_iff s p hp]
  unfold rv
  by_cases hw : (Utf8.decode s p).2 = 1 ∧ (Utf8.decode s p).1 = 65533
  · rw [if_pos hw, decide_eq_true hw, hw.2]
    cases z <;> rfl
  · rw [if_neg hw, decide_eq_false hw]
    have h0 : (0 : Int) ≤ ((Utf8.decode s p).1 : Int) := Int.natCast_nonneg _
    generalize ((Utf8.decode s p).1 : Int) = R at *
    have hl : letter R false = letR R := by unfold letter letR; simp
    rw [hl]
    cases letR R
    · unfold digR
      cases z
      · by_cases h1 : R = 95 <;> by_cases h2 : R < 48 <;> by_cases h3 : 57 < R <;> simp [h1, h2, h3] <;> omega
      · simp
    · simp
theorem bad_ok (s : ByteArray) (p : Nat) (hp : p < s.size) (h0 : p ≠ 0) : badAt s p = !okR (rv s p) := by
  have := bad_core s p hp false
  unfold badAt okR
  rw [decide_eq_false h0, this]
  simp [Bool.or_assoc]
theorem bad_let (s : ByteArray) (hs : 0 < s.size) : badAt s 0 = !letR (rv s 0) := by
  have := bad_core s 0 hs true
  unfold badAt
  rw [decide_eq_true rfl, this]
  simp
theorem stemFrom_rl (s : ByteArray) (hs : 0 < s.size) : ∀ (f p : Nat), 0 < p → s.size ≤ p + f → stemFrom s f p = (rl s f p).all okR
  | 0, p, h0, hf => by simp [stemFrom, rl, nm_ne s hs]
  | f + 1, p, h0, hf => by
    unfold stemFrom rl
    split
    · rename_i hp
      have ih := stemFrom_rl s hs f (p + (Utf8.decode s p).2) (by omega) (by have := Lib.width_pos s p; omega)
      rw [List.all_cons, ih, bad_ok s p hp (by omega)]
      cases okR (rv s p) <;> simp
    · simp [nm_ne s hs]
theorem stem_rl (s : ByteArray) : stem s = stemL (rlist s) := by
  unfold stem rlist
  by_cases hs : 0 < s.size
  · obtain ⟨f, hf⟩ : ∃ f, s.size = f + 1 := ⟨s.size - 1, by omega⟩
    rw [hf]
    unfold stemFrom rl
    rw [if_pos hs, if_pos hs, stemL, stemFrom_rl s hs f _ (by have := Lib.width_pos s 0; omega) (by have := Lib.width_pos s 0; omega), bad_let s hs]
    cases letR (rv s 0) <;> simp
  · have h0 : s.size = 0 := by omega
    rw [h0]
    have hl : s.data.toList = [] := List.eq_nil_of_length_eq_zero (by rw [← Lib.size_eq]; exact h0)
    simp [stemFrom, rl, stemL, hl]
theorem stem_ev (s : ByteArray) (h : s.size < 17592186044416) : Ev (fun k => budwoodref02_stem.f k s) (stem s) := by
  rw [stem_rl]
  exact stem_ev' s h

/-! ### versions -/
theorem dec_ascii (s : ByteArray) (p : Nat) (h : (s.get! p).toNat < 128) : Utf8.decode s p = ((s.get! p).toNat, 1) := by
  rw [decode_at]
  unfold decodeN
  rw [if_pos h]
theorem dec_high (s : ByteArray) (p : Nat) (h : ¬ (s.get! p).toNat < 128) : 128 ≤ (Utf8.decode s p).1 := by
  rw [decode_at]
  unfold decodeN
  rw [if_neg h]
  repeat' split
  all_goals simp
  all_goals omega
theorem ver_l0 (s : ByteArray) (hs : s.size < 17592186044416) : ∀ (f i k : Nat) (n : Int), i ≤ s.size → s.size ≤ i + f → f < k → budwoodref02_version.l0 k s n (i : Int) = some (verFrom s f i n) := by
  intro f
  induction f with
  | zero =>
    intro i k n hi hf hk
    obtain ⟨k, rfl⟩ : ∃ m, k = m + 1 := ⟨k - 1, by omega⟩
    simp only [budwoodref02_version.l0]
    rw [if_neg (by omega)]
    rfl
  | succ f ih =>
    intro i k n hi hf hk
    obtain ⟨k, rfl⟩ : ∃ m, k = m + 1 := ⟨k - 1, by omega⟩
    simp only [budwoodref02_version.l0]
    unfold verFrom
    by_cases hlt : i < s.size
    · have r0 := UInt8.toNat_lt (s.get! i)
      rw [if_pos (by omega), if_pos (by omega), if_pos hlt, bt_get! s i hlt, w64 (by omega) (by omega), digit_f]
      simp only [Option.bind_some]
      by_cases ha : (s.get! i).toNat < 128
      · rw [dec_ascii s i ha]
        by_cases hd : 48 ≤ (s.get! i).toNat ∧ (s.get! i).toNat ≤ 57
        · have e : digR ((s.get! i).toNat : Int) = true := by unfold digR; simp; omega
          rw [if_pos e, if_neg (by omega), w64 (x := (i : Int) + 1) (by omega) (by omega), show ((i : Int) + 1) = ((i + 1 : Nat) : Int) by simp, ih (i + 1) k _ (by omega) (by omega) (by omega)]
          congr 2
          unfold wrap64
          omega
        · have e : digR ((s.get! i).toNat : Int) = false := by
            unfold digR
            by_cases h1 : 48 ≤ (s.get! i).toNat
            · rw [decide_eq_false (show ¬ ((s.get! i).toNat : Int) ≤ 57 by omega)]; simp
            · rw [decide_eq_false (show ¬ (48 : Int) ≤ ((s.get! i).toNat : Int) by omega)]; simp
          rw [e, if_neg (by simp), if_pos (by omega)]
      · have h2 := dec_high s i ha
        have e : digR ((s.get! i).toNat : Int) = false := by
          unfold digR
          rw [decide_eq_false (show ¬ ((s.get! i).toNat : Int) ≤ 57 by omega)]; simp
        rw [e, if_neg (by simp), if_pos (by omega)]
    · rw [if_neg (by omega), if_neg hlt]
theorem ver_ev (s : ByteArray) (hs : s.size < 17592186044416) : Ev (fun k => budwoodref02_version.f k s) (ver s) := by
  refine ⟨s.size + 3, fun k hk => ?_⟩
  obtain ⟨k, rfl⟩ : ∃ m, k = m + 1 := ⟨k - 1, by omega⟩
  unfold budwoodref02_version.f ver
  have hl := ver_l0 s hs s.size 0 k 0 (by omega) (by omega) (by omega)
  dsimp only
  by_cases h1 : s.size = 0
  · rw [if_pos (by omega), if_pos (.inl h1)]
    simp [budwoodref02_version.j0]
  · rw [if_neg (by omega)]
    by_cases h2 : 3 < s.size
    · rw [if_pos (by omega), if_pos (.inr (.inl h2))]
      simp [budwoodref02_version.j0]
    · have hb : bt s 0 = ((s.get! 0).toNat : Int) := bt_get! s 0 (by omega)
      rw [if_neg (by omega), if_pos (by omega), hb]
      by_cases h3 : (s.get! 0).toNat = 48
      · rw [if_pos (.inr (.inr h3)), h3]
        simp [budwoodref02_version.j0]
      · rw [if_neg (by omega), show ((((s.get! 0).toNat : Int) == 48)) = false from beq_eq_false_iff_ne.mpr (by omega)]
        simp only [budwoodref02_version.j0, Bool.false_eq_true, if_false]
        exact hl

/-! ### parts -/
def cutA (s : ByteArray) : ByteArray := ⟨(Lib.cut s.data.toList [64]).1.toArray⟩
def cutB (s : ByteArray) : ByteArray := ⟨(Lib.cut s.data.toList [64]).2.1.toArray⟩
def has (s : ByteArray) : Bool := (Lib.cut s.data.toList [64]).2.2
theorem occ_one (l : List UInt8) (c : UInt8) (j : Nat) : occAt l [c] j = decide (l[j]? = some c) := by
  unfold occAt
  rcases Nat.lt_or_ge j l.length with h | h
  · rw [List.drop_eq_getElem_cons h, List.getElem?_eq_getElem h]
    simp only [List.isPrefixOf, Bool.and_true, Option.some.injEq]
    rw [Bool.eq_iff_iff, beq_iff_eq, decide_eq_true_iff]
    exact eq_comm
  · rw [List.drop_of_length_le h, List.getElem?_eq_none h]
    simp
/-- Either no '@' stands in the text, or the first one stands at place j. -/
theorem at_spec (s : ByteArray) : (has s = false ∧ cutA s = s ∧ cutB s = ⟨#[]⟩ ∧ ∀ j, j < s.size → (s.get! j).toNat ≠ 64) ∨
    ∃ j, j < s.size ∧ has s = true ∧ cutA s = s.extract 0 j ∧ cutB s = s.extract (j + 1) s.size ∧ (s.get! j).toNat = 64 ∧ ∀ i, i < j → (s.get! i).toNat ≠ 64 := by
  have hn : ∀ j, j < s.size → (s.data.toList[j]? = some 64 ↔ (s.get! j).toNat = 64) := fun j hj => by
    have hj2 : j < s.data.toList.length := by rw [← Lib.size_eq]; exact hj
    rw [get!_list, List.getD_eq_getElem?_getD, List.getElem?_eq_getElem hj2]
    simp only [Option.some.injEq, Option.getD_some]
    constructor
    · intro h; rw [h]; rfl
    · intro h; exact UInt8.toNat_inj.mp (by rw [h]; rfl)
  rcases index_spec s.data.toList [64] with ⟨h1, h2⟩ | ⟨j, h1, h2, h3, h4⟩
  · refine .inl ⟨?_, ?_, ?_, fun j hj hc => ?_⟩
    · unfold has Lib.cut; rw [h1]; rfl
    · unfold cutA Lib.cut; rw [h1]; cases s; rfl
    · unfold cutB Lib.cut; rw [h1]; rfl
    · have := h2 j (by rw [← Lib.size_eq]; omega)
      rw [occ_one] at this
      exact of_decide_eq_false this ((hn j hj).mpr hc)
  · have hlt : j < s.size := by
      rw [occ_one] at h3
      have h5 := of_decide_eq_true h3
      rw [Lib.size_eq]
      exact (List.getElem?_eq_some_iff.1 h5).1
    have hi : (0 : Int) ≤ Lib.index s.data.toList [64] := by rw [h1]; omega
    refine .inr ⟨j, hlt, ?_, ?_, ?_, ?_, fun i hi2 hc => ?_⟩
    · unfold has Lib.cut; rw [if_pos hi]
    · unfold cutA Lib.cut; rw [if_pos hi, h1]
      apply ba_ext
      rw [Lib.extract_data]
      simp
    · unfold cutB Lib.cut; rw [if_pos hi, h1]
      apply ba_ext
      rw [Lib.extract_data]
      have hz := Lib.size_eq s
      simp only [Int.toNat_natCast, List.length_cons, List.length_nil]
      rw [List.take_of_length_le (by simp only [List.length_drop]; omega)]
    · rw [occ_one] at h3
      exact (hn j hlt).mp (of_decide_eq_true h3)
    · have := h4 i hi2
      rw [occ_one] at this
      exact of_decide_eq_false this ((hn i (by omega)).mpr hc)
theorem parts_l0 (s : ByteArray) (hs : s.size < 17592186044416) : ∀ (d i k : Nat), i ≤ s.size → s.size - i = d → d < k → (∀ j, j < i → (s.get! j).toNat ≠ 64) → budwoodref02_parts.l0 k s (i : Int) = some (cutA s, cutB s, has s) := by
  intro d
  induction d with
  | zero =>
    intro i k hi hd hk hno
    obtain ⟨k, rfl⟩ : ∃ m, k = m + 1 := ⟨k - 1, by omega⟩
    simp only [budwoodref02_parts.l0]
    rw [if_neg (by omega)]
    rcases at_spec s with ⟨h1, h2, h3, h4⟩ | ⟨j, hj, h1, h2, h3, h4, h5⟩
    · rw [h1, h2, h3]
    · exact absurd h4 (hno j (by omega))
  | succ d ih =>
    intro i k hi hd hk hno
    obtain ⟨k, rfl⟩ : ∃ m, k = m + 1 := ⟨k - 1, by omega⟩
    simp only [budwoodref02_parts.l0]
    have hlt : i < s.size := by omega
    rw [if_pos (by omega), if_pos (by omega), bt_get! s i hlt, w64 (by omega) (by omega)]
    by_cases h64 : (s.get! i).toNat = 64
    · rw [if_pos (by omega), if_pos (by omega), if_pos (by omega), if_pos (by omega)]
      rcases at_spec s with ⟨h1, h2, h3, h4⟩ | ⟨j, hj, h1, h2, h3, h4, h5⟩
      · exact absurd h64 (h4 i hlt)
      · have e : j = i := by
          rcases Nat.lt_trichotomy j i with h | h | h
          · exact absurd h4 (hno j h)
          · exact h
          · exact absurd h64 (h5 i h)
        subst e
        rw [h1, h2, h3]
        rfl
    · rw [if_neg (by omega), show ((i : Int) + 1) = ((i + 1 : Nat) : Int) by simp]
      refine ih (i + 1) k (by omega) (by omega) (by omega) (fun j hj => ?_)
      rcases Nat.lt_or_ge j i with h | h
      · exact hno j h
      · have : j = i := by omega
        rw [this]; exact h64
theorem parts_ev (s : ByteArray) (hs : s.size < 17592186044416) : Ev (fun k => budwoodref02_parts.f k s) (cutA s, cutB s, has s) :=
  ⟨s.size + 1, fun k hk => parts_l0 s hs s.size 0 k (by omega) (by omega) (by omega) (fun j hj => by omega)⟩
theorem cutA_size (s : ByteArray) : (cutA s).size ≤ s.size := by
  rcases at_spec s with ⟨h1, h2, h3, h4⟩ | ⟨j, hj, h1, h2, h3, h4, h5⟩
  · rw [h2]; exact Nat.le_refl _
  · rw [h2, ex_size _ _ _ (by omega)]; omega
theorem cutB_size (s : ByteArray) : (cutB s).size ≤ s.size := by
  rcases at_spec s with ⟨h1, h2, h3, h4⟩ | ⟨j, hj, h1, h2, h3, h4, h5⟩
  · rw [h3]; exact Nat.zero_le _
  · rw [h3, ex_size _ _ _ (by omega)]; omega

/-! ### checks and splits -/
def okN (s : ByteArray) : Bool := stem (cutA s) && !(has s && decide (ver (cutB s) = 0))
/-- What Check tells: 6: no name; 5: too long. -/
def chk (s : ByteArray) : Int := if okN s = false then 6 else if runes s > 24 then 5 else 0
theorem ver_nil : ver (⟨#[]⟩ : ByteArray) = 0 := rfl
theorem ver_none (s : ByteArray) (h : has s = false) : ver (cutB s) = 0 := by
  rcases at_spec s with ⟨h1, h2, h3, h4⟩ | ⟨j, hj, h1, h2, h3, h4, h5⟩
  · rw [h3]; rfl
  · rw [h1] at h; cases h
theorem refCheck_ev (s : ByteArray) (hs : s.size < 17592186044416) : Ev (fun k => budwoodref02_Check.f k s) (chk s) := by
  have ha := cutA_size s
  have hb := cutB_size s
  have hj : ∀ b : Bool, Ev (fun k => budwoodref02_Check.j0 k s b) (if b = true then 6 else if runes s > 24 then 5 else 0) := fun b => by
    refine Ev.step (f := fun k => if b = true then (some 6) else ((budwoodref02_Runes.f k s).bind fun t140 => (if t140 > 24 then (some 5) else (some 0)))) (fun k => rfl) ?_
    cases b
    · simp only [Bool.false_eq_true, if_false]
      refine Ev.bind (refRunes_ev s hs) ?_
      split
      · exact Ev.now _
      · exact Ev.now _
    · simp only [if_true]
      exact Ev.now _
  unfold budwoodref02_Check.f
  refine Ev.bind (parts_ev s hs) ?_
  dsimp only
  refine Ev.bind (stem_ev (cutA s) (by omega)) ?_
  unfold chk okN
  cases hst : stem (cutA s)
  · simp only [Bool.false_eq_true, if_false, Bool.false_and, if_true]
    exact hj true
  · simp only [if_true, Bool.true_and]
    cases hh : has s
    · simp only [Bool.false_eq_true, if_false, Bool.false_and, Bool.not_false, Bool.true_eq_false]
      exact hj false
    · simp only [if_true, Bool.true_and]
      refine Ev.bind (ver_ev (cutB s) (by omega)) ?_
      have := hj (ver (cutB s) == 0)
      by_cases hv : ver (cutB s) = 0
      · rw [beq_iff_eq.mpr hv] at this ⊢
        rw [decide_eq_true hv]
        exact this
      · rw [beq_eq_false_iff_ne.mpr hv] at this ⊢
        rw [decide_eq_false hv]
        simp only [Bool.false_eq_true, if_false] at this
        simp only [Bool.not_false, Bool.true_eq_false, if_false]
        exact this
theorem split_ev (s : ByteArray) (hs : s.size < 4294967281) : Ev (fun k => name_Split.f k s) (if chk s = 0 then (cutA s, ver (cutB s), 0) else ((⟨#[]⟩ : ByteArray), 0, chk s)) := by
  have hc : strings_Cut.f s (⟨#[64]⟩ : ByteArray) = some (cutA s, cutB s, has s) := by
    unfold strings_Cut.f
    rw [if_pos hs]
    rfl
  have hj : ∀ b : Bool, Ev (fun k => name_Split.j0 k s (cutA s) (ver (cutB s)) b) (if b = true then ((⟨#[]⟩ : ByteArray), 0, 6) else if runes s > 24 then ((⟨#[]⟩ : ByteArray), 0, 5) else (cutA s, ver (cutB s), 0)) := fun b => by
    refine ⟨1, fun k hk => ?_⟩
    obtain ⟨k, rfl⟩ : ∃ m, k = m + 1 := ⟨k - 1, by omega⟩
    simp only [name_Split.j0]
    cases b
    · simp only [Bool.false_eq_true, if_false, name_Runes.f, Option.bind_some]
      split <;> rfl
    · simp
  unfold name_Split.f
  simp only [hc, Option.bind_some, name_version.f, name_isStem.f]
  unfold chk okN
  cases hst : stem (cutA s)
  · simp only [Bool.false_eq_true, if_false, Bool.false_and, if_true]
    exact hj true
  · simp only [if_true, Bool.true_and]
    cases hh : has s
    · simp only [Bool.false_eq_true, if_false, Bool.false_and, Bool.not_false, Bool.true_eq_false]
      have := hj false
      simp only [Bool.false_eq_true, if_false] at this
      split at this
      · rename_i h; simpa [h] using this
      · rename_i h; simpa [h] using this
    · simp only [if_true, Bool.true_and]
      have := hj (ver (cutB s) == 0)
      by_cases hv : ver (cutB s) = 0
      · rw [beq_iff_eq.mpr hv] at this ⊢
        rw [decide_eq_true hv]
        simpa using this
      · rw [beq_eq_false_iff_ne.mpr hv] at this ⊢
        rw [decide_eq_false hv]
        simp only [Bool.false_eq_true, if_false] at this
        simp only [Bool.not_false, Bool.true_eq_false, if_false]
        split at this
        · rename_i h; simpa [h] using this
        · rename_i h; simpa [h] using this
theorem check_ev (s : ByteArray) (hs : s.size < 4294967281) : Ev (fun k => name_Check.f k s) (chk s) := by
  unfold name_Check.f
  refine Ev.bind (split_ev s hs) ?_
  split
  · rename_i h; rw [h]; exact Ev.now _
  · exact Ev.now _
end Go.Proofs.YtlgmboaoemlnpaaDoor.Nm
