import Derived.Test.YtlejfpakgoaffaaDoorNmLaws
import Derived.Sort.Walk0
/- Names, pure: folding keeps names; parts and joins; the order. -/
namespace Go.Proofs.YtlejfpakgoaffaaDoor.Nm
open Go.Lib Go.RowKit Go.Proofs.YtlejfpakgoaffaaDoorW.PrintWords Go.Proofs.YtlejfpakgoaffaaDoor.P
set_option linter.unusedVariables false

/-! ### folding -/
def foldN (c : Nat) : Nat := if 65 ≤ c ∧ c ≤ 90 then c + 32 else c
theorem foldI_N (c : Nat) (h : c < 256) : foldI (c : Int) = (foldN c : Int) := by
  rw [foldI_ref _ (by omega) (by omega)]
  unfold foldN
  split
  · split
    · rw [if_pos (by omega)]; omega
    · rw [if_neg (by omega)]
  · rw [if_neg (by omega)]
theorem foldN_lt (c : Nat) (h : c < 256) : foldN c < 256 := by unfold foldN; split <;> omega
theorem foldN_two (c : Nat) : foldN (foldN c) = foldN c := by unfold foldN; repeat' split
                                                              all_goals omega
theorem fold_list (s : ByteArray) : (fold s).data.toList = s.data.toList.map fun b => UInt8.ofNat (foldN b.toNat) := by
  unfold fold strOfNums bytesOf
  simp only [List.map_map]
  show (List.map _ _) = _
  refine List.map_congr_left fun b _ => ?_
  simp only [Function.comp]
  rw [foldI_N _ (UInt8.toNat_lt b), Int.toNat_natCast]
theorem fold_size (s : ByteArray) : (fold s).size = s.size := by rw [Lib.size_eq, Lib.size_eq, fold_list, List.length_map]
theorem fold_get (s : ByteArray) (i : Nat) : ((fold s).get! i).toNat = foldN (s.get! i).toNat := by
  rw [get!_list, get!_list, fold_list]
  by_cases h : i < s.data.toList.length
  · simp only [List.getD_eq_getElem?_getD, List.getElem?_map, List.getElem?_eq_getElem h, Option.map_some, Option.getD_some]
    exact UInt8.toNat_ofNat_of_lt' (foldN_lt _ (UInt8.toNat_lt _))
  · simp only [List.getD_eq_getElem?_getD, List.getElem?_map, List.getElem?_eq_none (Nat.le_of_not_lt h), Option.map_none, Option.getD_none]
    decide
theorem ext_get {a b : ByteArray} (hs : a.size = b.size) (h : ∀ i, i < a.size → (a.get! i).toNat = (b.get! i).toNat) : a = b := by
  apply ba_ext
  refine List.ext_getElem (by rw [← Lib.size_eq, ← Lib.size_eq, hs]) fun i h1 h2 => ?_
  have := h i (by rw [Lib.size_eq]; exact h1)
  rw [get!_list, get!_list, List.getD_eq_getElem?_getD, List.getD_eq_getElem?_getD, List.getElem?_eq_getElem h1, List.getElem?_eq_getElem h2] at this
  exact UInt8.toNat_inj.mp this
theorem fold_two (s : ByteArray) : fold (fold s) = fold s :=
  ext_get (fold_size _) fun i _ => by rw [fold_get, fold_get, foldN_two]
theorem foldN_div (b : Nat) : (foldN b / 64 = 2) = (b / 64 = 2) := by
  unfold foldN
  split
  · apply propext; omega
  · rfl
theorem foldN_same (b : Nat) (h : b / 64 = 2) : foldN b = b := by unfold foldN; rw [if_neg (by omega)]
theorem decodeN_low (n b0 b1 b2 b3 : Nat) (h : b0 < 128) : decodeN n b0 b1 b2 b3 = (b0, 1) := by unfold decodeN; rw [if_pos h]
theorem decodeN_tail (n b0 b1 b2 b3 : Nat) (h : ¬ b0 < 128) : decodeN n b0 (foldN b1) (foldN b2) (foldN b3) = decodeN n b0 b1 b2 b3 := by
  unfold decodeN
  rw [if_neg h, if_neg h]
  simp only [foldN_div]
  by_cases h1 : b1 / 64 = 2
  · rw [foldN_same b1 h1]
    by_cases h2 : b2 / 64 = 2
    · rw [foldN_same b2 h2]
      by_cases h3 : b3 / 64 = 2
      · rw [foldN_same b3 h3]
      · simp only [h3, and_false, if_false]
    · simp only [h2, and_false, false_and, if_false]
  · simp only [h1, and_false, false_and, if_false]
theorem decodeN_tail' (n b0 b1 b2 b3 : Nat) (h : ¬ b0 < 128) : decodeN n (foldN b0) (foldN b1) (foldN b2) (foldN b3) = decodeN n b0 b1 b2 b3 := by
  rw [show foldN b0 = b0 from by unfold foldN; rw [if_neg (by omega)]]
  exact decodeN_tail n b0 b1 b2 b3 h
theorem decode_fold (s : ByteArray) (p : Nat) : Utf8.decode (fold s) p = if (Utf8.decode s p).1 < 128 then (foldN (Utf8.decode s p).1, (Utf8.decode s p).2) else Utf8.decode s p := by
  by_cases h : (s.get! p).toNat < 128
  · have h2 : ((fold s).get! p).toNat < 128 := by rw [fold_get]; unfold foldN; split <;> omega
    rw [dec_ascii s p h, dec_ascii _ p h2, fold_get, if_pos h]
  · have h2 := dec_high s p h
    rw [if_neg (by omega), decode_at, decode_at, fold_size, fold_get, fold_get, fold_get, fold_get, decodeN_tail' _ _ _ _ _ h]

theorem width_fold (s : ByteArray) (p : Nat) : (Utf8.decode (fold s) p).2 = (Utf8.decode s p).2 := by
  rw [decode_fold]
  split <;> rfl
theorem rune_fold (s : ByteArray) (p : Nat) : (Utf8.decode (fold s) p).1 = foldN (Utf8.decode s p).1 := by
  rw [decode_fold]
  split
  · rfl
  · unfold foldN; rw [if_neg (by omega)]
/-- A rune in small letters. -/
def foldZ (c : Int) : Int := if 65 ≤ c ∧ c ≤ 90 then c + 32 else c
theorem rv_fold (s : ByteArray) (p : Nat) : rv (fold s) p = foldZ (rv s p) := by
  unfold rv
  rw [width_fold, rune_fold]
  have e : (foldN (Utf8.decode s p).1 = 65533) = ((Utf8.decode s p).1 = 65533) := by
    unfold foldN
    split
    · apply propext; omega
    · rfl
  simp only [e]
  unfold foldZ foldN
  repeat' split
  all_goals omega
theorem rl_fold (s : ByteArray) : ∀ f p, rl (fold s) f p = (rl s f p).map foldZ
  | 0, _ => rfl
  | f + 1, p => by
    unfold rl
    rw [fold_size, width_fold, rl_fold s f, rv_fold]
    split <;> rfl
theorem rlist_fold (s : ByteArray) : rlist (fold s) = (rlist s).map foldZ := by
  unfold rlist
  rw [fold_size, rl_fold]
theorem runes_fold (s : ByteArray) (hs : s.size < 17592186044416) : runes (fold s) = runes s := by
  rw [runes_rl _ (by rw [fold_size]; exact hs), runes_rl _ hs, rlist_fold, List.length_map]
theorem letR_fold (c : Int) : letR (foldZ c) = letR c := by
  unfold letR foldZ
  rw [Bool.eq_iff_iff]
  simp only [Bool.or_eq_true, Bool.and_eq_true, decide_eq_true_eq]
  split <;> omega
theorem okR_fold (c : Int) : okR (foldZ c) = okR c := by
  unfold okR
  rw [letR_fold]
  unfold digR foldZ
  cases h : letR c
  · have h2 : ¬ (((97 ≤ c ∧ c ≤ 122) ∨ (65 ≤ c ∧ c ≤ 90)) ∨ 128 ≤ c) := fun h3 => by
      have : letR c = true := by unfold letR; simp only [Bool.or_eq_true, Bool.and_eq_true, decide_eq_true_eq]; exact h3
      rw [h] at this; cases this
    rw [if_neg (by omega)]
  · rfl
theorem stem_fold (s : ByteArray) : stem (fold s) = stem s := by
  rw [stem_rl, stem_rl, rlist_fold]
  cases rlist s with
  | nil => rfl
  | cons c t =>
    simp only [List.map_cons, stemL, letR_fold, List.all_map]
    congr 2
    funext x
    exact okR_fold x
theorem verFrom_fold (s : ByteArray) : ∀ f p n, verFrom (fold s) f p n = verFrom s f p n
  | 0, _, _ => rfl
  | f + 1, p, n => by
    unfold verFrom
    rw [fold_size, width_fold, rune_fold, verFrom_fold s f]
    by_cases h : 65 ≤ (Utf8.decode s p).1 ∧ (Utf8.decode s p).1 ≤ 90
    · have e : foldN (Utf8.decode s p).1 = (Utf8.decode s p).1 + 32 := by unfold foldN; rw [if_pos h]
      rw [e]
      split
      · rw [if_pos (by omega), if_pos (by omega)]
      · rfl
    · have e : foldN (Utf8.decode s p).1 = (Utf8.decode s p).1 := by unfold foldN; rw [if_neg h]
      rw [e]
theorem ver_fold (s : ByteArray) : ver (fold s) = ver s := by
  unfold ver
  rw [fold_size, fold_get, verFrom_fold]
  have e : (foldN (s.get! 0).toNat = 48) = ((s.get! 0).toNat = 48) := by
    unfold foldN
    split
    · apply propext; omega
    · rfl
  simp only [e]
theorem at64 (b : Nat) : foldN b = 64 ↔ b = 64 := by unfold foldN; split <;> omega
theorem get!_ex0 (s : ByteArray) (a b i : Nat) (hb : b ≤ s.size) (hi : i < b - a) : (s.extract a b).get! i = s.get! (a + i) := by
  rw [get!_list, get!_list, Lib.extract_data]
  simp only [List.getD_eq_getElem?_getD, List.getElem?_take, List.getElem?_drop, if_pos hi]
theorem fold_extract (s : ByteArray) (a b : Nat) (hb : b ≤ s.size) : fold (s.extract a b) = (fold s).extract a b := by
  refine ext_get ?_ fun i hi => ?_
  · rw [fold_size, ex_size _ _ _ hb, ex_size _ _ _ (by rw [fold_size]; exact hb)]
  · rw [fold_size, ex_size _ _ _ hb] at hi
    rw [fold_get, get!_ex0 _ _ _ _ hb hi, get!_ex0 _ _ _ _ (by rw [fold_size]; exact hb) hi, fold_get]
theorem parts_fold (s : ByteArray) : has (fold s) = has s ∧ cutA (fold s) = fold (cutA s) ∧ cutB (fold s) = fold (cutB s) := by
  rcases at_spec s with ⟨h1, h2, h3, h4⟩ | ⟨j, hj, h1, h2, h3, h4, h5⟩
  · rcases at_spec (fold s) with ⟨g1, g2, g3, g4⟩ | ⟨i, hi, g1, g2, g3, g4, g5⟩
    · exact ⟨by rw [g1, h1], by rw [g2, h2], by rw [g3, h3]; rfl⟩
    · rw [fold_get, at64] at g4
      exact absurd g4 (h4 i (by rw [fold_size] at hi; exact hi))
  · rcases at_spec (fold s) with ⟨g1, g2, g3, g4⟩ | ⟨i, hi, g1, g2, g3, g4, g5⟩
    · exact absurd (by rw [fold_get, at64]; exact h4) (g4 j (by rw [fold_size]; exact hj))
    · rw [fold_get, at64] at g4
      have e : i = j := by
        rcases Nat.lt_trichotomy i j with h | h | h
        · exact absurd g4 (h5 i h)
        · exact h
        · exact absurd (by rw [fold_get, at64]; exact h4) (g5 j h)
      subst e
      refine ⟨by rw [g1, h1], ?_, ?_⟩
      · rw [g2, h2, fold_extract _ _ _ (by omega)]
      · rw [g3, h3, fold_extract _ _ _ (by omega), fold_size]
theorem chk_fold (s : ByteArray) (hs : s.size < 17592186044416) : chk (fold s) = chk s := by
  obtain ⟨h1, h2, h3⟩ := parts_fold s
  unfold chk okN
  rw [h1, h2, h3, stem_fold, ver_fold, runes_fold s hs]
theorem folded_ev (s : ByteArray) (hs : s.size < 4294967281) : Ev (fun k => budwoodlaw02_NameFolded.f k s) true := by
  unfold budwoodlaw02_NameFolded.f
  have hf : ∀ t : ByteArray, t.size < 4294967281 → name_Fold.f t = some (fold t) := fun t ht => by unfold name_Fold.f; rw [if_pos (by omega)]
  have hz := fold_size s
  simp only [hf s hs, hf (fold s) (by omega), Option.bind_some, fold_two, hz, if_true, name_Runes.f, runes_fold s (by omega)]
  refine Ev.bind (check_ev (fold s) (by omega)) (Ev.bind (check_ev s hs) ?_)
  rw [chk_fold s (by omega)]
  simp only [if_true]
  exact awake_end
end Go.Proofs.YtlejfpakgoaffaaDoor.Nm
