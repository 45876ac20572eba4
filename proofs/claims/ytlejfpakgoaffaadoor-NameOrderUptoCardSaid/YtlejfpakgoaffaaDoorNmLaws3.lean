import Derived.Test.YtlejfpakgoaffaaDoorNmLaws2
import Derived.Test.YtlejfpakgoaffaaDoorPx6
/- Names, pure: parts and joins; the order. -/
namespace Go.Proofs.YtlejfpakgoaffaaDoor.Nm
open Go.Lib Go.RowKit Go.Proofs.YtlejfpakgoaffaaDoorW.PrintWords Go.Proofs.YtlejfpakgoaffaaDoor.P
set_option linter.unusedVariables false

theorem u16_range {n : Int} (h : (Lit.int .u16 n).wf = true) : 0 ≤ n ∧ n < 65536 := by
  have e : IntKind.u16.min ≤ n ∧ n ≤ IntKind.u16.max := by simpa [Lit.wf] using h
  have e1 : IntKind.u16.min = 0 := by decide
  have e2 : IntKind.u16.max = 65535 := by decide
  omega

/-! ### versions and their digits -/
theorem ver_step (s : ByteArray) (f p : Nat) (n : Int) (h : p < s.size) : verFrom s (f + 1) p n = if 48 ≤ (s.get! p).toNat ∧ (s.get! p).toNat ≤ 57 then verFrom s f (p + 1) (wrap64 (wrap64 (10 * n) + (((s.get! p).toNat : Int) - 48))) else 0 := by
  rw [verFrom, if_pos h]
  by_cases ha : (s.get! p).toNat < 128
  · rw [dec_ascii s p ha]
    by_cases hd : 48 ≤ (s.get! p).toNat ∧ (s.get! p).toNat ≤ 57
    · rw [if_pos hd, if_neg (by omega)]
    · rw [if_neg hd, if_pos (by omega)]
  · have := dec_high s p ha
    rw [if_pos (by omega), if_neg (by omega)]
/-- The text of so many bytes. -/
def tx (l : List Nat) : ByteArray := ⟨(l.map UInt8.ofNat).toArray⟩
theorem get_tx (s : ByteArray) : s = tx (s.data.toList.map UInt8.toNat) := by
  apply ba_ext
  unfold tx
  simp [Function.comp_def]
theorem itoa1 : ∀ a : Fin 10, a.val ≠ 0 → ((Lib.itoa ((a.val : Nat) : Int)) = [UInt8.ofNat (48 + a.val)]) := by decide +kernel
theorem itoa2 : ∀ a b : Fin 10, a.val ≠ 0 → ((Lib.itoa ((10 * a.val + b.val : Nat) : Int)) = [UInt8.ofNat (48 + a.val), UInt8.ofNat (48 + b.val)]) := by decide +kernel
theorem itoa3 : ∀ a b c : Fin 10, a.val ≠ 0 → ((Lib.itoa ((100 * a.val + 10 * b.val + c.val : Nat) : Int)) = [UInt8.ofNat (48 + a.val), UInt8.ofNat (48 + b.val), UInt8.ofNat (48 + c.val)]) := by decide +kernel
theorem list_of_get (s : ByteArray) (n : Nat) (h : s.size = n) : s.data.toList = (List.range n).map fun i => s.get! i := by
  refine List.ext_getElem (by rw [← Lib.size_eq, h]; simp) fun i h1 h2 => ?_
  rw [List.getElem_map, List.getElem_range, get!_list, List.getD_eq_getElem?_getD, List.getElem?_eq_getElem h1]
  rfl
theorem u8_of (x : UInt8) (d : Nat) (h : x.toNat = 48 + d) : x = UInt8.ofNat (48 + d) := by rw [← h, UInt8.ofNat_toNat]
/-- A version that is none of 0 is the text of its digits, from 1 to 999. -/
theorem ver_back (s : ByteArray) (h : ver s ≠ 0) : 0 < ver s ∧ ver s ≤ 999 ∧ s = ⟨(Lib.itoa (ver s)).toArray⟩ := by
  have hz : ¬ (s.size = 0 ∨ 3 < s.size ∨ (s.get! 0).toNat = 48) := fun hc => h (by unfold ver; rw [if_pos hc])
  have hv : ver s = verFrom s s.size 0 0 := by unfold ver; rw [if_neg hz]
  obtain ⟨x0, hx0⟩ : ∃ x, (s.get! 0).toNat = x := ⟨_, rfl⟩
  obtain ⟨x1, hx1⟩ : ∃ x, (s.get! 1).toNat = x := ⟨_, rfl⟩
  obtain ⟨x2, hx2⟩ : ∃ x, (s.get! 2).toNat = x := ⟨_, rfl⟩
  have key : ∀ v : Int, ver s = v → (0 < v ∧ v ≤ 999 ∧ s.data.toList = Lib.itoa v) → 0 < ver s ∧ ver s ≤ 999 ∧ s = ⟨(Lib.itoa (ver s)).toArray⟩ := fun v e ⟨h1, h2, h3⟩ => by
    rw [e]
    exact ⟨h1, h2, ba_ext (by simpa using h3)⟩
  have hs : s.size = 1 ∨ s.size = 2 ∨ s.size = 3 := by omega
  rcases hs with hs | hs | hs
  · rw [hs, ver_step s 0 0 0 (by omega), verFrom_end _ _ _ _ (by omega), hx0] at hv
    by_cases hd : 48 ≤ x0 ∧ x0 ≤ 57
    · rw [if_pos hd, show wrap64 ((10 : Int) * 0) = 0 by unfold wrap64; decide, w64 (by omega) (by omega)] at hv
      refine key (x0 - 48) (by omega) ⟨by omega, by omega, ?_⟩
      have := itoa1 ⟨x0 - 48, by omega⟩ (by simp only; omega)
      simp only at this
      rw [show ((x0 : Int) - 48) = ((x0 - 48 : Nat) : Int) by omega, this, list_of_get s 1 hs]
      simp only [List.range_succ, List.range_zero, List.nil_append, List.map_cons, List.map_nil]
      rw [u8_of (s.get! 0) (x0 - 48) (by omega)]
    · rw [if_neg hd] at hv; exact absurd hv h
  · rw [hs, ver_step s 1 0 0 (by omega), ver_step s 0 1 _ (by omega), verFrom_end _ _ _ _ (by omega), hx0, hx1] at hv
    by_cases hd : 48 ≤ x0 ∧ x0 ≤ 57
    · by_cases hd1 : 48 ≤ x1 ∧ x1 ≤ 57
      · rw [if_pos hd, if_pos hd1, show wrap64 ((10 : Int) * 0) = 0 by unfold wrap64; decide, w64 (x := 0 + ((x0 : Int) - 48)) (by omega) (by omega), w64 (x := 10 * (0 + ((x0 : Int) - 48))) (by omega) (by omega), w64 (by omega) (by omega)] at hv
        refine key (10 * (x0 - 48) + (x1 - 48)) (by omega) ⟨by omega, by omega, ?_⟩
        have := itoa2 ⟨x0 - 48, by omega⟩ ⟨x1 - 48, by omega⟩ (by simp only; omega)
        simp only at this
        rw [show (10 * ((x0 : Int) - 48) + (x1 - 48)) = ((10 * (x0 - 48) + (x1 - 48) : Nat) : Int) by omega, this, list_of_get s 2 hs]
        simp only [List.range_succ, List.range_zero, List.nil_append, List.map_cons, List.map_nil, List.cons_append]
        rw [u8_of (s.get! 0) (x0 - 48) (by omega), u8_of (s.get! 1) (x1 - 48) (by omega)]
      · rw [if_pos hd, if_neg hd1] at hv; exact absurd hv h
    · rw [if_neg hd] at hv; exact absurd hv h
  · rw [hs, ver_step s 2 0 0 (by omega), ver_step s 1 1 _ (by omega), ver_step s 0 2 _ (by omega), verFrom_end _ _ _ _ (by omega), hx0, hx1, hx2] at hv
    by_cases hd : 48 ≤ x0 ∧ x0 ≤ 57
    · by_cases hd1 : 48 ≤ x1 ∧ x1 ≤ 57
      · by_cases hd2 : 48 ≤ x2 ∧ x2 ≤ 57
        · rw [if_pos hd, if_pos hd1, if_pos hd2, show wrap64 ((10 : Int) * 0) = 0 by unfold wrap64; decide, w64 (x := 0 + ((x0 : Int) - 48)) (by omega) (by omega), w64 (x := 10 * (0 + ((x0 : Int) - 48))) (by omega) (by omega), w64 (x := 10 * (0 + ((x0 : Int) - 48)) + ((x1 : Int) - 48)) (by omega) (by omega), w64 (x := 10 * (10 * (0 + ((x0 : Int) - 48)) + ((x1 : Int) - 48))) (by omega) (by omega), w64 (by omega) (by omega)] at hv
          refine key (100 * (x0 - 48) + 10 * (x1 - 48) + (x2 - 48)) (by omega) ⟨by omega, by omega, ?_⟩
          have := itoa3 ⟨x0 - 48, by omega⟩ ⟨x1 - 48, by omega⟩ ⟨x2 - 48, by omega⟩ (by simp only; omega)
          simp only at this
          rw [show (100 * ((x0 : Int) - 48) + 10 * (x1 - 48) + (x2 - 48)) = ((100 * (x0 - 48) + 10 * (x1 - 48) + (x2 - 48) : Nat) : Int) by omega, this, list_of_get s 3 hs]
          simp only [List.range_succ, List.range_zero, List.nil_append, List.map_cons, List.map_nil, List.cons_append]
          rw [u8_of (s.get! 0) (x0 - 48) (by omega), u8_of (s.get! 1) (x1 - 48) (by omega), u8_of (s.get! 2) (x2 - 48) (by omega)]
        · rw [if_pos hd, if_pos hd1, if_neg hd2] at hv; exact absurd hv h
      · rw [if_pos hd, if_neg hd1] at hv; exact absurd hv h
    · rw [if_neg hd] at hv; exact absurd hv h
/-- The digits of a number from 1 to 999, and how they are read. -/
theorem ver_itoa (n : Int) (h0 : 0 < n) (h1 : n ≤ 999) : ver ⟨(Lib.itoa n).toArray⟩ = n ∧ ∀ i, ((⟨(Lib.itoa n).toArray⟩ : ByteArray).get! i).toNat ≠ 64 := by
  have fin : ∀ s : ByteArray, ∀ l : List Nat, s.data.toList = l.map (fun d => UInt8.ofNat (48 + d)) → (∀ d ∈ l, d < 10) → ∀ i, i < s.size → ∃ d, l[i]? = some d ∧ (s.get! i).toNat = 48 + d := fun s l hl hd i hi => by
    have hi2 : i < l.length := by have := Lib.size_eq s; rw [hl, List.length_map] at this; omega
    refine ⟨l[i], List.getElem?_eq_getElem hi2, ?_⟩
    rw [get!_list, hl, List.getD_eq_getElem?_getD, List.getElem?_map, List.getElem?_eq_getElem hi2]
    have := hd l[i] (List.getElem_mem hi2)
    simp only [Option.map_some, Option.getD_some]
    exact UInt8.toNat_ofNat_of_lt' (by have : UInt8.size = 256 := rfl; omega)
  have all : ∀ s : ByteArray, ∀ l : List Nat, s.data.toList = l.map (fun d => UInt8.ofNat (48 + d)) → (∀ d ∈ l, d < 10) → ∀ i, (s.get! i).toNat ≠ 64 := fun s l hl hd i => by
    by_cases hi : i < s.size
    · obtain ⟨d, e1, e2⟩ := fin s l hl hd i hi
      have := hd d (List.mem_of_getElem? e1)
      omega
    · rw [get!_out s i (by omega)]; decide
  obtain ⟨s, hs⟩ : ∃ s : ByteArray, s = ⟨(Lib.itoa n).toArray⟩ := ⟨_, rfl⟩
  have hl : s.data.toList = Lib.itoa n := by rw [hs]
  rw [← hs]
  clear hs
  have hcase : n < 10 ∨ (10 ≤ n ∧ n < 100) ∨ 100 ≤ n := by omega
  rcases hcase with hc | hc | hc
  · have e := itoa1 ⟨n.toNat, by omega⟩ (by simp only; omega)
    simp only [Int.toNat_of_nonneg (show 0 ≤ n by omega)] at e
    rw [e] at hl
    have hd : ∀ d ∈ [n.toNat], d < 10 := by simp; omega
    have hz : s.size = 1 := by rw [Lib.size_eq, hl]; rfl
    have f0 := fin s [n.toNat] hl hd 0 (by omega)
    obtain ⟨d0, a0, b0⟩ := f0
    simp at a0
    refine ⟨?_, all s [n.toNat] hl hd⟩
    unfold ver
    rw [if_neg (by omega), hz, ver_step s 0 0 0 (by omega), verFrom_end _ _ _ _ (by omega), b0, if_pos (by omega), show wrap64 ((10 : Int) * 0) = 0 by unfold wrap64; decide, w64 (by omega) (by omega)]
    omega
  · have e := itoa2 ⟨(n / 10).toNat, by omega⟩ ⟨(n % 10).toNat, by omega⟩ (by simp only; omega)
    simp only at e
    rw [show ((10 * (n / 10).toNat + (n % 10).toNat : Nat) : Int) = n by omega] at e
    rw [e] at hl
    have hd : ∀ d ∈ [(n / 10).toNat, (n % 10).toNat], d < 10 := by simp; omega
    have hz : s.size = 2 := by rw [Lib.size_eq, hl]; rfl
    obtain ⟨d0, a0, b0⟩ := fin s [(n / 10).toNat, (n % 10).toNat] hl hd 0 (by omega)
    obtain ⟨d1, a1, b1⟩ := fin s [(n / 10).toNat, (n % 10).toNat] hl hd 1 (by omega)
    simp at a0 a1
    refine ⟨?_, all s [(n / 10).toNat, (n % 10).toNat] hl hd⟩
    unfold ver
    rw [if_neg (by omega), hz, ver_step s 1 0 0 (by omega), ver_step s 0 1 _ (by omega), verFrom_end _ _ _ _ (by omega), b0, b1, if_pos (by omega), if_pos (by omega), show wrap64 ((10 : Int) * 0) = 0 by unfold wrap64; decide, w64 (x := 0 + (((48 + d0 : Nat) : Int) - 48)) (by omega) (by omega), w64 (x := 10 * (0 + (((48 + d0 : Nat) : Int) - 48))) (by omega) (by omega), w64 (by omega) (by omega)]
    omega
  · have e := itoa3 ⟨(n / 100).toNat, by omega⟩ ⟨(n / 10 % 10).toNat, by omega⟩ ⟨(n % 10).toNat, by omega⟩ (by simp only; omega)
    simp only at e
    rw [show ((100 * (n / 100).toNat + 10 * (n / 10 % 10).toNat + (n % 10).toNat : Nat) : Int) = n by omega] at e
    rw [e] at hl
    have hd : ∀ d ∈ [(n / 100).toNat, (n / 10 % 10).toNat, (n % 10).toNat], d < 10 := by simp; omega
    have hz : s.size = 3 := by rw [Lib.size_eq, hl]; rfl
    obtain ⟨d0, a0, b0⟩ := fin s [(n / 100).toNat, (n / 10 % 10).toNat, (n % 10).toNat] hl hd 0 (by omega)
    obtain ⟨d1, a1, b1⟩ := fin s [(n / 100).toNat, (n / 10 % 10).toNat, (n % 10).toNat] hl hd 1 (by omega)
    obtain ⟨d2, a2, b2⟩ := fin s [(n / 100).toNat, (n / 10 % 10).toNat, (n % 10).toNat] hl hd 2 (by omega)
    simp at a0 a1 a2
    refine ⟨?_, all s [(n / 100).toNat, (n / 10 % 10).toNat, (n % 10).toNat] hl hd⟩
    unfold ver
    rw [if_neg (by omega), hz, ver_step s 2 0 0 (by omega), ver_step s 1 1 _ (by omega), ver_step s 0 2 _ (by omega), verFrom_end _ _ _ _ (by omega), b0, b1, b2, if_pos (by omega), if_pos (by omega), if_pos (by omega), show wrap64 ((10 : Int) * 0) = 0 by unfold wrap64; decide,
      w64 (x := 0 + (((48 + d0 : Nat) : Int) - 48)) (by omega) (by omega), w64 (x := 10 * (0 + (((48 + d0 : Nat) : Int) - 48))) (by omega) (by omega), w64 (x := 10 * (0 + (((48 + d0 : Nat) : Int) - 48)) + (((48 + d1 : Nat) : Int) - 48)) (by omega) (by omega), w64 (x := 10 * (10 * (0 + (((48 + d0 : Nat) : Int) - 48)) + (((48 + d1 : Nat) : Int) - 48))) (by omega) (by omega), w64 (by omega) (by omega)]
    omega
theorem ver_range (s : ByteArray) : 0 ≤ ver s ∧ ver s ≤ 999 := by
  by_cases h : ver s = 0
  · omega
  · obtain ⟨h1, h2, _⟩ := ver_back s h; omega

/-! ### parts -/
theorem has_cutA (s : ByteArray) : has (cutA s) = false := by
  rcases at_spec s with ⟨h1, h2, h3, h4⟩ | ⟨j, hj, h1, h2, h3, h4, h5⟩
  · rw [h2, h1]
  · rcases at_spec (cutA s) with ⟨g1, _⟩ | ⟨i, hi, g1, g2, g3, g4, g5⟩
    · exact g1
    · rw [h2] at g4 hi
      rw [ex_size _ _ _ (by omega)] at hi
      rw [get!_ex0 s 0 j i (by omega) hi, Nat.zero_add] at g4
      exact absurd g4 (h5 i (by omega))
theorem no_has (s : ByteArray) (h : has s = false) : cutA s = s ∧ ver (cutB s) = 0 := by
  rcases at_spec s with ⟨h1, h2, h3, h4⟩ | ⟨j, hj, h1, h2, h3, h4, h5⟩
  · exact ⟨h2, by rw [h3]; rfl⟩
  · rw [h1] at h; cases h
theorem get!_app (a b : ByteArray) (i : Nat) : (a ++ b).get! i = if i < a.size then a.get! i else b.get! (i - a.size) := by
  rw [get!_list, get!_list, get!_list]
  have : (a ++ b).data.toList = a.data.toList ++ b.data.toList := by simp [ByteArray.data_append]
  rw [this, List.getD_eq_getElem?_getD, List.getD_eq_getElem?_getD, List.getD_eq_getElem?_getD, List.getElem?_append, Lib.size_eq a]
  split <;> rfl
/-- A text with an '@' is its parts, an '@' between. -/
theorem parts_back (s : ByteArray) (h : has s = true) : s = cutA s ++ ((⟨#[64]⟩ : ByteArray) ++ cutB s) := by
  rcases at_spec s with ⟨h1, h2, h3, h4⟩ | ⟨j, hj, h1, h2, h3, h4, h5⟩
  · rw [h1] at h; cases h
  · have e1 : (⟨#[64]⟩ : ByteArray).size = 1 := rfl
    rw [h2, h3]
    refine ext_get ?_ fun i hi => ?_
    · rw [ByteArray.size_append, ByteArray.size_append, ex_size _ _ _ (by omega), ex_size _ _ _ (by omega)]; omega
    · rw [get!_app, get!_app, ex_size _ _ _ (by omega), e1]
      by_cases c1 : i < j
      · rw [if_pos (by omega), get!_ex0 s 0 j i (by omega) (by omega), Nat.zero_add]
      · rw [if_neg (by omega)]
        by_cases c2 : i = j
        · rw [if_pos (by omega), show i - (j - 0) = 0 by omega, c2, h4]; rfl
        · rw [if_neg (by omega), get!_ex0 s (j + 1) s.size _ (by omega) (by omega), show j + 1 + (i - (j - 0) - 1) = i by omega]
/-- A stem without '@' and what follows are the parts of what they make. -/
theorem parts_withV (s : ByteArray) (n : Int) (h : has s = false) (h0 : 0 < n) (h1 : n ≤ 999) : has (withV s n) = true ∧ cutA (withV s n) = s ∧ ver (cutB (withV s n)) = n := by
  have hno : ∀ j, j < s.size → (s.get! j).toNat ≠ 64 := by
    rcases at_spec s with ⟨_, _, _, h4⟩ | ⟨j, hj, g1, _⟩
    · exact h4
    · rw [g1] at h; cases h
  obtain ⟨hv, hn64⟩ := ver_itoa n h0 h1
  have e1 : (⟨#[64]⟩ : ByteArray).size = 1 := rfl
  have hz : (withV s n).size = s.size + (1 + (⟨(Lib.itoa n).toArray⟩ : ByteArray).size) := by unfold withV; rw [ByteArray.size_append, ByteArray.size_append, e1]
  have hg : ∀ i, (withV s n).get! i = if i < s.size then s.get! i else if i - s.size < 1 then (⟨#[64]⟩ : ByteArray).get! (i - s.size) else (⟨(Lib.itoa n).toArray⟩ : ByteArray).get! (i - s.size - 1) := fun i => by
    unfold withV; rw [get!_app, get!_app, e1]
  have hat : ((withV s n).get! s.size).toNat = 64 := by rw [hg, if_neg (by omega), if_pos (by omega), Nat.sub_self]; rfl
  rcases at_spec (withV s n) with ⟨g1, g2, g3, g4⟩ | ⟨j, hj, g1, g2, g3, g4, g5⟩
  · exact absurd hat (g4 s.size (by omega))
  · have e : j = s.size := by
      rcases Nat.lt_trichotomy j s.size with c | c | c
      · rw [hg, if_pos c] at g4; exact absurd g4 (hno j c)
      · exact c
      · exact absurd hat (g5 s.size c)
    subst e
    refine ⟨g1, ?_, ?_⟩
    · rw [g2]
      refine ext_get (by rw [ex_size _ _ _ (by omega)]; omega) fun i hi => ?_
      rw [ex_size _ _ _ (by omega)] at hi
      rw [get!_ex0 _ _ _ _ (by omega) hi, Nat.zero_add, hg, if_pos (by omega)]
    · have : cutB (withV s n) = ⟨(Lib.itoa n).toArray⟩ := by
        rw [g3]
        refine ext_get (by rw [ex_size _ _ _ (by omega)]; omega) fun i hi => ?_
        rw [ex_size _ _ _ (by omega)] at hi
        rw [get!_ex0 _ _ _ _ (by omega) hi, hg, if_neg (by omega), if_neg (by omega), show s.size + 1 + i - s.size - 1 = i by omega]
      rw [this, hv]
/-- What a name's parts make is the name. -/
theorem join_split (s : ByteArray) (h : chk s = 0) : joinR (cutA s) (ver (cutB s)) = (s, 0) := by
  have hr := ver_range (cutB s)
  have hA := has_cutA s
  have hok : okN s = true := by
    unfold chk at h
    cases ho : okN s
    · rw [ho] at h; simp at h
    · rfl
  have key : (if ver (cutB s) > 0 then withV (cutA s) (ver (cutB s)) else cutA s) = s := by
    cases hh : has s
    · obtain ⟨e1, e2⟩ := no_has s hh
      rw [e2, if_neg (by omega), e1]
    · have hne : ver (cutB s) ≠ 0 := fun hc => by
        unfold okN at hok
        rw [hh, hc] at hok
        simp at hok
      obtain ⟨c1, c2, c3⟩ := ver_back _ hne
      rw [if_pos c1]
      unfold withV
      rw [← c3]
      exact (parts_back s hh).symm
  unfold joinR
  rw [if_neg (by omega), hA, key]
  simp [h]
/-- What Join makes is split into what it was made of. -/
theorem split_join (s : ByteArray) (n : Int) (h0 : 0 ≤ n) (h1 : n ≤ 999) : (joinR s n).2 ≠ 0 ∧ (joinR s n).1 = ⟨#[]⟩ ∨ (joinR s n).2 = 0 ∧ splitR (joinR s n).1 = (s, n, 0) ∧ has s = false ∧ (joinR s n).1 = (if n > 0 then withV s n else s) ∧ chk (if n > 0 then withV s n else s) = 0 := by
  unfold joinR
  rw [if_neg (by omega)]
  cases hh : has s
  · simp only [Bool.false_eq_true, if_false]
    by_cases hc : chk (if n > 0 then withV s n else s) = 0
    · refine .inr ?_
      rw [if_pos hc]
      refine ⟨rfl, ?_, trivial, rfl, hc⟩
      dsimp only
      unfold splitR
      rw [if_pos hc]
      by_cases hp : n > 0
      · obtain ⟨e1, e2, e3⟩ := parts_withV s n hh (by omega) h1
        rw [if_pos hp, e2, e3]
      · obtain ⟨e1, e2⟩ := no_has s hh
        rw [if_neg hp, e1, e2, show n = 0 by omega]
    · rw [if_neg hc]
      exact .inl ⟨hc, rfl⟩
  · simp
theorem joinR_size (s : ByteArray) (n : Int) (h0 : 0 ≤ n) (h1 : n ≤ 999) : (joinR s n).1.size ≤ s.size + 18 := by
  rcases split_join s n h0 h1 with ⟨_, e⟩ | ⟨_, _, _, e, _⟩
  · rw [e]; exact Nat.zero_le _
  · rw [e]
    split
    · exact withV_size s n h0 h1
    · omega
theorem nil_list : (⟨#[]⟩ : ByteArray).toList = ([] : List UInt8) := ByteArray.toList_eq _
theorem back_half (stem : ByteArray) (k : Int) (hs : stem.size < 4294967200) (h0 : 0 ≤ k) (h1 : k ≤ 999) :
    Ev (fun j => (name_Join.f j stem k).bind fun bt218 => ((name_Split.f j bt218.1).bind fun bt220 => (if bt218.2 = 0 then (if bt220.2.2 = 0 then (if bt220.1.toList = stem.toList then (if bt220.2.1 = k then ((budwoodlaw02_awake.f j).bind fun t223 => (some t223)) else (some false)) else (some false)) else (some false)) else (if bt218.1.toList = ([] : List UInt8) then ((budwoodlaw02_awake.f j).bind fun t224 => (some t224)) else (some false))))) true := by
  have hz := joinR_size stem k h0 h1
  refine Ev.bind (join_ev stem k hs) ?_
  refine Ev.bind (a := splitR (joinR stem k).1) (split_ev (joinR stem k).1 (by omega)) ?_
  rcases split_join stem k h0 h1 with ⟨e1, e2⟩ | ⟨e1, e2, _⟩
  · simp only [if_neg e1, e2, nil_list, if_true]
    exact awake_end
  · simp only [e1, e2, if_true]
    exact awake_end
theorem back_ev (s stem : ByteArray) (v : Int) (hs : s.size < 4294967200) (ht : stem.size < 4294967200) (hv : 0 ≤ v ∧ v < 65536) : Ev (fun k => budwoodlaw02_NameBack.f k s stem v) true := by
  have ek : Int.tmod (wrap64 v) 1000 = v % 1000 := by rw [w64 (by omega) (by omega), Int.tmod_eq_emod_of_nonneg (by omega)]
  have half := back_half stem (Int.tmod (wrap64 v) 1000) ht (by rw [ek]; omega) (by rw [ek]; omega)
  have j0 : Ev (fun k => budwoodlaw02_NameBack.j0 k stem v false) true := by
    refine Ev.step (fun k => by rw [budwoodlaw02_NameBack.j0]) ?_
    simp only [Bool.false_eq_true, if_false]
    exact half
  have j1 : Ev (fun k => budwoodlaw02_NameBack.j1 k stem v false) true := by
    refine Ev.step (fun k => by rw [budwoodlaw02_NameBack.j1]) ?_
    simp only [Bool.false_eq_true, if_false]
    exact half
  unfold budwoodlaw02_NameBack.f
  refine Ev.bind (a := splitR s) (split_ev s (by omega)) ?_
  by_cases hc : chk s = 0
  · have e : splitR s = (cutA s, ver (cutB s), 0) := by unfold splitR; rw [if_pos hc]
    have hr := ver_range (cutB s)
    have ha := cutA_size s
    simp only [e, if_true]
    refine Ev.bind (join_ev (cutA s) (ver (cutB s)) (by omega)) ?_
    rw [join_split s hc]
    simp only [if_true, if_neg (show ¬ ver (cutB s) < 0 by omega), decide_eq_false (show ¬ ver (cutB s) > 999 by omega)]
    exact j0
  · have e : splitR s = ((⟨#[]⟩ : ByteArray), 0, chk s) := by unfold splitR; rw [if_neg hc]
    simp only [e, if_neg hc, nil_list, if_true]
    refine Ev.bind (check_ev s (by omega)) ?_
    simp only [bne_self_eq_false]
    exact j1

/-! ### order -/
theorem lt_irr (a : ByteArray) : Op.bytesLess a.toList a.toList = false := by
  rw [Go.Proofs.bytesLess_eq, decide_eq_false (List.lt_irrefl _)]
theorem versions_ev (stem : ByteArray) (a b : Int) (hs : stem.size < 4294967200) (ha : 0 ≤ a ∧ a < 65536) (hb : 0 ≤ b ∧ b < 65536) : Ev (fun k => budwoodlaw02_NameVersions.f k stem a b) true := by
  have em : ∀ a : Int, 0 ≤ a ∧ a < 65536 → wrap64 (1 + (Int.tmod (wrap64 (a)) 999)) = 1 + a % 999 := fun a ha => by
    rw [w64 (x := a) (by omega) (by omega), Int.tmod_eq_emod_of_nonneg (by omega), w64 (by omega) (by omega)]
  unfold budwoodlaw02_NameVersions.f
  rw [em a ha, em b hb]
  obtain ⟨m, hm⟩ : ∃ m, 1 + a % 999 = m := ⟨_, rfl⟩
  obtain ⟨n, hn⟩ : ∃ n, 1 + b % 999 = n := ⟨_, rfl⟩
  have hm2 : 1 ≤ m ∧ m ≤ 999 := by omega
  have hn2 : 1 ≤ n ∧ n ≤ 999 := by omega
  rw [hm, hn]
  have hj : Ev (fun k => budwoodlaw02_NameVersions.j0 k m n (joinR stem m).1 (joinR stem n).1 (joinR stem 0).1 true) true := by
    refine Ev.step (fun k => by rw [budwoodlaw02_NameVersions.j0]) ?_
    simp only [if_true]
    exact awake_end
  refine Ev.bind (join_ev stem m hs) (Ev.bind (join_ev stem n hs) (Ev.bind (join_ev stem 0 hs) ?_))
  rcases split_join stem m (by omega) (by omega) with ⟨e1, _⟩ | ⟨e1, e2, e3, e4, e5⟩
  · simp only [if_neg e1]
    exact hj
  · rcases split_join stem n (by omega) (by omega) with ⟨f1, _⟩ | ⟨f1, f2, f3, f4, f5⟩
    · simp only [e1, if_true, if_neg f1]
      exact hj
    · rcases split_join stem 0 (by omega) (by omega) with ⟨g1, _⟩ | ⟨g1, g2, g3, g4, g5⟩
      · simp only [e1, f1, if_true, show ((joinR stem 0).2 != 0) = true from bne_iff_ne.mpr g1]
        exact hj
      · simp only [e1, f1, g1, if_true, bne_self_eq_false]
        refine Ev.step (fun k => by rw [budwoodlaw02_NameVersions.j0]) ?_
        simp only [Bool.false_eq_true, if_false]
        have hz1 := joinR_size stem m (by omega) (by omega)
        have hz2 := joinR_size stem n (by omega) (by omega)
        have hz3 := joinR_size stem 0 (by omega) (by omega)
        have less : ∀ (x y : ByteArray) (i j : Int), splitR x = (stem, i, 0) → splitR y = (stem, j, 0) → lessR x y = decide (i < j) := fun x y i j hx hy => by
          have c := less_core x y
          rw [hx, hy] at c
          dsimp only at c
          rw [lt_irr] at c
          simpa using c.symm
        refine Ev.bind (less_ev _ _ (by omega) (by omega)) ?_
        rw [less _ _ _ _ e2 f2]
        simp only [beq_self_eq_true, if_true]
        refine Ev.bind (less_ev _ _ (by omega) (by omega)) ?_
        rw [less _ _ _ _ g2 e2, decide_eq_true (show (0 : Int) < m by omega)]
        simp only [if_true]
        refine Ev.bind (less_ev _ _ (by omega) (by omega)) ?_
        rw [less _ _ _ _ e2 g2, decide_eq_false (show ¬ m < 0 by omega)]
        simp only [Bool.false_eq_true, if_false]
        exact awake_end
/-- A name's key. -/
theorem less_names (a b : ByteArray) (ha : chk a = 0) (hb : chk b = 0) : (lessR a b = true) ↔ (cutA a).toList < (cutA b).toList ∨ ((cutA a).toList = (cutA b).toList ∧ ver (cutB a) < ver (cutB b)) := by
  unfold lessR
  rw [if_pos ⟨ha, hb⟩, Go.Proofs.bytesLess_eq]
  simp
theorem names_eq (a b : ByteArray) (ha : chk a = 0) (hb : chk b = 0) (h1 : (cutA a).toList = (cutA b).toList) (h2 : ver (cutB a) = ver (cutB b)) : a = b := by
  have e1 := join_split a ha
  have e2 := join_split b hb
  have e3 : cutA a = cutA b := ba_ext (by rw [← ByteArray.toList_eq, ← ByteArray.toList_eq]; exact h1)
  rw [e3, h2, e2] at e1
  exact (Prod.mk.inj e1).1.symm
theorem less_irr (a : ByteArray) : lessR a a = false := by
  unfold lessR
  rw [lt_irr, lt_irr]
  simp
end Go.Proofs.YtlejfpakgoaffaaDoor.Nm
