import Derived.Test.YtlejfpakgoaffaaDoorNmPure2
import Derived.Test.YtlejfpakgoaffaaDoorPx5
/- Names, pure: the laws. -/
namespace Go.Proofs.YtlejfpakgoaffaaDoor.Nm
open Go.Lib Go.RowKit Go.Proofs.YtlejfpakgoaffaaDoorW.PrintWords Go.Proofs.YtlejfpakgoaffaaDoor.P
set_option linter.unusedVariables false

theorem ev_some {α : Type} {X : Option α} {r : α} (h : X = some r) : Ev (fun _ => X) r := ⟨0, fun _ _ => h⟩
theorem awake_ev : Ev (fun k => budwoodlaw02_awake.f k) true :=
  Ev.of (budwoodlaw02_awake.mono) (k := 3) (by decide +kernel)
theorem awake_end : Ev (fun k => (budwoodlaw02_awake.f k).bind fun t => some t) true := Ev.bind awake_ev (Ev.now _)
theorem checks_ev (s : ByteArray) (hs : s.size < 4294967281) : Ev (fun k => budwoodlaw02_NameChecks.f k s) true := by
  unfold budwoodlaw02_NameChecks.f
  refine Ev.bind (check_ev s hs) (Ev.bind (refCheck_ev s (by omega)) ?_)
  simp only [if_true]
  simp only [name_Runes.f, Option.bind_some]
  refine Ev.bind (refRunes_ev s (by omega)) ?_
  simp only [if_true]
  exact awake_end
/-- What Split tells. -/
def splitR (s : ByteArray) : ByteArray × Int × Int := if chk s = 0 then (cutA s, ver (cutB s), 0) else ((⟨#[]⟩ : ByteArray), 0, chk s)
theorem splitR_e (s : ByteArray) : (splitR s).2.2 = chk s := by
  unfold splitR
  split
  · rename_i h; rw [h]
  · rfl
theorem refSplit_ev (s : ByteArray) (hs : s.size < 4294967281) : Ev (fun k => budwoodref02_Split.f k s) (splitR s) := by
  unfold budwoodref02_Split.f splitR
  refine Ev.bind (refCheck_ev s (by omega)) ?_
  by_cases h : chk s = 0
  · simp only [h, if_true]
    refine Ev.bind (parts_ev s (by omega)) ?_
    dsimp only
    refine Ev.bind (ver_ev (cutB s) (by have := cutB_size s; omega)) ?_
    exact Ev.now _
  · simp only [h, if_false]
    exact Ev.now _
theorem splits_ev (s : ByteArray) (hs : s.size < 4294967281) : Ev (fun k => budwoodlaw02_NameSplits.f k s) true := by
  unfold budwoodlaw02_NameSplits.f
  refine Ev.bind (split_ev s hs) (Ev.bind (refSplit_ev s hs) ?_)
  rw [show (if chk s = 0 then (cutA s, ver (cutB s), (0 : Int)) else ((⟨#[]⟩ : ByteArray), 0, chk s)) = splitR s from rfl]
  simp only [if_true]
  exact awake_end

/-! ### order -/
def lessR (a b : ByteArray) : Bool :=
  if chk a = 0 ∧ chk b = 0 then Op.bytesLess (cutA a).toList (cutA b).toList || (decide ((cutA a).toList = (cutA b).toList) && decide (ver (cutB a) < ver (cutB b))) else Op.bytesLess a.toList b.toList
theorem less_core (a b : ByteArray) : (if (splitR a).2.2 = 0 then (if (splitR b).2.2 = 0 then (if (Op.bytesLess (splitR a).1.toList (splitR b).1.toList) = true then (some true) else (if (splitR a).1.toList = (splitR b).1.toList then (some (decide ((splitR a).2.1 < (splitR b).2.1))) else (some false))) else (some (Op.bytesLess a.toList b.toList))) else (some (Op.bytesLess a.toList b.toList))) = some (lessR a b) := by
  rw [splitR_e, splitR_e]
  unfold lessR
  by_cases h1 : chk a = 0
  · by_cases h2 : chk b = 0
    · rw [if_pos h1, if_pos h2, if_pos (⟨h1, h2⟩ : chk a = 0 ∧ chk b = 0)]
      have ea : splitR a = (cutA a, ver (cutB a), 0) := by unfold splitR; rw [if_pos h1]
      have eb : splitR b = (cutA b, ver (cutB b), 0) := by unfold splitR; rw [if_pos h2]
      rw [ea, eb]
      dsimp only
      cases Op.bytesLess (cutA a).toList (cutA b).toList
      · by_cases h3 : (cutA a).toList = (cutA b).toList
        · simp [h3]
        · simp [h3]
      · simp
    · rw [if_pos h1, if_neg h2, if_neg (show ¬ (chk a = 0 ∧ chk b = 0) from fun h => h2 h.2)]
  · rw [if_neg h1, if_neg (show ¬ (chk a = 0 ∧ chk b = 0) from fun h => h1 h.1)]
theorem less_ev (a b : ByteArray) (ha : a.size < 4294967281) (hb : b.size < 4294967281) : Ev (fun k => name_Less.f k a b) (lessR a b) := by
  unfold name_Less.f
  refine Ev.bind (a := splitR a) (split_ev a ha) (Ev.bind (a := splitR b) (split_ev b hb) (ev_some (less_core a b)))
theorem refLess_ev (a b : ByteArray) (ha : a.size < 4294967281) (hb : b.size < 4294967281) : Ev (fun k => budwoodref02_Less.f k a b) (lessR a b) := by
  unfold budwoodref02_Less.f
  exact Ev.bind (refSplit_ev a ha) (Ev.bind (refSplit_ev b hb) (ev_some (less_core a b)))

/-! ### folding -/
theorem foldI_ref (c : Int) (h0 : 0 ≤ c) (h1 : c < 256) : foldI c = if c ≥ 65 then (if c ≤ 90 then (c + 32) % 256 else c) else c := by
  unfold foldI
  by_cases h2 : 65 ≤ c
  · by_cases h3 : c ≤ 90
    · rw [if_pos ⟨h2, h3⟩, if_pos (by omega), if_pos h3]
      have h : ∀ n : Fin 26, Go.bits .or .u8 (((n.val + 65 : Nat)) : Int) 32 = ((n.val + 65 : Nat) : Int) + 32 := by decide +kernel
      have := h ⟨(c - 65).toNat, by omega⟩
      simp only at this
      rw [show (((c - 65).toNat + 65 : Nat) : Int) = c by omega] at this
      rw [this]
      omega
    · rw [if_neg (by omega), if_pos (by omega), if_neg h3]
  · rw [if_neg (by omega), if_neg (by omega)]
theorem fold_l0 (s : ByteArray) (hs : s.size < 17592186044416) : ∀ (d i k : Nat) (acc : List Int), i ≤ s.size → s.size - i = d → d < k → acc.length + d < 140737488355328 →
    budwoodref02_Fold.l0 k s acc (i : Int) = some (strOfNums (acc ++ ((bytesOf s).drop i).map foldI)) := by
  intro d
  induction d with
  | zero =>
    intro i k acc hi hd hk ha
    obtain ⟨k, rfl⟩ : ∃ m, k = m + 1 := ⟨k - 1, by omega⟩
    simp only [budwoodref02_Fold.l0]
    rw [if_neg (by omega), List.drop_of_length_le (by rw [bytesOf_length]; omega)]
    simp
  | succ d ih =>
    intro i k acc hi hd hk ha
    obtain ⟨k, rfl⟩ : ∃ m, k = m + 1 := ⟨k - 1, by omega⟩
    simp only [budwoodref02_Fold.l0]
    have hlt : i < s.size := by omega
    have hl : i < (bytesOf s).length := by rw [bytesOf_length]; exact hlt
    have hr := bt_range s i
    have hx : (bytesOf s)[i] = bt s (i : Int) := by
      have h1 := rd_bytesOf s (i : Int)
      unfold rd at h1
      rw [Int.toNat_natCast, List.getD_eq_getElem?_getD, List.getElem?_eq_getElem hl] at h1
      exact h1
    have go : ∀ c : Int, c = foldI (bt s (i : Int)) → budwoodref02_Fold.l0 k s (acc ++ [c]) (wrap64 ((i : Int) + 1)) = some (strOfNums (acc ++ ((bytesOf s).drop i).map foldI)) := by
      intro c hc
      rw [w64 (by omega) (by omega), show ((i : Int) + 1) = ((i + 1 : Nat) : Int) by simp, ih (i + 1) k (acc ++ [c]) (by omega) (by omega) (by omega) (by simp; omega), List.drop_eq_getElem_cons hl, List.map_cons, hx, ← hc]
      simp
    have hf := foldI_ref _ hr.1 hr.2
    rw [if_pos (by omega), if_pos (by omega)]
    by_cases h2 : bt s (i : Int) ≥ 65
    · rw [if_pos h2]
      rw [if_pos h2] at hf
      by_cases h3 : bt s (i : Int) ≤ 90
      · rw [if_pos h3, if_pos (by omega)]
        rw [if_pos h3] at hf
        exact go _ hf.symm
      · rw [if_neg h3, if_pos (by omega)]
        rw [if_neg h3] at hf
        exact go _ hf.symm
    · rw [if_neg h2, if_pos (by omega)]
      rw [if_neg h2] at hf
      exact go _ hf.symm
theorem refFold_ev (s : ByteArray) (hs : s.size < 17592186044416) : Ev (fun k => budwoodref02_Fold.f k s) (fold s) :=
  ⟨s.size + 1, fun k hk => by
    have := fold_l0 s hs s.size 0 k [] (by omega) (by omega) (by omega) (by simp; omega)
    exact this⟩
theorem folds_ev (a b : ByteArray) (ha : a.size < 4294967281) (hb : b.size < 4294967281) : Ev (fun k => budwoodlaw02_NameFolds.f k a b) true := by
  unfold budwoodlaw02_NameFolds.f
  have hf : name_Fold.f a = some (fold a) := by unfold name_Fold.f; rw [if_pos (by omega)]
  simp only [hf, Option.bind_some]
  refine Ev.bind (refFold_ev a (by omega)) ?_
  simp only [if_true]
  refine Ev.bind (less_ev a b ha hb) (Ev.bind (refLess_ev a b ha hb) ?_)
  simp only [beq_self_eq_true, if_true]
  refine Ev.bind (less_ev b a hb ha) (Ev.bind (refLess_ev b a hb ha) ?_)
  simp only [beq_self_eq_true, if_true]
  exact awake_end

/-! ### joining -/
theorem contains_f (s : ByteArray) (hs : s.size < 4294967281) : strings_Contains.f s (⟨#[64]⟩ : ByteArray) = some (has s) := by
  unfold strings_Contains.f
  rw [if_pos hs]
  unfold has Lib.contains Lib.cut
  by_cases h : 0 ≤ Lib.index s.data.toList [64]
  · rw [if_pos h, decide_eq_true h]
  · rw [if_neg h, decide_eq_false h]
theorem told_itoa (n : Int) (h0 : 0 ≤ n) (h1 : n ≤ 999) : told 17 n.toNat = ⟨(Lib.itoa n).toArray⟩ := by
  have h : ∀ m : Fin 1000, told 17 m.val = ⟨(Lib.itoa (m.val : Int)).toArray⟩ := by decide +kernel
  have := h ⟨n.toNat, by omega⟩
  simp only [Int.toNat_of_nonneg h0] at this
  exact this
theorem itoa_size (n : Int) (h0 : 0 ≤ n) (h1 : n ≤ 999) : (⟨(Lib.itoa n).toArray⟩ : ByteArray).size ≤ 17 := by
  rw [← told_itoa n h0 h1]
  exact told_size 17 n.toNat
def withV (s : ByteArray) (n : Int) : ByteArray := s ++ ((⟨#[64]⟩ : ByteArray) ++ ⟨(Lib.itoa n).toArray⟩)
theorem withV_size (s : ByteArray) (n : Int) (h0 : 0 ≤ n) (h1 : n ≤ 999) : (withV s n).size ≤ s.size + 18 := by
  unfold withV
  have := itoa_size n h0 h1
  rw [ByteArray.size_append, ByteArray.size_append]
  have e : (⟨#[64]⟩ : ByteArray).size = 1 := rfl
  omega
/-- What Join tells. -/
def joinR (s : ByteArray) (n : Int) : ByteArray × Int :=
  if n < 0 ∨ n > 999 then ((⟨#[]⟩ : ByteArray), 2) else if has s = true then ((⟨#[]⟩ : ByteArray), 6) else
    if chk (if n > 0 then withV s n else s) = 0 then ((if n > 0 then withV s n else s), 0) else ((⟨#[]⟩ : ByteArray), chk (if n > 0 then withV s n else s))
theorem join_ev (s : ByteArray) (n : Int) (hs : s.size < 4294967200) : Ev (fun k => name_Join.f k s n) (joinR s n) := by
  have hj : Ev (fun k => name_Join.f k s n) (joinR s n) ↔ Ev (fun k => name_Join.j0 k s n (decide (n < 0 ∨ n > 999))) (joinR s n) := by
    have e : (fun k => name_Join.f k s n) = (fun k => name_Join.j0 k s n (decide (n < 0 ∨ n > 999))) := by
      funext k
      unfold name_Join.f
      by_cases h : n < 0
      · rw [if_pos h, decide_eq_true (.inl h)]
      · rw [if_neg h]
        by_cases h2 : n > 999
        · rw [decide_eq_true h2, decide_eq_true (.inr h2)]
        · rw [decide_eq_false h2, decide_eq_false (by omega)]
    rw [e]
  rw [hj]
  refine Ev.step (fun k => by rw [name_Join.j0]) ?_
  unfold joinR
  by_cases h : n < 0 ∨ n > 999
  · simp only [decide_eq_true h, if_true, if_pos h]
    exact Ev.now _
  · have hn : 0 ≤ n ∧ n ≤ 999 := by omega
    simp only [decide_eq_false h, Bool.false_eq_true, if_false, if_neg h, contains_f s (by omega), Option.bind_some]
    cases hh : has s
    · simp only [Bool.false_eq_true, if_false]
      by_cases hp : n > 0
      · have hi : strconv_Itoa.f n = some ⟨(Lib.itoa n).toArray⟩ := by unfold strconv_Itoa.f; rw [if_pos (by omega)]
        have hz := itoa_size n hn.1 hn.2
        have hz2 := withV_size s n hn.1 hn.2
        simp only [if_pos hp, hi, Option.bind_some]
        rw [show (s ++ ((⟨#[64]⟩ : ByteArray) ++ ⟨(Lib.itoa n).toArray⟩)) = withV s n from rfl]
        have c1 : 1 + (⟨(Lib.itoa n).toArray⟩ : ByteArray).size ≤ 9223372036854775807 := by omega
        have c2 : s.size + ((⟨#[64]⟩ : ByteArray) ++ ⟨(Lib.itoa n).toArray⟩).size ≤ 9223372036854775807 := by
          rw [ByteArray.size_append]
          have e : (⟨#[64]⟩ : ByteArray).size = 1 := rfl
          omega
        simp only [if_pos c1, if_pos c2]
        refine Ev.bind (check_ev (withV s n) (by omega)) ?_
        by_cases hc : chk (withV s n) = 0
        · simp only [if_pos hc]; exact Ev.now _
        · simp only [if_neg hc]; exact Ev.now _
      · simp only [if_neg hp]
        refine Ev.bind (check_ev s (by omega)) ?_
        by_cases hc : chk s = 0
        · simp only [if_pos hc]; exact Ev.now _
        · simp only [if_neg hc]; exact Ev.now _
    · simp only [if_true]
      exact Ev.now _
theorem ba_assoc (a b c : ByteArray) : (a ++ b) ++ c = a ++ (b ++ c) := by
  apply ba_ext
  simp [ByteArray.data_append]
theorem refJoin_ev (s : ByteArray) (n : Int) (hs : s.size < 4294967200) : Ev (fun k => budwoodref02_Join.f k s n) (joinR s n) := by
  have hj : Ev (fun k => budwoodref02_Join.f k s n) (joinR s n) ↔ Ev (fun k => budwoodref02_Join.j0 k s n (decide (n < 0 ∨ n > 999))) (joinR s n) := by
    have e : (fun k => budwoodref02_Join.f k s n) = (fun k => budwoodref02_Join.j0 k s n (decide (n < 0 ∨ n > 999))) := by
      funext k
      unfold budwoodref02_Join.f
      by_cases h : n < 0
      · rw [if_pos h, decide_eq_true (.inl h)]
      · rw [if_neg h]
        by_cases h2 : n > 999
        · rw [decide_eq_true h2, decide_eq_true (.inr h2)]
        · rw [decide_eq_false h2, decide_eq_false (by omega)]
    rw [e]
  rw [hj]
  refine Ev.step (fun k => by rw [budwoodref02_Join.j0]) ?_
  unfold joinR
  by_cases h : n < 0 ∨ n > 999
  · simp only [decide_eq_true h, if_true, if_pos h]
    exact Ev.now _
  · have hn : 0 ≤ n ∧ n ≤ 999 := by omega
    simp only [decide_eq_false h, Bool.false_eq_true, if_false, if_neg h]
    refine Ev.bind (parts_ev s (by omega)) ?_
    dsimp only
    cases hh : has s
    · simp only [Bool.false_eq_true, if_false]
      by_cases hp : n > 0
      · have hi : budwoodref02_Told.f n = some ⟨(Lib.itoa n).toArray⟩ := by unfold budwoodref02_Told.f; rw [if_pos (by omega), told_itoa n hn.1 hn.2]
        have hz := itoa_size n hn.1 hn.2
        have hz2 := withV_size s n hn.1 hn.2
        simp only [if_pos hp, hi, Option.bind_some]
        rw [show ((s ++ (⟨#[64]⟩ : ByteArray)) ++ ⟨(Lib.itoa n).toArray⟩) = withV s n from ba_assoc _ _ _]
        have c1 : s.size + 1 ≤ 9223372036854775807 := by omega
        have c2 : (s ++ (⟨#[64]⟩ : ByteArray)).size + (⟨(Lib.itoa n).toArray⟩ : ByteArray).size ≤ 9223372036854775807 := by
          rw [ByteArray.size_append]
          have e : (⟨#[64]⟩ : ByteArray).size = 1 := rfl
          omega
        simp only [if_pos c1, if_pos c2]
        refine Ev.bind (refCheck_ev (withV s n) (by omega)) ?_
        by_cases hc : chk (withV s n) = 0
        · simp only [if_pos hc]; exact Ev.now _
        · simp only [if_neg hc]; exact Ev.now _
      · simp only [if_neg hp]
        refine Ev.bind (refCheck_ev s (by omega)) ?_
        by_cases hc : chk s = 0
        · simp only [if_pos hc]; exact Ev.now _
        · simp only [if_neg hc]; exact Ev.now _
    · simp only [if_true]
      exact Ev.now _
theorem joins_ev (s : ByteArray) (n : Int) (hs : s.size < 4294967200) : Ev (fun k => budwoodlaw02_NameJoins.f k s n) true := by
  unfold budwoodlaw02_NameJoins.f
  refine Ev.bind (join_ev s n hs) (Ev.bind (refJoin_ev s n hs) ?_)
  simp only [if_true]
  exact awake_end
end Go.Proofs.YtlejfpakgoaffaaDoor.Nm
